/- The walk by slots: sums of texts, remainders by what is no constant, slices within a capacity. -/
import Derived.Test.YtokkiiepddhkiaaGreatDoorMSx3
namespace Go.Proofs.YtokkiiepddhkiaaGreatDoor.Hd
open Go.RowKit Go.Proofs.YtokkiiepddhkiaaGreatDoorW.PrintWords Go.Proofs.YtokkiiepddhkiaaGreatDoorW.PrintLast Go.Proofs.YtokkiiepddhkiaaGreatDoorW.PrintMore
set_option linter.unusedVariables false
set_option linter.unusedSimpArgs false
section
variable {P : Program} {N : Nat} {s : List (Nat × Value)} {o : Oper} {W : World}
theorem sadd_run {t t2 : TypeId} {X Y : Operand} {a b : ByteArray} (ho : o.op = .binOp .add t X Y t2) (hX : evl N s X = .string a) (hY : evl N s Y = .string b) (h : a.size + b.size ≤ 9223372036854775807) : (execOp (evl N s) o).run P W = .ok (.value (.string (a ++ b))) W := by
  unfold execOp
  simp only [ho, hX, hY]
  simp [binOp, run_string_add_sum, h, Sem.run_bind, Sem.run_pure, eqGuard]
theorem rem_run {t t2 : TypeId} {X Y : Operand} {k : IntKind} {a b : Int} (ho : o.op = .binOp .rem t X Y t2) (hX : evl N s X = .int k a) (hY : evl N s Y = .int k b) (h0 : 0 ≤ a) (hb : 0 < b) : (execOp (evl N s) o).run P W = .ok (.value (.int k (a % b))) W := by
  unfold execOp
  simp only [ho, hX, hY]
  have e := Int.tmod_eq_emod_of_nonneg (b := b) h0
  have hb0 : b ≠ 0 := by omega
  simp [binOp, Op.intDiv, hb0, e, Sem.run_bind, Sem.run_pure, eqGuard]
end
end Go.Proofs.YtokkiiepddhkiaaGreatDoor.Hd
