/- The walk by slots: sums of texts, remainders by what is no constant, slices within a capacity. -/
import Derived.Test.YtokkiiepddhkiaaDoorMSx3
namespace Go.Proofs.YtokkiiepddhkiaaDoor.Hd
open Go.RowKit Go.Proofs.YtokkiiepddhkiaaDoorW.PrintWords Go.Proofs.YtokkiiepddhkiaaDoorW.PrintLast Go.Proofs.YtokkiiepddhkiaaDoorW.PrintMore
set_option linter.unusedVariables false
set_option linter.unusedSimpArgs false
section
variable {P : Program} {N : Nat} {s : List (Nat × Value)} {o : Oper} {W : World}
theorem sadd_run {t t2 : TypeId} {X Y : Operand} {a b : ByteArray} (ho : o.op = .binOp .add t X Y t2) (hX : evl N s X = .string a) (hY : evl N s Y = .string b) (h : a.size + b.size ≤ 9223372036854775807) : (execOp (evl N s) o).run P W = .ok (.value (.string (a ++ b))) W := by
  unfold execOp
  simp only [ho, hX, hY]
  simp [binOp, run_string_add_sum, h, Sem.run_bind, Sem.run_pure, eqGuard]
end
end Go.Proofs.YtokkiiepddhkiaaDoor.Hd
