/- The library's variable is kept by what only adds to the heap; the empty text; bytes; division by a variable. -/
import Derived.Below
import Derived.Test.YtokkiiepddhkiaaDoorMSx5
import Derived.Laws.BitsLemmas
namespace Go.Proofs.YtokkiiepddhkiaaDoor.Hd
open Go Go.RowKit Go.Proofs.YtokkiiepddhkiaaDoorW.PrintWords Go.Proofs.YtokkiiepddhkiaaDoorW.PrintLast
set_option linter.unusedVariables false
set_option linter.unusedSimpArgs false
theorem tnil : (⟨#[]⟩ : ByteArray).toList = [] := by rw [ByteArray.toList_eq]
theorem u8_w {run : World → Result Next} {W : World} {x : Int} (hr : run W = .ok (.value (.int .u8 (IntKind.wrap .u8 x))) W) : run W = .ok (.value (.int .u8 (x % 256))) W := by
  rw [hr, IntKind.wrap_u8]
section
variable {P : Program} {N : Nat} {s : List (Nat × Value)} {o : Oper} {W : World}
theorem remv_run {t t2 : TypeId} {X Y : Operand} {x y : Int} (ho : o.op = .binOp .rem t X Y t2) (hX : evl N s X = .int .i64 x) (hY : evl N s Y = .int .i64 y) (h : y ≠ 0) : (execOp (evl N s) o).run P W = .ok (.value (.int .i64 (Int.tmod x y))) W := by
  have e : Op.intDiv .rem .i64 x y = pure (.int .i64 (Int.tmod x y)) := by
    unfold Op.intDiv
    simp [h]
  unfold execOp
  simp only [ho, hX, hY]
  simp [binOp, e, eqGuard, Sem.run_pure]
end
end Go.Proofs.YtokkiiepddhkiaaDoor.Hd
