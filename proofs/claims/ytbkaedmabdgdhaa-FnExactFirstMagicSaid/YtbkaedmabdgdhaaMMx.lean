/- The library's variable is kept by what only adds to the heap; the empty text; bytes; division by a variable. -/
import Derived.Below
import Derived.Test.YtbkaedmabdgdhaaMSx5
import Derived.Laws.BitsLemmas
namespace Go.Proofs.Ytbkaedmabdgdhaa.Hd
open Go Go.RowKit Go.Proofs.YtbkaedmabdgdhaaW.PrintWords Go.Proofs.YtbkaedmabdgdhaaW.PrintLast
set_option linter.unusedVariables false
set_option linter.unusedSimpArgs false
section
variable {P : Program} {N : Nat} {s : List (Nat × Value)} {o : Oper} {W : World}
theorem quov_run {t t2 : TypeId} {X Y : Operand} {x y : Int} (ho : o.op = .binOp .quo t X Y t2) (hX : evl N s X = .int .i64 x) (hY : evl N s Y = .int .i64 y) (h : y ≠ 0) : (execOp (evl N s) o).run P W = .ok (.value (.int .i64 (wrap64 (Int.tdiv x y)))) W := by
  have e : Op.intDiv .quo .i64 x y = pure (.int .i64 (wrap64 (Int.tdiv x y))) := by
    unfold Op.intDiv
    rw [← i64_w]
    simp [h]
  unfold execOp
  simp only [ho, hX, hY]
  simp [binOp, e, eqGuard, Sem.run_pure]
end
end Go.Proofs.Ytbkaedmabdgdhaa.Hd
