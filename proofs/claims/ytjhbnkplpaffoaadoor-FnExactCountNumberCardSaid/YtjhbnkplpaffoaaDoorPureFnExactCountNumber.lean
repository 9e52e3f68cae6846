/- FnExactCountNumber: the plain statement. -/
import Derived.Test.YtjhbnkplpaffoaaDoorPTab4
import Derived.Test.YtjhbnkplpaffoaaDoorG3
namespace Go.Proofs.YtjhbnkplpaffoaaDoor.Pure
open Go Go.RowKit Go.Proofs.YtjhbnkplpaffoaaDoor.Hd Go.Proofs.YtjhbnkplpaffoaaDoorW.PrintWords Go.Proofs.YtjhbnkplpaffoaaDoorW.PrintLast
set_option linter.unusedVariables false
theorem FnExactCountNumber (a0 : ByteArray) (a1 : Int) (h0 : a0.size ≤ 140737488351232) (h1 : (Lit.int .i64 a1).wf = true) : ∃ k, laws_FnExactCountNumber.f k a0 a1 = some true := by
  refine Ev.fin ?_
  unfold laws_FnExactCountNumber.f
  by_cases h : (a0.size : Int) > 1048576
  · exact Ev.pos h (Ev.now _)
  · exact Ev.neg h (Ev.bd (specCountNumber_ev a0 a1 (by omega)) (Ev.bd (implCountNumber_ev a0 a1 (by omega)) (Ev.pos rfl (Ev.neg (by simp) (Ev.now _)))))
end Go.Proofs.YtjhbnkplpaffoaaDoor.Pure
