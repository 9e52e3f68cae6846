/- FnExactIsLayout: the plain statement. -/
import Derived.Test.YtjhbnkplpaffoaaDoorPLayB
import Derived.Test.YtjhbnkplpaffoaaDoorG4
namespace Go.Proofs.YtjhbnkplpaffoaaDoor.Pure
open Go Go.RowKit Go.Proofs.YtjhbnkplpaffoaaDoor.Hd Go.Proofs.YtjhbnkplpaffoaaDoorW.PrintWords Go.Proofs.YtjhbnkplpaffoaaDoorW.PrintLast
set_option linter.unusedVariables false
theorem FnExactIsLayout (a0 a1 : ByteArray) (h0 : a0.size ≤ 140737488351232) (h1 : a1.size ≤ 140737488351232) : ∃ k, laws_FnExactIsLayout.f k a0 a1 = some true := by
  refine Ev.fin ?_
  unfold laws_FnExactIsLayout.f
  by_cases h : (a0.size : Int) > 1048576
  · exact Ev.pos h (Ev.now _)
  refine Ev.neg h ?_
  by_cases h2 : (a1.size : Int) > 1048576
  · exact Ev.pos h2 (Ev.now _)
  · exact Ev.neg h2 (Ev.bd (specIsLayout_ev a0 a1 (by omega) (by omega)) (Ev.bd (implIsLayout_ev a0 a1 (by omega) (by omega)) (Ev.neg (by simp) (Ev.neg (by simp) (Ev.now _)))))
end Go.Proofs.YtjhbnkplpaffoaaDoor.Pure
