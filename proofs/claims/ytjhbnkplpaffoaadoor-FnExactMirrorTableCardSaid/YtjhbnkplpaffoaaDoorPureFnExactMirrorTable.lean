/- FnExactMirrorTable: the plain statement. -/
import Derived.Test.YtjhbnkplpaffoaaDoorPMirror2
import Derived.Test.YtjhbnkplpaffoaaDoorG3
namespace Go.Proofs.YtjhbnkplpaffoaaDoor.Pure
open Go Go.RowKit Go.Proofs.YtjhbnkplpaffoaaDoor.Hd Go.Proofs.YtjhbnkplpaffoaaDoorW.PrintWords Go.Proofs.YtjhbnkplpaffoaaDoorW.PrintLast
set_option linter.unusedVariables false
theorem FnExactMirrorTable (a0 : ByteArray) (h0 : a0.size ≤ 140737488351232) : ∃ k, laws_FnExactMirrorTable.f k a0 = some true := by
  refine Ev.fin ?_
  unfold laws_FnExactMirrorTable.f
  by_cases h : (a0.size : Int) > 1048576
  · exact Ev.pos h (Ev.now _)
  · refine Ev.neg h (Ev.bd (specMir_ev a0 (by omega)) (Ev.bs (implMir_eq a0 (by omega)) ?_))
    exact Ev.pos rfl (Ev.neg (by simp) (Ev.now _))
end Go.Proofs.YtjhbnkplpaffoaaDoor.Pure
