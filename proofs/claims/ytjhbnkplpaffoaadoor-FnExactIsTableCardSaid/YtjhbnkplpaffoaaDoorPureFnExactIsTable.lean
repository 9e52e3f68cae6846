/- FnExactIsTable: the plain statement. -/
import Derived.Test.YtjhbnkplpaffoaaDoorPTab3
import Derived.Test.YtjhbnkplpaffoaaDoorG4
namespace Go.Proofs.YtjhbnkplpaffoaaDoor.Pure
open Go Go.RowKit Go.Proofs.YtjhbnkplpaffoaaDoor.Hd Go.Proofs.YtjhbnkplpaffoaaDoorW.PrintWords Go.Proofs.YtjhbnkplpaffoaaDoorW.PrintLast
set_option linter.unusedVariables false
theorem FnExactIsTable (a0 : ByteArray) (h0 : a0.size ≤ 140737488351232) : ∃ k, laws_FnExactIsTable.f k a0 = some true := by
  refine Ev.fin ?_
  unfold laws_FnExactIsTable.f
  by_cases h : (a0.size : Int) > 1048576
  · exact Ev.pos h (Ev.now _)
  · exact Ev.neg h (Ev.bd (specIsTable_ev a0 (by omega)) (Ev.bd (implIsTable_ev a0 (by omega)) (Ev.neg (by simp) (Ev.now _))))
end Go.Proofs.YtjhbnkplpaffoaaDoor.Pure
