/- FnExactTableSize: the plain statement. -/
import Derived.Test.YtjhbnkplpaffoaaDoorPTab3
import Derived.Test.YtjhbnkplpaffoaaDoorG5
namespace Go.Proofs.YtjhbnkplpaffoaaDoor.Pure
open Go Go.RowKit Go.Proofs.YtjhbnkplpaffoaaDoor.Hd Go.Proofs.YtjhbnkplpaffoaaDoorW.PrintWords Go.Proofs.YtjhbnkplpaffoaaDoorW.PrintLast
set_option linter.unusedVariables false
theorem FnExactTableSize (a0 : ByteArray) (h0 : a0.size ≤ 140737488351232) : ∃ k, laws_FnExactTableSize.f k a0 = some true := by
  refine Ev.fin ?_
  unfold laws_FnExactTableSize.f
  by_cases h : (a0.size : Int) > 1048576
  · exact Ev.pos h (Ev.now _)
  · exact Ev.neg h (Ev.bd (specTableSize_ev a0 (by omega)) (Ev.bd (implTableSize_ev a0 (by omega)) (Ev.pos rfl (Ev.pos rfl (Ev.neg (by simp) (Ev.now _))))))
end Go.Proofs.YtjhbnkplpaffoaaDoor.Pure
