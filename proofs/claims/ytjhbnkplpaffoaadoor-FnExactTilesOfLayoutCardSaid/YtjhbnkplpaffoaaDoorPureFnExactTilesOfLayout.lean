/- FnExactTilesOfLayout: the plain statement. -/
import Derived.Test.YtjhbnkplpaffoaaDoorPLayC
import Derived.Test.YtjhbnkplpaffoaaDoorPMarkTile
import Derived.Test.YtjhbnkplpaffoaaDoorG5
namespace Go.Proofs.YtjhbnkplpaffoaaDoor.Pure
open Go Go.RowKit Go.Proofs.YtjhbnkplpaffoaaDoor.Hd Go.Proofs.YtjhbnkplpaffoaaDoorW.PrintWords Go.Proofs.YtjhbnkplpaffoaaDoorW.PrintLast
set_option linter.unusedVariables false
theorem FnExactTilesOfLayout (a0 a1 : ByteArray) (h0 : a0.size ≤ 140737488351232) (h1 : a1.size ≤ 140737488351232) : ∃ k, laws_FnExactTilesOfLayout.f k a0 a1 = some true := by
  refine Ev.fin ?_
  unfold laws_FnExactTilesOfLayout.f
  by_cases h : (a0.size : Int) > 1048576
  · exact Ev.pos h (Ev.now _)
  refine Ev.neg h ?_
  by_cases h2 : (a1.size : Int) > 1048576
  · exact Ev.pos h2 (Ev.now _)
  have hl := tilesF_len a0 a1
  have he := eqTileS_ev (tilesF a0 a1).1 (by omega)
  have hi := implTiles_ev a0 a1 (by omega) (by omega)
  have hm := markTileS_ev (tilesF a0 a1).1 1 (by omega) (by omega) (by omega)
  have hh := heldTileS_ev (tilesF a0 a1).1.length 1 (by omega) (by omega) (by omega)
  refine Ev.neg h2 ?_
  refine Ev.bd (specTiles_ev a0 a1 (by omega) (by omega)) ?_
  refine Ev.bd hi ?_
  refine Ev.bd he (Ev.pos rfl (Ev.neg (by simp) ?_))
  refine Ev.bd hm ?_
  refine Ev.bd hh (Ev.neg (by omega) (Ev.pos rfl ?_))
  refine Ev.bd hi ?_
  refine Ev.bd he (Ev.pos rfl (Ev.neg (by simp) ?_))
  exact Ev.bd hh (Ev.neg (by omega) (Ev.pos rfl (Ev.now _)))
end Go.Proofs.YtjhbnkplpaffoaaDoor.Pure
