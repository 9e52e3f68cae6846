/- The program's BlockTiles answers what the reference's answers, for all arguments. -/
import Derived.Test.YtnoagkhmmckiaaaPMarkIntSS
import Derived.Test.YtnoagkhmmckiaaaPBlockTiles
import Derived.Test.YtnoagkhmmckiaaaPMarkTile
import Derived.Test.YtnoagkhmmckiaaaG6
namespace Go.Proofs.Ytnoagkhmmckiaaa.Pure
open Go.RowKit Go.Proofs.Ytnoagkhmmckiaaa.Hd Go.Proofs.YtnoagkhmmckiaaaW.PrintWords Go.Proofs.YtnoagkhmmckiaaaW.PrintLast
set_option linter.unusedVariables false
set_option linter.unusedSimpArgs false
theorem FnExactBlockTiles (l0 : List (List Int)) (h_l0 : l0.length ≤ 9223372036854775807) (hh_l0 : ∀ x ∈ l0, x.length ≤ 9223372036854775807) : ∃ k, laws_FnExactBlockTiles.f k l0 = some true := by
  refine Ev.fin ?_
  unfold laws_FnExactBlockTiles.f
  obtain ⟨z0, hz0, bz0⟩ := szIntSS_c l0 1048576 (by omega) (by omega) (by omega) hh_l0
  refine Ev.bd hz0 ?_
  by_cases cz0 : z0 < 0
  · exact Ev.pos cz0 (Ev.ret rfl)
  refine Ev.neg cz0 ?_
  have dz0 := bz0 (by omega)
  refine Ev.bd (toIntSS_ev l0 (by omega) (by omega)) ?_
  refine Ev.bd (specBlockTiles_ev l0 (by omega) (by omega)) ?_
  have hb1 := resBlockTiles_len l0 (by omega)
  refine Ev.bd (toIntSS_ev l0 (by omega) (by omega)) ?_
  refine Ev.bd (implBlockTiles_ev l0 (by omega) (by omega)) ?_
  refine Ev.bd (eqTileS_ev (resBlockTiles l0).1 (by omega)) ?_
  refine Ev.pos (by first | rfl | trivial | omega) ?_
  refine Ev.neg (by simp) ?_
  refine Ev.bd (toIntSS_ev l0 (by omega) (by omega)) ?_
  refine Ev.bd (eqIntSS_ev l0 (by omega) (by omega)) ?_
  refine Ev.pos (by first | rfl | trivial | omega) ?_
  refine Ev.bd (markIntSS_ev l0 1 (by omega) (by omega) (by omega) (by omega)) ?_
  refine Ev.neg (by omega) ?_
  refine Ev.bd (eqTileS_ev (resBlockTiles l0).1 (by omega)) ?_
  refine Ev.pos (by first | rfl | trivial | omega) ?_
  refine Ev.bd (markTileS_ev (resBlockTiles l0).1 1 (by omega) (by omega) (by omega)) ?_
  refine Ev.bd (heldTileS_ev (resBlockTiles l0).1.length 1 (by omega) (by omega) (by omega)) ?_
  refine Ev.neg (by omega) ?_
  refine Ev.pos (by first | rfl | trivial | omega) ?_
  refine Ev.bd (toIntSS_ev l0 (by omega) (by omega)) ?_
  refine Ev.bd (implBlockTiles_ev l0 (by omega) (by omega)) ?_
  refine Ev.bd (eqTileS_ev (resBlockTiles l0).1 (by omega)) ?_
  refine Ev.pos (by first | rfl | trivial | omega) ?_
  refine Ev.neg (by simp) ?_
  refine Ev.bd (heldTileS_ev (resBlockTiles l0).1.length 1 (by omega) (by omega) (by omega)) ?_
  refine Ev.neg (by omega) ?_
  refine Ev.pos (by first | rfl | trivial | omega) ?_
  exact Ev.ret rfl
end Go.Proofs.Ytnoagkhmmckiaaa.Pure
