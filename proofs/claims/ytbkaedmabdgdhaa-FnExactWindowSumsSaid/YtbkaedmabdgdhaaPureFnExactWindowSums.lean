/- The program's WindowSums answers what the reference's answers, for all arguments. -/
import Derived.Test.YtbkaedmabdgdhaaPLawTile
import Derived.Test.YtbkaedmabdgdhaaPMarkTile0
import Derived.Test.YtbkaedmabdgdhaaPMarkInt
import Derived.Test.YtbkaedmabdgdhaaPWinSums
import Derived.Test.YtbkaedmabdgdhaaG5
namespace Go.Proofs.Ytbkaedmabdgdhaa.Pure
open Go.RowKit Go.Proofs.Ytbkaedmabdgdhaa.Hd Go.Proofs.YtbkaedmabdgdhaaW.PrintWords Go.Proofs.YtbkaedmabdgdhaaW.PrintLast
set_option linter.unusedVariables false
set_option linter.unusedSimpArgs false
theorem FnExactWindowSums (l0 : List (S_LTile)) (h_l0 : l0.length ≤ 9223372036854775807) : ∃ k, laws_FnExactWindowSums.f k l0 = some true := by
  refine Ev.fin ?_
  unfold laws_FnExactWindowSums.f
  have c1 := cpT_len l0
  obtain ⟨z1, hz1, bz1⟩ := szTileS_c l0 1048576 (by omega) (by omega) (by omega)
  refine Ev.bs hz1 ?_
  by_cases cz1 : z1 < 0
  · exact Ev.pos cz1 (Ev.ret rfl)
  refine Ev.neg cz1 ?_
  have dz1 := bz1 (by omega)
  refine Ev.bd (toTileS_ev l0 (by omega)) ?_
  refine Ev.bd (specWindowSums_ev (cpT l0)) ?_
  have hb1 := resWindowSums_len (cpT l0)
  refine Ev.bd (toTileS_ev l0 (by omega)) ?_
  refine Ev.bd (implWindowSums_ev (cpT l0)) ?_
  refine Ev.bd (eqIntS_ev (resWindowSums (cpT l0)).1 (by omega)) ?_
  refine Ev.pos (by first | rfl | trivial | omega) ?_
  refine Ev.neg (by simp) ?_
  refine Ev.bd (toTileS_ev l0 (by omega)) ?_
  refine Ev.bd (eqTileS_ev (cpT l0) (by omega)) ?_
  refine Ev.pos (by first | rfl | trivial | omega) ?_
  refine Ev.bd (markTileS_ev (cpT l0) 1 (by omega) (by omega) (by omega)) ?_
  refine Ev.neg (by omega) ?_
  refine Ev.bd (eqIntS_ev (resWindowSums (cpT l0)).1 (by omega)) ?_
  refine Ev.pos (by first | rfl | trivial | omega) ?_
  refine Ev.bd (markIntS_ev (resWindowSums (cpT l0)).1 1 (by omega) (by omega) (by omega)) ?_
  refine Ev.bd (heldIntS_ev (resWindowSums (cpT l0)).1.length 1 (by omega) (by omega) (by omega)) ?_
  refine Ev.neg (by omega) ?_
  refine Ev.pos (by first | rfl | trivial | omega) ?_
  refine Ev.bd (toTileS_ev l0 (by omega)) ?_
  refine Ev.bd (implWindowSums_ev (cpT l0)) ?_
  refine Ev.bd (eqIntS_ev (resWindowSums (cpT l0)).1 (by omega)) ?_
  refine Ev.pos (by first | rfl | trivial | omega) ?_
  refine Ev.neg (by simp) ?_
  refine Ev.bd (heldIntS_ev (resWindowSums (cpT l0)).1.length 1 (by omega) (by omega) (by omega)) ?_
  refine Ev.neg (by omega) ?_
  refine Ev.pos (by first | rfl | trivial | omega) ?_
  exact Ev.ret rfl
end Go.Proofs.Ytbkaedmabdgdhaa.Pure
