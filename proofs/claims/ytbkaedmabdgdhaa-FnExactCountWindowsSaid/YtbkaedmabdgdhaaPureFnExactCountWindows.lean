/- The program's CountWindows answers what the reference's answers, for all arguments. -/
import Derived.Test.YtbkaedmabdgdhaaPLawTile
import Derived.Test.YtbkaedmabdgdhaaPWindows
import Derived.Test.YtbkaedmabdgdhaaG4
namespace Go.Proofs.Ytbkaedmabdgdhaa.Pure
open Go.RowKit Go.Proofs.Ytbkaedmabdgdhaa.Hd Go.Proofs.YtbkaedmabdgdhaaW.PrintWords Go.Proofs.YtbkaedmabdgdhaaW.PrintLast
set_option linter.unusedVariables false
set_option linter.unusedSimpArgs false
theorem FnExactCountWindows (l0 : List (S_LTile)) (h_l0 : l0.length ≤ 9223372036854775807) : ∃ k, laws_FnExactCountWindows.f k l0 = some true := by
  refine Ev.fin ?_
  unfold laws_FnExactCountWindows.f
  have c1 := cpT_len l0
  obtain ⟨z1, hz1, bz1⟩ := szTileS_c l0 1048576 (by omega) (by omega) (by omega)
  refine Ev.bs hz1 ?_
  by_cases cz1 : z1 < 0
  · exact Ev.pos cz1 (Ev.ret rfl)
  refine Ev.neg cz1 ?_
  have dz1 := bz1 (by omega)
  refine Ev.bd (toTileS_ev l0 (by omega)) ?_
  refine Ev.bd (specCountWindows_ev (cpT l0)) ?_
  refine Ev.bd (toTileS_ev l0 (by omega)) ?_
  refine Ev.bd (implCountWindows_ev (cpT l0)) ?_
  refine Ev.pos (by first | rfl | trivial | omega) ?_
  refine Ev.neg (by simp) ?_
  refine Ev.bd (toTileS_ev l0 (by omega)) ?_
  refine Ev.bd (eqTileS_ev (cpT l0) (by omega)) ?_
  refine Ev.pos (by first | rfl | trivial | omega) ?_
  exact Ev.ret rfl
end Go.Proofs.Ytbkaedmabdgdhaa.Pure
