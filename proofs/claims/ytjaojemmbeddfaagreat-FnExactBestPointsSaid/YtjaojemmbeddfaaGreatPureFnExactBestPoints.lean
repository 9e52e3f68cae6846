/- The program's BestPoints answers what the reference's answers, for all arguments. -/
import Derived.Test.YtjaojemmbeddfaaGreatPLawGame
import Derived.Test.YtjaojemmbeddfaaGreatPBestPoints
import Derived.Test.YtjaojemmbeddfaaGreatG6
namespace Go.Proofs.YtjaojemmbeddfaaGreat.Pure
open Go.RowKit Go.Proofs.YtjaojemmbeddfaaGreat.Hd Go.Proofs.YtjaojemmbeddfaaGreatW.PrintWords Go.Proofs.YtjaojemmbeddfaaGreatW.PrintLast
set_option linter.unusedVariables false
set_option linter.unusedSimpArgs false
theorem FnExactBestPoints (l0_0 : List (S_LTile)) (l0_1 : List (S_LTile)) (l0_2 : List Int) (a0_3 : Int) (a0_4 : Int) (h_l0_0 : l0_0.length ≤ 9223372036854775807) (h_l0_1 : l0_1.length ≤ 9223372036854775807) (h_l0_2 : l0_2.length ≤ 9223372036854775807) (h_a0_3 : (Lit.int .i64 a0_3).wf = true) (h_a0_4 : (Lit.int .i64 a0_4).wf = true) : ∃ k, laws_FnExactBestPoints.f k l0_0 l0_1 l0_2 a0_3 a0_4 = some true := by
  refine Ev.fin ?_
  unfold laws_FnExactBestPoints.f
  have c1 := cpT_len l0_0
  have c2 := cpT_len l0_1
  obtain ⟨z2, hz2, bz2⟩ := szGame_eq l0_0 l0_1 l0_2 a0_3 a0_4 (by omega) (by omega) (by omega)
  refine Ev.bs hz2 ?_
  by_cases cz2 : z2 < 0
  · exact Ev.pos cz2 (Ev.ret rfl)
  refine Ev.neg cz2 ?_
  have dz2 := bz2 (by omega)
  refine Ev.bd (toGame_ev l0_0 l0_1 l0_2 a0_3 a0_4 (by omega) (by omega) (by omega)) ?_
  refine Ev.bd (specBestPoints_ev (cpT l0_0) (cpT l0_1) l0_2 a0_3 a0_4 (by omega) (by omega) (by omega)) ?_
  refine Ev.bd (toGame_ev l0_0 l0_1 l0_2 a0_3 a0_4 (by omega) (by omega) (by omega)) ?_
  refine Ev.bd (implBestPoints_ev (cpT l0_0) (cpT l0_1) l0_2 a0_3 a0_4 (by omega) (by omega) (by omega)) ?_
  refine Ev.pos (by first | rfl | trivial | omega) ?_
  refine Ev.neg (by simp) ?_
  refine Ev.bd (toGame_ev l0_0 l0_1 l0_2 a0_3 a0_4 (by omega) (by omega) (by omega)) ?_
  refine Ev.bd (eqGame_ev (cpT l0_0) (cpT l0_1) l0_2 a0_3 a0_4 (by omega) (by omega) (by omega)) ?_
  refine Ev.pos (by first | rfl | trivial | omega) ?_
  exact Ev.ret rfl
end Go.Proofs.YtjaojemmbeddfaaGreat.Pure
