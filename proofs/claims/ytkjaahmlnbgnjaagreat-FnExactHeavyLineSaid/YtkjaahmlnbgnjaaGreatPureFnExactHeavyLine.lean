/- The program's HeavyLine answers what the reference's answers, for all arguments. -/
import Derived.Test.YtkjaahmlnbgnjaaGreatPLawMarkGame
import Derived.Test.YtkjaahmlnbgnjaaGreatPMarkText
import Derived.Test.YtkjaahmlnbgnjaaGreatPHeavyLine
import Derived.Test.YtkjaahmlnbgnjaaGreatG6
namespace Go.Proofs.YtkjaahmlnbgnjaaGreat.Pure
open Go.RowKit Go.Proofs.YtkjaahmlnbgnjaaGreat.Hd Go.Proofs.YtkjaahmlnbgnjaaGreatW.PrintWords Go.Proofs.YtkjaahmlnbgnjaaGreatW.PrintLast
set_option linter.unusedVariables false
set_option linter.unusedSimpArgs false
theorem FnExactHeavyLine (l0_0 : List (S_LTile)) (l0_1 : List (S_LTile)) (l0_2 : List Int) (a0_3 : Int) (a0_4 : Int) (h_l0_0 : l0_0.length ≤ 9223372036854775807) (h_l0_1 : l0_1.length ≤ 9223372036854775807) (h_l0_2 : l0_2.length ≤ 9223372036854775807) (h_a0_3 : (Lit.int .i64 a0_3).wf = true) (h_a0_4 : (Lit.int .i64 a0_4).wf = true) : ∃ k, laws_FnExactHeavyLine.f k l0_0 l0_1 l0_2 a0_3 a0_4 = some true := by
  refine Ev.fin ?_
  unfold laws_FnExactHeavyLine.f
  have c1 := cpT_len l0_0
  have c2 := cpT_len l0_1
  obtain ⟨z2, hz2, bz2⟩ := szGame_eq l0_0 l0_1 l0_2 a0_3 a0_4 (by omega) (by omega) (by omega)
  refine Ev.bs hz2 ?_
  by_cases cz2 : z2 < 0
  · exact Ev.pos cz2 (Ev.ret rfl)
  refine Ev.neg cz2 ?_
  have dz2 := bz2 (by omega)
  refine Ev.bd (toGame_ev l0_0 l0_1 l0_2 a0_3 a0_4 (by omega) (by omega) (by omega)) ?_
  refine Ev.bd (specHeavyLine_ev (cpT l0_0) (cpT l0_1) l0_2 a0_3 a0_4 (by omega) (by omega) (by omega)) ?_
  have hb1 := resHeavyLine_len (cpT l0_0) (cpT l0_1) l0_2 a0_3 a0_4
  refine Ev.bd (toGame_ev l0_0 l0_1 l0_2 a0_3 a0_4 (by omega) (by omega) (by omega)) ?_
  refine Ev.bd (implHeavyLine_ev (cpT l0_0) (cpT l0_1) l0_2 a0_3 a0_4 (by omega) (by omega) (by omega)) ?_
  refine Ev.bd (eqStringS_ev (resHeavyLine (cpT l0_0) (cpT l0_1) l0_2 a0_3 a0_4).1 (by omega)) ?_
  refine Ev.pos (by first | rfl | trivial | omega) ?_
  refine Ev.neg (by simp) ?_
  refine Ev.bd (toGame_ev l0_0 l0_1 l0_2 a0_3 a0_4 (by omega) (by omega) (by omega)) ?_
  refine Ev.bd (eqGame_ev (cpT l0_0) (cpT l0_1) l0_2 a0_3 a0_4 (by omega) (by omega) (by omega)) ?_
  refine Ev.pos (by first | rfl | trivial | omega) ?_
  refine Ev.bd (markGame_ev (cpT l0_0) (cpT l0_1) l0_2 a0_3 a0_4 1 (by omega) (by omega) (by omega) (by omega) (by omega)) ?_
  refine Ev.neg (by omega) ?_
  refine Ev.bd (eqStringS_ev (resHeavyLine (cpT l0_0) (cpT l0_1) l0_2 a0_3 a0_4).1 (by omega)) ?_
  refine Ev.pos (by first | rfl | trivial | omega) ?_
  refine Ev.bd (markStringS_ev (resHeavyLine (cpT l0_0) (cpT l0_1) l0_2 a0_3 a0_4).1 1 (by omega) (by omega) (by omega)) ?_
  refine Ev.bd (heldStringS_ev (resHeavyLine (cpT l0_0) (cpT l0_1) l0_2 a0_3 a0_4).1.length 1 (by omega) (by omega) (by omega)) ?_
  refine Ev.neg (by omega) ?_
  refine Ev.pos (by first | rfl | trivial | omega) ?_
  refine Ev.bd (toGame_ev l0_0 l0_1 l0_2 a0_3 a0_4 (by omega) (by omega) (by omega)) ?_
  refine Ev.bd (implHeavyLine_ev (cpT l0_0) (cpT l0_1) l0_2 a0_3 a0_4 (by omega) (by omega) (by omega)) ?_
  refine Ev.bd (eqStringS_ev (resHeavyLine (cpT l0_0) (cpT l0_1) l0_2 a0_3 a0_4).1 (by omega)) ?_
  refine Ev.pos (by first | rfl | trivial | omega) ?_
  refine Ev.neg (by simp) ?_
  refine Ev.bd (heldStringS_ev (resHeavyLine (cpT l0_0) (cpT l0_1) l0_2 a0_3 a0_4).1.length 1 (by omega) (by omega) (by omega)) ?_
  refine Ev.neg (by omega) ?_
  refine Ev.pos (by first | rfl | trivial | omega) ?_
  exact Ev.ret rfl
end Go.Proofs.YtkjaahmlnbgnjaaGreat.Pure
