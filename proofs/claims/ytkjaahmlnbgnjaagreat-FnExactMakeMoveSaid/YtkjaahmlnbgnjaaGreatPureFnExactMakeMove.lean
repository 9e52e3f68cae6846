/- The program's MakeMove answers what the reference's answers, for all arguments. -/
import Derived.Test.YtkjaahmlnbgnjaaGreatPLawHeldGame
import Derived.Test.YtkjaahmlnbgnjaaGreatPMakeMove
import Derived.Test.YtkjaahmlnbgnjaaGreatG7
namespace Go.Proofs.YtkjaahmlnbgnjaaGreat.Pure
open Go.RowKit Go.Proofs.YtkjaahmlnbgnjaaGreat.Hd Go.Proofs.YtkjaahmlnbgnjaaGreatW.PrintWords Go.Proofs.YtkjaahmlnbgnjaaGreatW.PrintLast
set_option linter.unusedVariables false
set_option linter.unusedSimpArgs false
theorem FnExactMakeMove (l0_0 : List (S_LTile)) (l0_1 : List (S_LTile)) (l0_2 : List Int) (a0_3 : Int) (a0_4 : Int) (a1 : ByteArray) (h_l0_0 : l0_0.length ≤ 9223372036854775807) (h_l0_1 : l0_1.length ≤ 9223372036854775807) (h_l0_2 : l0_2.length ≤ 9223372036854775807) (h_a0_3 : (Lit.int .i64 a0_3).wf = true) (h_a0_4 : (Lit.int .i64 a0_4).wf = true) (h_a1 : a1.size ≤ 140737488351232) : ∃ k, laws_FnExactMakeMove.f k l0_0 l0_1 l0_2 a0_3 a0_4 a1 = some true := by
  refine Ev.fin ?_
  unfold laws_FnExactMakeMove.f
  have c1 := cpT_len l0_0
  have c2 := cpT_len l0_1
  by_cases hc2 : (a1.size : Int) > 1048576
  · exact Ev.pos hc2 (Ev.ret rfl)
  refine Ev.neg hc2 ?_
  obtain ⟨z5, hz5, bz5⟩ := szGame_eq l0_0 l0_1 l0_2 a0_3 a0_4 (by omega) (by omega) (by omega)
  refine Ev.bs hz5 ?_
  by_cases cz5 : z5 < 0
  · exact Ev.pos cz5 (Ev.ret rfl)
  refine Ev.neg cz5 ?_
  have dz5 := bz5 (by omega)
  refine Ev.bd (toGame_ev l0_0 l0_1 l0_2 a0_3 a0_4 (by omega) (by omega) (by omega)) ?_
  refine Ev.bd (specMakeMove_ev (cpT l0_0) (cpT l0_1) l0_2 a0_3 a0_4 a1 (by omega) (by omega) (by omega)) ?_
  obtain ⟨hb1, hb2, hb3⟩ := resMakeMove_len (cpT l0_0) (cpT l0_1) l0_2 a0_3 a0_4 a1 (by omega) (by omega) (by omega)
  refine Ev.bd (toGame_ev l0_0 l0_1 l0_2 a0_3 a0_4 (by omega) (by omega) (by omega)) ?_
  refine Ev.bd (implMakeMove_ev (cpT l0_0) (cpT l0_1) l0_2 a0_3 a0_4 a1 (by omega) (by omega) (by omega)) ?_
  refine Ev.bd (eqGame_ev (resMakeMove (cpT l0_0) (cpT l0_1) l0_2 a0_3 a0_4 a1).1 ((resMakeMove (cpT l0_0) (cpT l0_1) l0_2 a0_3 a0_4 a1).2).1 (((resMakeMove (cpT l0_0) (cpT l0_1) l0_2 a0_3 a0_4 a1).2).2).1 ((((resMakeMove (cpT l0_0) (cpT l0_1) l0_2 a0_3 a0_4 a1).2).2).2).1 (((((resMakeMove (cpT l0_0) (cpT l0_1) l0_2 a0_3 a0_4 a1).2).2).2).2).1 (by omega) (by omega) (by omega)) ?_
  refine Ev.pos (by first | rfl | trivial | omega) ?_
  refine Ev.neg (by simp) ?_
  refine Ev.bd (toGame_ev l0_0 l0_1 l0_2 a0_3 a0_4 (by omega) (by omega) (by omega)) ?_
  refine Ev.bd (eqGame_ev (cpT l0_0) (cpT l0_1) l0_2 a0_3 a0_4 (by omega) (by omega) (by omega)) ?_
  refine Ev.pos (by first | rfl | trivial | omega) ?_
  refine Ev.bd (markGame_ev (cpT l0_0) (cpT l0_1) l0_2 a0_3 a0_4 1 (by omega) (by omega) (by omega) (by omega) (by omega)) ?_
  refine Ev.neg (by omega) ?_
  refine Ev.bd (eqGame_ev (resMakeMove (cpT l0_0) (cpT l0_1) l0_2 a0_3 a0_4 a1).1 ((resMakeMove (cpT l0_0) (cpT l0_1) l0_2 a0_3 a0_4 a1).2).1 (((resMakeMove (cpT l0_0) (cpT l0_1) l0_2 a0_3 a0_4 a1).2).2).1 ((((resMakeMove (cpT l0_0) (cpT l0_1) l0_2 a0_3 a0_4 a1).2).2).2).1 (((((resMakeMove (cpT l0_0) (cpT l0_1) l0_2 a0_3 a0_4 a1).2).2).2).2).1 (by omega) (by omega) (by omega)) ?_
  refine Ev.pos (by first | rfl | trivial | omega) ?_
  refine Ev.bd (markGame_ev (resMakeMove (cpT l0_0) (cpT l0_1) l0_2 a0_3 a0_4 a1).1 ((resMakeMove (cpT l0_0) (cpT l0_1) l0_2 a0_3 a0_4 a1).2).1 (((resMakeMove (cpT l0_0) (cpT l0_1) l0_2 a0_3 a0_4 a1).2).2).1 ((((resMakeMove (cpT l0_0) (cpT l0_1) l0_2 a0_3 a0_4 a1).2).2).2).1 (((((resMakeMove (cpT l0_0) (cpT l0_1) l0_2 a0_3 a0_4 a1).2).2).2).2).1 1 (by omega) (by omega) (by omega) (by omega) (by omega)) ?_
  refine Ev.bd (heldGame_ev (resMakeMove (cpT l0_0) (cpT l0_1) l0_2 a0_3 a0_4 a1).1.length ((resMakeMove (cpT l0_0) (cpT l0_1) l0_2 a0_3 a0_4 a1).2).1.length (((resMakeMove (cpT l0_0) (cpT l0_1) l0_2 a0_3 a0_4 a1).2).2).1.length ((((resMakeMove (cpT l0_0) (cpT l0_1) l0_2 a0_3 a0_4 a1).2).2).2).1 (((((resMakeMove (cpT l0_0) (cpT l0_1) l0_2 a0_3 a0_4 a1).2).2).2).2).1 1 (by omega) (by omega) (by omega) (by omega) (by omega)) ?_
  refine Ev.neg (by omega) ?_
  refine Ev.pos (by first | rfl | trivial | omega) ?_
  refine Ev.bd (toGame_ev l0_0 l0_1 l0_2 a0_3 a0_4 (by omega) (by omega) (by omega)) ?_
  refine Ev.bd (implMakeMove_ev (cpT l0_0) (cpT l0_1) l0_2 a0_3 a0_4 a1 (by omega) (by omega) (by omega)) ?_
  refine Ev.bd (eqGame_ev (resMakeMove (cpT l0_0) (cpT l0_1) l0_2 a0_3 a0_4 a1).1 ((resMakeMove (cpT l0_0) (cpT l0_1) l0_2 a0_3 a0_4 a1).2).1 (((resMakeMove (cpT l0_0) (cpT l0_1) l0_2 a0_3 a0_4 a1).2).2).1 ((((resMakeMove (cpT l0_0) (cpT l0_1) l0_2 a0_3 a0_4 a1).2).2).2).1 (((((resMakeMove (cpT l0_0) (cpT l0_1) l0_2 a0_3 a0_4 a1).2).2).2).2).1 (by omega) (by omega) (by omega)) ?_
  refine Ev.pos (by first | rfl | trivial | omega) ?_
  refine Ev.neg (by simp) ?_
  refine Ev.bd (heldGame_ev (resMakeMove (cpT l0_0) (cpT l0_1) l0_2 a0_3 a0_4 a1).1.length ((resMakeMove (cpT l0_0) (cpT l0_1) l0_2 a0_3 a0_4 a1).2).1.length (((resMakeMove (cpT l0_0) (cpT l0_1) l0_2 a0_3 a0_4 a1).2).2).1.length ((((resMakeMove (cpT l0_0) (cpT l0_1) l0_2 a0_3 a0_4 a1).2).2).2).1 (((((resMakeMove (cpT l0_0) (cpT l0_1) l0_2 a0_3 a0_4 a1).2).2).2).2).1 1 (by omega) (by omega) (by omega) (by omega) (by omega)) ?_
  refine Ev.neg (by omega) ?_
  refine Ev.pos (by first | rfl | trivial | omega) ?_
  exact Ev.ret rfl
end Go.Proofs.YtkjaahmlnbgnjaaGreat.Pure
