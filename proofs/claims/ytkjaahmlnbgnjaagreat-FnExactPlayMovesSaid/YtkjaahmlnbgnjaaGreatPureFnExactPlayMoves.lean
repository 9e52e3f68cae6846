/- The program's PlayMoves answers what the reference's answers, for all arguments. -/
import Derived.Test.YtkjaahmlnbgnjaaGreatPLawHeldGame
import Derived.Test.YtkjaahmlnbgnjaaGreatPMarkText
import Derived.Test.YtkjaahmlnbgnjaaGreatPSzText
import Derived.Test.YtkjaahmlnbgnjaaGreatPPlayMoves
import Derived.Test.YtkjaahmlnbgnjaaGreatG6
namespace Go.Proofs.YtkjaahmlnbgnjaaGreat.Pure
open Go.RowKit Go.Proofs.YtkjaahmlnbgnjaaGreat.Hd Go.Proofs.YtkjaahmlnbgnjaaGreatW.PrintWords Go.Proofs.YtkjaahmlnbgnjaaGreatW.PrintLast
set_option linter.unusedVariables false
set_option linter.unusedSimpArgs false
theorem FnExactPlayMoves (l0_0 : List (S_LTile)) (l0_1 : List (S_LTile)) (l0_2 : List Int) (a0_3 : Int) (a0_4 : Int) (l1 : List ByteArray) (h_l0_0 : l0_0.length ≤ 9223372036854775807) (h_l0_1 : l0_1.length ≤ 9223372036854775807) (h_l0_2 : l0_2.length ≤ 9223372036854775807) (h_a0_3 : (Lit.int .i64 a0_3).wf = true) (h_a0_4 : (Lit.int .i64 a0_4).wf = true) (h_l1 : l1.length ≤ 9223372036854775807) : ∃ k, laws_FnExactPlayMoves.f k l0_0 l0_1 l0_2 a0_3 a0_4 l1 = some true := by
  refine Ev.fin ?_
  unfold laws_FnExactPlayMoves.f
  have c1 := cpT_len l0_0
  have c2 := cpT_len l0_1
  obtain ⟨z2, hz2, bz2⟩ := szGame_eq l0_0 l0_1 l0_2 a0_3 a0_4 (by omega) (by omega) (by omega)
  refine Ev.bs hz2 ?_
  by_cases cz2 : z2 < 0
  · exact Ev.pos cz2 (Ev.ret rfl)
  refine Ev.neg cz2 ?_
  have dz2 := bz2 (by omega)
  obtain ⟨z8, hz8, bz8⟩ := szStringS_c l1 z2 (by omega) (by omega) (by omega)
  refine Ev.bd hz8 ?_
  by_cases cz8 : z8 < 0
  · exact Ev.pos cz8 (Ev.ret rfl)
  refine Ev.neg cz8 ?_
  have dz8 := bz8 (by omega)
  refine Ev.bd (toGame_ev l0_0 l0_1 l0_2 a0_3 a0_4 (by omega) (by omega) (by omega)) ?_
  refine Ev.bd (toStringS_ev l1 (by omega)) ?_
  refine Ev.bd (specPlayMoves_ev (cpT l0_0) (cpT l0_1) l0_2 a0_3 a0_4 l1 (by omega) (by omega) (by omega)) ?_
  obtain ⟨hb1, hb2, hb3⟩ := resPlayMoves_len (cpT l0_0) (cpT l0_1) l0_2 a0_3 a0_4 l1 (by omega) (by omega) (by omega)
  refine Ev.bd (toGame_ev l0_0 l0_1 l0_2 a0_3 a0_4 (by omega) (by omega) (by omega)) ?_
  refine Ev.bd (toStringS_ev l1 (by omega)) ?_
  refine Ev.bd (implPlayMoves_ev (cpT l0_0) (cpT l0_1) l0_2 a0_3 a0_4 l1 (by omega) (by omega) (by omega)) ?_
  refine Ev.bd (eqGame_ev (resPlayMoves (cpT l0_0) (cpT l0_1) l0_2 a0_3 a0_4 l1).1 ((resPlayMoves (cpT l0_0) (cpT l0_1) l0_2 a0_3 a0_4 l1).2).1 (((resPlayMoves (cpT l0_0) (cpT l0_1) l0_2 a0_3 a0_4 l1).2).2).1 ((((resPlayMoves (cpT l0_0) (cpT l0_1) l0_2 a0_3 a0_4 l1).2).2).2).1 (((((resPlayMoves (cpT l0_0) (cpT l0_1) l0_2 a0_3 a0_4 l1).2).2).2).2).1 (by omega) (by omega) (by omega)) ?_
  refine Ev.pos (by first | rfl | trivial | omega) ?_
  refine Ev.neg (by simp) ?_
  refine Ev.bd (toGame_ev l0_0 l0_1 l0_2 a0_3 a0_4 (by omega) (by omega) (by omega)) ?_
  refine Ev.bd (eqGame_ev (cpT l0_0) (cpT l0_1) l0_2 a0_3 a0_4 (by omega) (by omega) (by omega)) ?_
  refine Ev.pos (by first | rfl | trivial | omega) ?_
  refine Ev.bd (toStringS_ev l1 (by omega)) ?_
  refine Ev.bd (eqStringS_ev l1 (by omega)) ?_
  refine Ev.pos (by first | rfl | trivial | omega) ?_
  refine Ev.bd (markGame_ev (cpT l0_0) (cpT l0_1) l0_2 a0_3 a0_4 1 (by omega) (by omega) (by omega) (by omega) (by omega)) ?_
  refine Ev.bd (markStringS_ev l1 (1 + 2 * ((cpT l0_0).length : Int) + 2 * ((cpT l0_1).length : Int) + (l0_2.length : Int)) (by omega) (by omega) (by omega)) ?_
  refine Ev.neg (by omega) ?_
  refine Ev.bd (eqGame_ev (resPlayMoves (cpT l0_0) (cpT l0_1) l0_2 a0_3 a0_4 l1).1 ((resPlayMoves (cpT l0_0) (cpT l0_1) l0_2 a0_3 a0_4 l1).2).1 (((resPlayMoves (cpT l0_0) (cpT l0_1) l0_2 a0_3 a0_4 l1).2).2).1 ((((resPlayMoves (cpT l0_0) (cpT l0_1) l0_2 a0_3 a0_4 l1).2).2).2).1 (((((resPlayMoves (cpT l0_0) (cpT l0_1) l0_2 a0_3 a0_4 l1).2).2).2).2).1 (by omega) (by omega) (by omega)) ?_
  refine Ev.pos (by first | rfl | trivial | omega) ?_
  refine Ev.bd (markGame_ev (resPlayMoves (cpT l0_0) (cpT l0_1) l0_2 a0_3 a0_4 l1).1 ((resPlayMoves (cpT l0_0) (cpT l0_1) l0_2 a0_3 a0_4 l1).2).1 (((resPlayMoves (cpT l0_0) (cpT l0_1) l0_2 a0_3 a0_4 l1).2).2).1 ((((resPlayMoves (cpT l0_0) (cpT l0_1) l0_2 a0_3 a0_4 l1).2).2).2).1 (((((resPlayMoves (cpT l0_0) (cpT l0_1) l0_2 a0_3 a0_4 l1).2).2).2).2).1 1 (by omega) (by omega) (by omega) (by omega) (by omega)) ?_
  refine Ev.bd (heldGame_ev (resPlayMoves (cpT l0_0) (cpT l0_1) l0_2 a0_3 a0_4 l1).1.length ((resPlayMoves (cpT l0_0) (cpT l0_1) l0_2 a0_3 a0_4 l1).2).1.length (((resPlayMoves (cpT l0_0) (cpT l0_1) l0_2 a0_3 a0_4 l1).2).2).1.length ((((resPlayMoves (cpT l0_0) (cpT l0_1) l0_2 a0_3 a0_4 l1).2).2).2).1 (((((resPlayMoves (cpT l0_0) (cpT l0_1) l0_2 a0_3 a0_4 l1).2).2).2).2).1 1 (by omega) (by omega) (by omega) (by omega) (by omega)) ?_
  refine Ev.neg (by omega) ?_
  refine Ev.pos (by first | rfl | trivial | omega) ?_
  refine Ev.bd (toGame_ev l0_0 l0_1 l0_2 a0_3 a0_4 (by omega) (by omega) (by omega)) ?_
  refine Ev.bd (toStringS_ev l1 (by omega)) ?_
  refine Ev.bd (implPlayMoves_ev (cpT l0_0) (cpT l0_1) l0_2 a0_3 a0_4 l1 (by omega) (by omega) (by omega)) ?_
  refine Ev.bd (eqGame_ev (resPlayMoves (cpT l0_0) (cpT l0_1) l0_2 a0_3 a0_4 l1).1 ((resPlayMoves (cpT l0_0) (cpT l0_1) l0_2 a0_3 a0_4 l1).2).1 (((resPlayMoves (cpT l0_0) (cpT l0_1) l0_2 a0_3 a0_4 l1).2).2).1 ((((resPlayMoves (cpT l0_0) (cpT l0_1) l0_2 a0_3 a0_4 l1).2).2).2).1 (((((resPlayMoves (cpT l0_0) (cpT l0_1) l0_2 a0_3 a0_4 l1).2).2).2).2).1 (by omega) (by omega) (by omega)) ?_
  refine Ev.pos (by first | rfl | trivial | omega) ?_
  refine Ev.neg (by simp) ?_
  refine Ev.bd (heldGame_ev (resPlayMoves (cpT l0_0) (cpT l0_1) l0_2 a0_3 a0_4 l1).1.length ((resPlayMoves (cpT l0_0) (cpT l0_1) l0_2 a0_3 a0_4 l1).2).1.length (((resPlayMoves (cpT l0_0) (cpT l0_1) l0_2 a0_3 a0_4 l1).2).2).1.length ((((resPlayMoves (cpT l0_0) (cpT l0_1) l0_2 a0_3 a0_4 l1).2).2).2).1 (((((resPlayMoves (cpT l0_0) (cpT l0_1) l0_2 a0_3 a0_4 l1).2).2).2).2).1 1 (by omega) (by omega) (by omega) (by omega) (by omega)) ?_
  refine Ev.neg (by omega) ?_
  refine Ev.pos (by first | rfl | trivial | omega) ?_
  exact Ev.ret rfl
end Go.Proofs.YtkjaahmlnbgnjaaGreat.Pure
