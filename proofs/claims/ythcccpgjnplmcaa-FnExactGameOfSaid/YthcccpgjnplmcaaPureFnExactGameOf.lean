/- The program's GameOf answers what the reference's answers, for all arguments. -/
import Derived.Test.YthcccpgjnplmcaaPLawMarkGame
import Derived.Test.YthcccpgjnplmcaaPGameOf
import Derived.Test.YthcccpgjnplmcaaG7
namespace Go.Proofs.Ythcccpgjnplmcaa.Pure
open Go.RowKit Go.Proofs.Ythcccpgjnplmcaa.Hd Go.Proofs.YthcccpgjnplmcaaW.PrintWords Go.Proofs.YthcccpgjnplmcaaW.PrintLast
set_option linter.unusedVariables false
set_option linter.unusedSimpArgs false
theorem FnExactGameOf (l0 : List (S_LTile)) (l1 : List (S_LTile)) (h_l0 : l0.length ≤ 9223372036854775807) (h_l1 : l1.length ≤ 9223372036854775807) : ∃ k, laws_FnExactGameOf.f k l0 l1 = some true := by
  refine Ev.fin ?_
  unfold laws_FnExactGameOf.f
  have c1 := cpT_len l0
  have c2 := cpT_len l1
  obtain ⟨z2, hz2, bz2⟩ := szTileS_c l0 1048576 (by omega) (by omega) (by omega)
  refine Ev.bs hz2 ?_
  by_cases cz2 : z2 < 0
  · exact Ev.pos cz2 (Ev.ret rfl)
  refine Ev.neg cz2 ?_
  have dz2 := bz2 (by omega)
  obtain ⟨z8, hz8, bz8⟩ := szTileS_c l1 z2 (by omega) (by omega) (by omega)
  refine Ev.bs hz8 ?_
  by_cases cz8 : z8 < 0
  · exact Ev.pos cz8 (Ev.ret rfl)
  refine Ev.neg cz8 ?_
  have dz8 := bz8 (by omega)
  refine Ev.bd (toTileS_ev l0 (by omega)) ?_
  refine Ev.bd (toTileS_ev l1 (by omega)) ?_
  refine Ev.bd (specGameOf_ev (cpT l0) (cpT l1) (by omega) (by omega)) ?_
  obtain ⟨hb1, hb2, hb3⟩ := resGameOf_len (cpT l0) (cpT l1) (by omega) (by omega)
  refine Ev.bd (toTileS_ev l0 (by omega)) ?_
  refine Ev.bd (toTileS_ev l1 (by omega)) ?_
  refine Ev.bd (implGameOf_ev (cpT l0) (cpT l1) (by omega) (by omega)) ?_
  refine Ev.bd (eqGame_ev (resGameOf (cpT l0) (cpT l1)).1 ((resGameOf (cpT l0) (cpT l1)).2).1 (((resGameOf (cpT l0) (cpT l1)).2).2).1 ((((resGameOf (cpT l0) (cpT l1)).2).2).2).1 (((((resGameOf (cpT l0) (cpT l1)).2).2).2).2).1 (by omega) (by omega) (by omega)) ?_
  refine Ev.pos (by first | rfl | trivial | omega) ?_
  refine Ev.neg (by simp) ?_
  refine Ev.bd (toTileS_ev l0 (by omega)) ?_
  refine Ev.bd (eqTileS_ev (cpT l0) (by omega)) ?_
  refine Ev.pos (by first | rfl | trivial | omega) ?_
  refine Ev.bd (toTileS_ev l1 (by omega)) ?_
  refine Ev.bd (eqTileS_ev (cpT l1) (by omega)) ?_
  refine Ev.pos (by first | rfl | trivial | omega) ?_
  refine Ev.bd (markTileS_ev (cpT l0) 1 (by omega) (by omega) (by omega)) ?_
  refine Ev.bd (markTileS_ev (cpT l1) (1 + 2 * ((cpT l0).length : Int)) (by omega) (by omega) (by omega)) ?_
  refine Ev.neg (by omega) ?_
  refine Ev.bd (eqGame_ev (resGameOf (cpT l0) (cpT l1)).1 ((resGameOf (cpT l0) (cpT l1)).2).1 (((resGameOf (cpT l0) (cpT l1)).2).2).1 ((((resGameOf (cpT l0) (cpT l1)).2).2).2).1 (((((resGameOf (cpT l0) (cpT l1)).2).2).2).2).1 (by omega) (by omega) (by omega)) ?_
  refine Ev.pos (by first | rfl | trivial | omega) ?_
  refine Ev.bd (markGame_ev (resGameOf (cpT l0) (cpT l1)).1 ((resGameOf (cpT l0) (cpT l1)).2).1 (((resGameOf (cpT l0) (cpT l1)).2).2).1 ((((resGameOf (cpT l0) (cpT l1)).2).2).2).1 (((((resGameOf (cpT l0) (cpT l1)).2).2).2).2).1 1 (by omega) (by omega) (by omega) (by omega) (by omega)) ?_
  refine Ev.bd (heldGame_ev (resGameOf (cpT l0) (cpT l1)).1.length ((resGameOf (cpT l0) (cpT l1)).2).1.length (((resGameOf (cpT l0) (cpT l1)).2).2).1.length ((((resGameOf (cpT l0) (cpT l1)).2).2).2).1 (((((resGameOf (cpT l0) (cpT l1)).2).2).2).2).1 1 (by omega) (by omega) (by omega) (by omega) (by omega)) ?_
  refine Ev.neg (by omega) ?_
  refine Ev.pos (by first | rfl | trivial | omega) ?_
  refine Ev.bd (toTileS_ev l0 (by omega)) ?_
  refine Ev.bd (toTileS_ev l1 (by omega)) ?_
  refine Ev.bd (implGameOf_ev (cpT l0) (cpT l1) (by omega) (by omega)) ?_
  refine Ev.bd (eqGame_ev (resGameOf (cpT l0) (cpT l1)).1 ((resGameOf (cpT l0) (cpT l1)).2).1 (((resGameOf (cpT l0) (cpT l1)).2).2).1 ((((resGameOf (cpT l0) (cpT l1)).2).2).2).1 (((((resGameOf (cpT l0) (cpT l1)).2).2).2).2).1 (by omega) (by omega) (by omega)) ?_
  refine Ev.pos (by first | rfl | trivial | omega) ?_
  refine Ev.neg (by simp) ?_
  refine Ev.bd (heldGame_ev (resGameOf (cpT l0) (cpT l1)).1.length ((resGameOf (cpT l0) (cpT l1)).2).1.length (((resGameOf (cpT l0) (cpT l1)).2).2).1.length ((((resGameOf (cpT l0) (cpT l1)).2).2).2).1 (((((resGameOf (cpT l0) (cpT l1)).2).2).2).2).1 1 (by omega) (by omega) (by omega) (by omega) (by omega)) ?_
  refine Ev.neg (by omega) ?_
  refine Ev.pos (by first | rfl | trivial | omega) ?_
  exact Ev.ret rfl
end Go.Proofs.Ythcccpgjnplmcaa.Pure
