/- The program's DealHands answers what the reference's answers, for all arguments. -/
import Derived.Test.YtdcjapdkbocgmaaPLawTile
import Derived.Test.YtdcjapdkbocgmaaPMarkTile
import Derived.Test.YtdcjapdkbocgmaaPDealHands
import Derived.Test.YtdcjapdkbocgmaaG2
namespace Go.Proofs.Ytdcjapdkbocgmaa.Pure
open Go.RowKit Go.Proofs.Ytdcjapdkbocgmaa.Hd Go.Proofs.YtdcjapdkbocgmaaW.PrintWords Go.Proofs.YtdcjapdkbocgmaaW.PrintLast
set_option linter.unusedVariables false
set_option linter.unusedSimpArgs false
theorem FnExactDealHands : laws_FnExactDealHands.Pure := by
  intro a0 a1 a2 h_a0 h_a1 h_a2
  refine Ev.fin ?_
  unfold laws_FnExactDealHands.f
  refine Ev.bd (specDealHands_ev a0 a1 a2) ?_
  obtain ⟨hb1, hb2⟩ := resDealHands_len a0 a1 a2
  refine Ev.bd (implDealHands_ev a0 a1 a2) ?_
  refine Ev.bd (eqTileS_ev (resDealHands a0 a1 a2).1 (by omega)) ?_
  refine Ev.pos (by first | rfl | trivial | omega) ?_
  refine Ev.bd (eqTileS_ev ((resDealHands a0 a1 a2).2).1 (by omega)) ?_
  refine Ev.pos (by first | rfl | trivial | omega) ?_
  refine Ev.neg (by simp) ?_
  refine Ev.bd (markTileS_ev (resDealHands a0 a1 a2).1 1 (by omega) (by omega) (by omega)) ?_
  refine Ev.bd (markTileS_ev ((resDealHands a0 a1 a2).2).1 (1 + 2 * ((resDealHands a0 a1 a2).1.length : Int)) (by omega) (by omega) (by omega)) ?_
  refine Ev.bd (heldTileS_ev (resDealHands a0 a1 a2).1.length 1 (by omega) (by omega) (by omega)) ?_
  refine Ev.neg (by omega) ?_
  refine Ev.bd (heldTileS_ev ((resDealHands a0 a1 a2).2).1.length (1 + 2 * ((resDealHands a0 a1 a2).1.length : Int)) (by omega) (by omega) (by omega)) ?_
  refine Ev.neg (by omega) ?_
  refine Ev.pos (by first | rfl | trivial | omega) ?_
  refine Ev.bd (implDealHands_ev a0 a1 a2) ?_
  refine Ev.bd (eqTileS_ev (resDealHands a0 a1 a2).1 (by omega)) ?_
  refine Ev.pos (by first | rfl | trivial | omega) ?_
  refine Ev.bd (eqTileS_ev ((resDealHands a0 a1 a2).2).1 (by omega)) ?_
  refine Ev.pos (by first | rfl | trivial | omega) ?_
  refine Ev.neg (by simp) ?_
  refine Ev.bd (heldTileS_ev (resDealHands a0 a1 a2).1.length 1 (by omega) (by omega) (by omega)) ?_
  refine Ev.neg (by omega) ?_
  refine Ev.bd (heldTileS_ev ((resDealHands a0 a1 a2).2).1.length (1 + 2 * ((resDealHands a0 a1 a2).1.length : Int)) (by omega) (by omega) (by omega)) ?_
  refine Ev.neg (by omega) ?_
  refine Ev.pos (by first | rfl | trivial | omega) ?_
  exact Ev.ret rfl
end Go.Proofs.Ytdcjapdkbocgmaa.Pure
