/- What IsWindow and the reference's wiGood answer. -/
import Derived.Test.YtnoagkhmmckiaaaPPairs
import Derived.Test.YtnoagkhmmckiaaaG0
import Derived.Test.YtnoagkhmmckiaaaG2
namespace Go.Proofs.Ytnoagkhmmckiaaa.Pure
open Go.RowKit Go.Proofs.Ytnoagkhmmckiaaa.Hd Go.Proofs.YtnoagkhmmckiaaaW.PrintWords Go.Proofs.YtnoagkhmmckiaaaW.PrintLast
set_option linter.unusedVariables false
set_option linter.unusedSimpArgs false
def winB (l : List Int) : Bool := decide (l.length = 8) && (l.all (inB 0 9) && difT (prs l))
theorem wiGood_ev (l : List Int) : Ev (fun k => spec_wiGood.f k l) (winB l) := by
  unfold spec_wiGood.f winB
  by_cases h : l.length = 8
  · rw [decide_eq_true h, Bool.true_and]
    refine Ev.pos (by omega) (Ev.bd (l1All_ev l (by omega) 0 9) ?_)
    by_cases g : l.all (inB 0 9) = true
    · refine Ev.pos g (Ev.bd (wiTiles_ev l (by omega)) (Ev.bd (tiHand_ev _) (Ev.ret ?_)))
      rw [g, Bool.true_and, hand_prs (by omega) g]
    · refine Ev.neg g (Ev.ret ?_)
      rw [Bool.eq_false_iff.2 g, Bool.false_and]
  · rw [decide_eq_false h, Bool.false_and]
    exact Ev.neg (by omega) (Ev.ret rfl)
theorem isWindow_ev (l : List Int) : Ev (fun k => impl_IsWindow.f k l) (winB l) := by
  unfold impl_IsWindow.f winB
  by_cases h : l.length = 8
  · rw [decide_eq_true h, Bool.true_and]
    refine Ev.pos (by omega) (Ev.bs (areWithin_eq l 0 9) ?_)
    by_cases g : l.all (inB 0 9) = true
    · refine Ev.pos g (Ev.bd (tilesIn_ev l (by omega)) (Ev.bd (areDif_ev _ (by have := prs_len l; omega)) (Ev.ret ?_)))
      rw [g, Bool.true_and]
    · refine Ev.neg g (Ev.ret ?_)
      rw [Bool.eq_false_iff.2 g, Bool.false_and]
  · rw [decide_eq_false h, Bool.false_and]
    exact Ev.neg (by omega) (Ev.ret rfl)
end Go.Proofs.Ytnoagkhmmckiaaa.Pure
