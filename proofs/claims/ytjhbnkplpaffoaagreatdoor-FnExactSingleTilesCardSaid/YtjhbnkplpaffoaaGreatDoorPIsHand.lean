/- Hands: what IsHand answers. -/
import Derived.Test.YtjhbnkplpaffoaaGreatDoorPTile
import Derived.Test.YtjhbnkplpaffoaaGreatDoorMHand
namespace Go.Proofs.YtjhbnkplpaffoaaGreatDoor.Pure
open Go.RowKit Go.Proofs.YtjhbnkplpaffoaaGreatDoor.Hd Go.Proofs.YtjhbnkplpaffoaaGreatDoorW.PrintWords Go.Proofs.YtjhbnkplpaffoaaGreatDoorW.PrintLast
set_option linter.unusedVariables false
set_option linter.unusedSimpArgs false
theorem isHand_ev (l : List S_Tile) : Ev (fun k => impl_IsHand.f k l) (handB l) := by
  unfold impl_IsHand.f handB
  by_cases h : l.length ≤ 55
  · rw [decide_eq_true h, Bool.true_and]
    refine Ev.pos (by omega) ?_
    by_cases g : l.all tileB = true
    · have g2 : l.all goodT = true := g
      rw [g2, Bool.true_and]
      exact Ev.pos g (areDif_ev l (by omega))
    · have g2 : l.all goodT = false := Bool.eq_false_iff.2 g
      rw [g2, Bool.false_and]
      exact Ev.neg g (Ev.ret rfl)
  · rw [decide_eq_false h, Bool.false_and]
    exact Ev.neg (by omega) (Ev.ret rfl)
end Go.Proofs.YtjhbnkplpaffoaaGreatDoor.Pure
