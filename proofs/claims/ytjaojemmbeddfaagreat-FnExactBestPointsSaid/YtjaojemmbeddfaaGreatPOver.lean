/- Whether a game is over. -/
import Derived.Test.YtjaojemmbeddfaaGreatPGame
import Derived.Test.YtjaojemmbeddfaaGreatG2
import Derived.Test.YtjaojemmbeddfaaGreatG2
namespace Go.Proofs.YtjaojemmbeddfaaGreat.Pure
open Go.RowKit Go.Proofs.YtjaojemmbeddfaaGreat.Hd Go.Proofs.YtjaojemmbeddfaaGreatW.PrintWords Go.Proofs.YtjaojemmbeddfaaGreatW.PrintLast
set_option linter.unusedVariables false
set_option linter.unusedSimpArgs false
def overB (f s : List S_Tile) (p : Int) : Bool := decide (f.length = 0) || (decide (s.length = 0) || p == 2)
theorem plOver_eq (f s : List S_Tile) (r : List Int) (t p : Int) : spec_plOver.f f s r t p = some (overB f s p) := by
  unfold spec_plOver.f overB
  by_cases h : f.length = 0
  · rw [if_pos (by omega), decide_eq_true h, Bool.true_or]
  · rw [if_neg (by omega), decide_eq_false h, Bool.false_or]
    by_cases h2 : s.length = 0
    · rw [if_pos (by omega), decide_eq_true h2, Bool.true_or]
    · rw [if_neg (by omega), decide_eq_false h2, Bool.false_or]
theorem isOver_eq (f s : List S_Tile) (r : List Int) (t p : Int) : impl_Game_isOver.f f s r t p = some (overB f s p) := by
  unfold impl_Game_isOver.f overB
  by_cases h : f.length = 0
  · rw [if_pos (by omega), decide_eq_true h, Bool.true_or]
  · rw [if_neg (by omega), decide_eq_false h, Bool.false_or]
    by_cases h2 : s.length = 0
    · rw [if_pos (by omega), decide_eq_true h2, Bool.true_or]
    · rw [if_neg (by omega), decide_eq_false h2, Bool.false_or]
end Go.Proofs.YtjaojemmbeddfaaGreat.Pure
