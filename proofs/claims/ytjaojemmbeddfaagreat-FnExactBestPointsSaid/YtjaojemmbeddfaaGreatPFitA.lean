/- The texts of a hand's moves; what impl.ends, has, sorted answer. -/
import Derived.Test.YtjaojemmbeddfaaGreatPMovesA
import Derived.Test.YtjaojemmbeddfaaGreatPSortT
import Derived.Test.YtjaojemmbeddfaaGreatMSorted2
import Derived.Test.YtjaojemmbeddfaaGreatG0
import Derived.Test.YtjaojemmbeddfaaGreatG2
namespace Go.Proofs.YtjaojemmbeddfaaGreat.Pure
open Go.RowKit Go.Proofs.YtjaojemmbeddfaaGreat.Hd Go.Proofs.YtjaojemmbeddfaaGreatW.PrintWords Go.Proofs.YtjaojemmbeddfaaGreatW.PrintLast
set_option linter.unusedVariables false
set_option linter.unusedSimpArgs false
def num1 (x : Int) : Int := (wrap64 (48 + x)) % 256
/-- A play's text. -/
def txt (x : S_plLay) : ByteArray := bif x.f2 then ⟨#[45]⟩ else strOfNums [num1 x.f0.f0, num1 x.f0.f1] ++ (bif x.f1 then ⟨#[108]⟩ else ⟨#[114]⟩)
theorem sorted_handG {hand : List S_Tile} (hb : handB hand = true) : impl_sorted.f hand = some (sortT hand) := by
  unfold handB at hb
  simp only [Bool.and_eq_true, decide_eq_true_eq, difT] at hb
  exact sorted_eq hb.2.1 hb.2.2 (by omega)
theorem has_eq (x y b : Int) : impl_Tile_has.f x y b = some (hasT ⟨x, y⟩ b) := by
  unfold impl_Tile_has.f hasT
  by_cases h : x = b
  · rw [if_pos h]; simp [h]
  · rw [if_neg h]; simp [h]
theorem ends_eq {r : List Int} (h : r.length ≠ 0) (hr : r.length ≤ 2000000) : impl_ends.f r = some (endA r, endB r) := by
  unfold impl_ends.f endA endB
  have e : wrap64 ((r.length : Int) - 1) = (r.length : Int) - 1 := w64' rfl (by omega) (by omega)
  rw [e, if_pos (by omega), if_pos (by omega), if_pos (by omega)]
theorem fitL_nil {r : List Int} {t : S_Tile} (h : r.length = 0) : fitL r t = [⟨t, true, false⟩] := by unfold fitL; rw [if_pos h]
end Go.Proofs.YtjaojemmbeddfaaGreat.Pure
