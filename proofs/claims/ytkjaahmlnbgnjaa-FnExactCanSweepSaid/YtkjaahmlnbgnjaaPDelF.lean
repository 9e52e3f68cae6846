/- A tile taken out of a hand: where it lies; the hand as slices.DeleteFunc leaves it, step by step. -/
import Derived.Test.YtkjaahmlnbgnjaaPGames
namespace Go.Proofs.Ytkjaahmlnbgnjaa.Pure
open Go.RowKit Go.Proofs.Ytkjaahmlnbgnjaa.Hd Go.Proofs.YtkjaahmlnbgnjaaW.PrintWords Go.Proofs.YtkjaahmlnbgnjaaW.PrintLast
set_option linter.unusedVariables false
set_option linter.unusedSimpArgs false
theorem rdT_lt {l : List S_Tile} {i : Nat} (h : i < l.length) : rd_Tile l (i : Int) = l[i] := by unfold rd_Tile; rw [Int.toNat_natCast]; simp [h]
theorem txt_lay {x : S_plLay} (h : x.f2 = false) : (txt x).size = 3 := by
  unfold txt
  rw [h, cond_false, ByteArray.size_append, strOfNums_size]
  cases x.f1 <;> rfl
end Go.Proofs.Ytkjaahmlnbgnjaa.Pure
