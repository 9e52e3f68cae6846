/- TilesOfLayout: what both sides answer. -/
import Derived.Test.YtjhbnkplpaffoaaDoorPLayB
import Derived.Test.YtjhbnkplpaffoaaDoorPTab4
import Derived.Test.YtjhbnkplpaffoaaDoorG4
import Derived.Test.YtjhbnkplpaffoaaDoorG4
namespace Go.Proofs.YtjhbnkplpaffoaaDoor.Pure
open Go Go.RowKit Go.Proofs.YtjhbnkplpaffoaaDoor.Hd Go.Proofs.YtjhbnkplpaffoaaDoorW.PrintWords Go.Proofs.YtjhbnkplpaffoaaDoorW.PrintLast
set_option linter.unusedVariables false
set_option linter.unusedSimpArgs false
theorem cells_lets (s : ByteArray) : cells s = (lets s).map (fun x => x - 48) := by
  rw [cells_flat]
  unfold lets flatB bytesOf
  rw [toList_mkB, List.map_map]
  rfl
theorem cells_n {s : ByteArray} (h : isTab s = true) : (cells s).length = w0 (rowsB s) * (rowsB s).length ∧ w0 (rowsB s) * (rowsB s).length ≤ 30 ∧ 0 < w0 (rowsB s) ∧ (flatB s).size = w0 (rowsB s) * (rowsB s).length := by
  obtain ⟨l1, l2, l3⟩ := lets_size (taRows_of_form h)
  rw [cells_lets, List.length_map]
  refine ⟨l1, l3, l2, ?_⟩
  rw [← lets_len]
  exact l1
theorem cell_at {s : ByteArray} (h : isTab s = true) (i : Nat) (hi : i < (cells s).length) : (bt (flatB s) (i : Int) - 48) % 256 = rd (cells s) (i : Int) ∧ 0 ≤ rd (cells s) (i : Int) ∧ rd (cells s) (i : Int) ≤ 9 := by
  have hi2 : i < (lets s).length := by rw [cells_lets, List.length_map] at hi; exact hi
  obtain ⟨b, hb, e⟩ := lets_in h i hi2
  have hd : dig b = true := by rw [← digs_dig]; simpa using hb
  unfold dig at hd
  rw [Bool.and_eq_true, decide_eq_true_eq, decide_eq_true_eq] at hd
  have e2 : rd (cells s) (i : Int) = rd (lets s) (i : Int) - 48 := by
    rw [rd_at hi, rd_at hi2]
    simp only [cells_lets, List.getElem_map]
  rw [bt_lets, e2, e]
  omega
/-- The tile of two numbers. -/
def tileN (a b : Int) : S_Tile := ⟨mn a b, mx a b⟩
def tileAt (s : ByteArray) (a b : Int) : S_Tile := tileN (rd (cells s) a) (rd (cells s) b)
theorem tiOf_eq (a b : Int) : spec_tiOf.f a b = some (mn a b, mx a b) := by
  unfold spec_tiOf.f spec_l1Least.f spec_l1Most.f mn mx
  by_cases h1 : a < b
  · rw [if_pos h1, if_neg (by omega), if_neg (by omega), if_pos h1]; rfl
  · rw [if_neg h1]
    by_cases h2 : b < a
    · rw [if_pos (by omega), if_pos h2, if_neg h1]; rfl
    · obtain rfl : a = b := by omega
      rw [if_neg (by omega), if_neg h1]; rfl
theorem at_eq {s : ByteArray} (h : isTab s = true) (a b : Int) (ha : 0 ≤ a ∧ a < ((cells s).length : Int)) (hb : 0 ≤ b ∧ b < ((cells s).length : Int)) : impl_at.f (flatB s) a b = some ((tileAt s a b).f0, (tileAt s a b).f1) := by
  obtain ⟨c1, c2, c3, c4⟩ := cells_n h
  obtain ⟨i, rfl⟩ : ∃ i : Nat, a = i := ⟨a.toNat, by omega⟩
  obtain ⟨j, rfl⟩ : ∃ j : Nat, b = j := ⟨b.toNat, by omega⟩
  unfold impl_at.f
  rw [if_pos ha.1, if_pos (by omega), if_pos hb.1, if_pos (by omega), (cell_at h i (by omega)).1, (cell_at h j (by omega)).1]
  rfl
end Go.Proofs.YtjhbnkplpaffoaaDoor.Pure
