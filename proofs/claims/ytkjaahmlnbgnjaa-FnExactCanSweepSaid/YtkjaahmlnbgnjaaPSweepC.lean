/- What CanSweep answers, plain. -/
import Derived.Test.YtkjaahmlnbgnjaaPSweepT
namespace Go.Proofs.Ytkjaahmlnbgnjaa.Pure
open Go.RowKit Go.Proofs.Ytkjaahmlnbgnjaa.Hd Go.Proofs.YtkjaahmlnbgnjaaW.PrintWords Go.Proofs.YtkjaahmlnbgnjaaW.PrintLast
set_option linter.unusedVariables false
set_option linter.unusedSimpArgs false
def swAll (h : List S_Tile) (r : List Int) : Bool := if r.length = 0 then first0 h else sw h (endA r) (endB r)
def resCanSweep (f s : List S_Tile) (r : List Int) (t p : Int) : Bool × Bool := if gameB f s r t p = true ∧ (ownT f s t).length ≤ 8 then (swAll (ownT f s t) r, true) else (false, false)
theorem swAll_impl {h : List S_Tile} (hh : handB h = true) (h8 : h.length ≤ 8) (r : List Int) : swI 9 h r = swAll h r := by
  unfold swAll
  by_cases h0 : r.length = 0
  · rw [if_pos h0, List.length_eq_zero_iff.1 h0]
    exact swI_empty hh h8
  · rw [if_neg h0]
    exact swI_row hh h0
theorem swAll_row {h : List S_Tile} {r : List Int} (h0 : r.length ≠ 0) : swAll h r = sw (subH h (2 ^ h.length - 1)) (rd r 0) (rd r ((r.length : Int) - 1)) := by
  unfold swAll
  rw [if_neg h0, sw_all_set]
  rfl
theorem swAll_yes {h : List S_Tile} {r : List Int} (hn : h.Nodup) (h8 : h.length ≤ 8) (h0 : r.length = 0) {i : Nat} (hi : i < h.length) (hy : sw (subH h (clr (2 ^ h.length - 1) i)) (rd_Tile h (i : Int)).f0 (rd_Tile h (i : Int)).f1 = true) : swAll h r = true := by
  unfold swAll first0
  rw [if_pos h0, Bool.or_eq_true]
  right
  rw [sw_first hn h8 hi, rdTile_lt hi] at hy
  exact List.any_eq_true.2 ⟨h[i], List.getElem_mem hi, hy⟩
theorem swAll_no {h : List S_Tile} {r : List Int} (hn : h.Nodup) (h8 : h.length ≤ 8) (h0 : r.length = 0) (hy : ∀ i, i < h.length → sw (subH h (clr (2 ^ h.length - 1) i)) (rd_Tile h (i : Int)).f0 (rd_Tile h (i : Int)).f1 = false) : swAll h r = ((h.length : Int) == 0) := by
  unfold swAll first0
  rw [if_pos h0]
  have : (h.any fun t => sw (gone1 h t) t.f0 t.f1) = false := by
    rw [List.any_eq_false]
    intro x hx
    obtain ⟨i, hi, rfl⟩ := List.getElem_of_mem hx
    have q := hy i hi
    rw [sw_first hn h8 hi, rdTile_lt hi] at q
    rw [q]; simp
  rw [this, Bool.or_false]
  by_cases q : h.length = 0
  · rw [decide_eq_true q, q]; rfl
  · rw [decide_eq_false q]
    exact (beq_eq_false_iff_ne.2 (by omega)).symm
theorem handB_parts {h : List S_Tile} (hh : handB h = true) : h.Nodup ∧ ∀ t ∈ h, goodT t = true := by
  unfold handB difT at hh
  rw [Bool.and_eq_true, Bool.and_eq_true] at hh
  exact ⟨of_decide_eq_true hh.2.2, List.all_eq_true.1 hh.2.1⟩
theorem rd_memW {l : List Int} {i : Int} (h0 : 0 ≤ i) (h : i < l.length) : rd l i ∈ l := by
  unfold rd
  rw [List.getD_eq_getElem?_getD, List.getElem?_eq_getElem (show i.toNat < l.length by omega)]
  exact List.getElem_mem _
theorem game_ends {f s : List S_Tile} {r : List Int} {t p : Int} (h : gameB f s r t p = true) (h0 : r.length ≠ 0) : (0 ≤ rd r 0 ∧ rd r 0 ≤ 9) ∧ 0 ≤ rd r ((r.length : Int) - 1) ∧ rd r ((r.length : Int) - 1) ≤ 9 := by
  have ha : ∀ x ∈ r, 0 ≤ x ∧ x ≤ 9 := by
    unfold gameB rowB at h
    simp only [Bool.and_eq_true] at h
    have hx := h.2.1
    rw [Bool.or_eq_true] at hx
    rcases hx with q | q
    · exact absurd (of_decide_eq_true q) h0
    · rw [Bool.and_eq_true] at q
      have q2 := q.2
      unfold chainB at q2
      simp only [Bool.and_eq_true, List.all_eq_true, inB, decide_eq_true_eq] at q2
      exact q2.2.1
  exact ⟨ha _ (rd_memW (by omega) (by omega)), ha _ (rd_memW (by omega) (by omega))⟩
theorem shl_small : ∀ n ≤ 8, shlN 100 n ≤ 25600 ∧ shlN 1 n ≤ 256 ∧ shlN 1 n = 2 ^ n ∧ shlN 100 n = 100 * 2 ^ n := of_decide_eq_true (by kernel_rfl)
end Go.Proofs.Ytkjaahmlnbgnjaa.Pure
