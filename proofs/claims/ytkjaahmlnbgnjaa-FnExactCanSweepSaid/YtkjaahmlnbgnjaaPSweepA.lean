/- Laying all tiles of a hand: the program's way, plain. -/
import Derived.Test.YtkjaahmlnbgnjaaPDelP
namespace Go.Proofs.Ytkjaahmlnbgnjaa.Pure
open Go.RowKit Go.Proofs.Ytkjaahmlnbgnjaa.Hd Go.Proofs.YtkjaahmlnbgnjaaW.PrintWords Go.Proofs.YtkjaahmlnbgnjaaW.PrintLast
set_option linter.unusedVariables false
set_option linter.unusedSimpArgs false
def outS (b : List S_Tile) (x : S_Tile) : Bool := !decide (x ∈ b)
/-- The tiles of a hand that are not in b, sorted. -/
def lessS (h b : List S_Tile) : List S_Tile := (sortT h).filter (outS b)
theorem sortT_perm {l : List S_Tile} (h : handB l = true) : List.Perm (sortT l) l := by
  unfold handB at h
  simp only [Bool.and_eq_true, decide_eq_true_eq, difT] at h
  rw [← sort_eq h.2.1 h.2.2]
  exact List.mergeSort_perm l leT
theorem sortT_hand {l : List S_Tile} (h : handB l = true) : handB (sortT l) = true := by
  have hp := sortT_perm h
  unfold handB difT at h ⊢
  rw [Bool.and_eq_true, Bool.and_eq_true] at h ⊢
  obtain ⟨h1, h2, h3⟩ := h
  refine ⟨decide_eq_true (by rw [hp.length_eq]; exact of_decide_eq_true h1), ?_, decide_eq_true ((hp.nodup_iff).2 (of_decide_eq_true h3))⟩
  rw [List.all_eq_true] at h2 ⊢
  exact fun x hx => h2 x (hp.mem_iff.1 hx)
theorem filter_hand {l : List S_Tile} (h : handB l = true) (p : S_Tile → Bool) : handB (l.filter p) = true := by
  unfold handB difT at h ⊢
  rw [Bool.and_eq_true, Bool.and_eq_true] at h ⊢
  obtain ⟨h1, h2, h3⟩ := h
  refine ⟨decide_eq_true (Nat.le_trans (List.length_filter_le _ _) (of_decide_eq_true h1)), ?_, decide_eq_true ((of_decide_eq_true h3).sublist List.filter_sublist)⟩
  rw [List.all_eq_true] at h2 ⊢
  exact fun x hx => h2 x (List.mem_filter.1 hx).1
theorem lessS_hand {h : List S_Tile} (hh : handB h = true) (b : List S_Tile) : handB (lessS h b) = true := filter_hand (sortT_hand hh) _
theorem lessS_mem {h b : List S_Tile} (hh : handB h = true) (x : S_Tile) : x ∈ lessS h b ↔ x ∈ h ∧ x ∉ b := by
  unfold lessS outS
  rw [List.mem_filter, (sortT_perm hh).mem_iff]
  simp
theorem lessS_lt {h : List S_Tile} (hh : handB h = true) {t : S_Tile} (ht : t ∈ h) : (lessS h [t]).length < h.length := by
  rw [← (sortT_perm hh).length_eq]
  exact List.length_filter_lt_length_iff_exists.2 ⟨t, (sortT_perm hh).mem_iff.2 ht, by simp [outS]⟩
/-- Whether all tiles of a hand can be laid, as the program looks for it. -/
def swI : Nat → List S_Tile → List Int → Bool
  | 0, _, _ => true
  | d + 1, h, r => if h.length = 0 then true else (fitTo r (sortT h) (sortT h).length).any fun x => swI d (lessS h [x.f0]) (rowP r x)
theorem fit_mem {h : List S_Tile} (hh : handB h = true) {r : List Int} {x : S_plLay} (hx : x ∈ fitTo r (sortT h) (sortT h).length) : x.f2 = false ∧ x.f0 ∈ h ∧ goodT x.f0 = true ∧ (r.length = 0 → x.f1 = true) ∧ (r.length ≠ 0 → hasT x.f0 (if x.f1 = true then endA r else endB r) = true) := by
  unfold fitTo at hx
  rw [List.mem_flatMap] at hx
  obtain ⟨t, ht, hx⟩ := hx
  have hg := (sortT_mem h t).1 (List.mem_of_mem_take ht)
  unfold fitL at hx
  split at hx
  · rename_i h0
    rw [List.mem_singleton] at hx; subst hx
    exact ⟨rfl, hg.1, hg.2, fun _ => rfl, fun q => absurd h0 q⟩
  · rename_i h0
    rw [List.mem_append] at hx
    rcases hx with hx | hx
    · split at hx
      · rename_i ha
        rw [List.mem_singleton] at hx; subst hx
        exact ⟨rfl, hg.1, hg.2, fun _ => rfl, fun _ => by simpa using ha⟩
      · exact absurd hx List.not_mem_nil
    · split at hx
      · rename_i ha
        rw [List.mem_singleton] at hx; subst hx
        exact ⟨rfl, hg.1, hg.2, fun q => absurd q h0, fun _ => by simpa using ha⟩
      · exact absurd hx List.not_mem_nil
theorem rowP_len (r : List Int) (x : S_plLay) : (rowP r x).length ≤ r.length + 2 := by
  unfold rowP
  split
  · simp
  · split <;> simp <;> omega
def FitOk (h : List S_Tile) (r : List Int) (x : S_plLay) : Prop := x.f2 = false ∧ x.f0 ∈ h ∧ goodT x.f0 = true ∧ (r.length = 0 → x.f1 = true) ∧ (r.length ≠ 0 → hasT x.f0 (if x.f1 = true then endA r else endB r) = true)
def stepI (d : Nat) (h : List S_Tile) (r : List Int) (x : S_plLay) : Bool := swI d (lessS h [x.f0]) (rowP r x)
theorem swI_succ (d : Nat) (h : List S_Tile) (r : List Int) : swI (d + 1) h r = if h.length = 0 then true else (fitTo r (sortT h) (sortT h).length).any (stepI d h r) := rfl
theorem rdLay_lt {L : List S_plLay} {i : Nat} (h : i < L.length) : rd_plLay L (i : Int) = L[i] := by unfold rd_plLay; rw [Int.toNat_natCast]; simp [h]
theorem rdOf_lay {L : List S_plLay} {i : Nat} (h : i < L.length) : rdOf ByteArray.empty (L.map txt) (i : Int) = txt (rd_plLay L (i : Int)) := by
  unfold rdOf
  rw [Int.toNat_natCast, List.getD_eq_getElem?_getD, List.getElem?_eq_getElem (by rw [List.length_map]; exact h), rdLay_lt h, List.getElem_map]
  rfl
theorem any_hit {L : List S_plLay} {p : S_plLay → Bool} {i : Nat} (h : i < L.length) (hp : p (rd_plLay L (i : Int)) = true) : L.any p = true := by
  rw [rdLay_lt h] at hp
  exact List.any_eq_true.2 ⟨_, List.getElem_mem h, hp⟩
theorem any_none {L : List S_plLay} {p : S_plLay → Bool} (ha : ∀ j, j < L.length → p (rd_plLay L (j : Int)) = false) : L.any p = false := by
  rw [List.any_eq_false]
  intro x hx
  obtain ⟨j, hj, rfl⟩ := List.getElem_of_mem hx
  have := ha j hj
  rw [rdLay_lt hj] at this
  rw [this]; simp
end Go.Proofs.Ytkjaahmlnbgnjaa.Pure
