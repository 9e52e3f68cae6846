/- The reference's search for magic blocks (plain). -/
import Derived.Test.YtbkaedmabdgdhaaPMgA
import Derived.Test.YtbkaedmabdgdhaaPWinS
import Derived.Test.YtbkaedmabdgdhaaG0
namespace Go.Proofs.Ytbkaedmabdgdhaa.Pure
open Go.RowKit Go.Proofs.Ytbkaedmabdgdhaa.Hd Go.Proofs.YtbkaedmabdgdhaaW.PrintWords Go.Proofs.YtbkaedmabdgdhaaW.PrintLast
set_option linter.unusedVariables false
set_option linter.unusedSimpArgs false
def stpE (_ : List Int) (H : List S_Tile) : Bool := decide (H.length = 0)
def stepF (R wd : Nat) (s : List (List Int) × Nat) (l : List Int) : List (List Int) × Nat :=
  if magicB (chunksL R wd l) = true then (if s.2 = 0 then (chunksL R wd l, s.2 + 1) else (s.1, s.2 + 1)) else s
theorem stepF_q (R wd : Nat) (s : List (List Int) × Nat) (l : List Int) : s.2 ≤ (stepF R wd s l).2 ∧ (stepF R wd s l).2 ≤ s.2 + 1 := by
  unfold stepF
  split
  · split <;> simp
  · simp
theorem setT_nodup : (setT 9).Nodup := of_decide_eq_true (by kernel_rfl)
theorem lessT_nodup (H : List S_Tile) (t : S_Tile) : (lessT H t).Nodup := by
  unfold lessT sortT keepT
  exact (setT_nodup.filter _).filter _
theorem sortT_nodup (H : List S_Tile) : (sortT H).Nodup := by
  unfold sortT keepT
  exact setT_nodup.filter _
theorem lessT_len1 {H : List S_Tile} {t : S_Tile} (hn : H.Nodup) (hg : ∀ x ∈ H, goodT x = true) (ht : t ∈ H) : (lessT H t).length = H.length - 1 := by
  obtain ⟨k, hk, e⟩ := List.getElem_of_mem ht
  have hp : (lessT H t).Perm (H.eraseIdx k) := by
    rw [List.perm_ext_iff_of_nodup (lessT_nodup H t) (hn.sublist (List.eraseIdx_sublist H k))]
    intro x
    rw [lessT_mem, erase_mem hn hk, e]
    exact ⟨fun h => ⟨h.1, h.2.2⟩, fun h => ⟨h.1, hg x h.1, h.2⟩⟩
  rw [hp.length_eq, erase_len hk]
theorem sortT_len1 {H : List S_Tile} (hn : H.Nodup) (hg : ∀ x ∈ H, goodT x = true) : (sortT H).length = H.length := by
  have hp : (sortT H).Perm H := by
    rw [List.perm_ext_iff_of_nodup (sortT_nodup H) hn]
    intro x
    rw [sortT_mem]
    exact ⟨fun h => h.1, fun h => ⟨h, hg x h⟩⟩
  exact hp.length_eq
theorem lessT_good {H : List S_Tile} {t : S_Tile} : ∀ x ∈ lessT H t, goodT x = true := fun x hx => (lessT_mem.1 hx).2.1
theorem chunk_push (R wd : Nat) (l : List Int) (i : Nat) (hi : i < R) : (chunksL R wd l).take i ++ [((l.take ((i + 1) * wd)).drop (i * wd))] = (chunksL R wd l).take (i + 1) := by
  have h : i < (chunksL R wd l).length := by rw [chunksL_len]; exact hi
  rw [List.take_succ_eq_append_getElem h]
  simp [chunksL]
theorem chunks_le {R wd : Nat} {l : List Int} (hw4 : wd ≤ 4) (hN : R * wd = l.length) : ∀ x ∈ chunksL R wd l, x.length ≤ 1048576 := fun x hx => by
  have := chunks_all hN x hx; omega
theorem chunks_mem0 {R wd : Nat} {l : List Int} (hR : 1 ≤ R) : rd_i64s (chunksL R wd l) 0 ∈ chunksL R wd l := by
  have h : rd_i64s (chunksL R wd l) ((0 : Nat) : Int) = (chunksL R wd l)[0]'(by rw [chunksL_len]; omega) := rdR_at (by rw [chunksL_len]; omega)
  have e : rd_i64s (chunksL R wd l) 0 = (chunksL R wd l)[0]'(by rw [chunksL_len]; omega) := h
  rw [e]; exact List.getElem_mem _
theorem l1InM_eq (n a b : Int) : spec_l1In.f n a b = some (inB a b n) := by
  unfold spec_l1In.f inB
  by_cases h : a ≤ n
  · rw [if_pos h, decide_eq_true h, Bool.true_and]
  · rw [if_neg h, decide_eq_false h, Bool.false_and]
def stFg (l : List S_Tile) (a : Int) : List (List Int) × Nat := lookS (stepF a.toNat (wdM l a)) stpE l.length [] (sortT l) ([], 0)
theorem okMg_hand {l : List S_Tile} {a : Int} (h : okMg l a) : l.Nodup ∧ ∀ t ∈ l, goodT t = true := by
  have hh := h.1
  unfold handB difT at hh
  rw [Bool.and_eq_true, Bool.and_eq_true] at hh
  exact ⟨of_decide_eq_true hh.2.2, List.all_eq_true.1 hh.2.1⟩
end Go.Proofs.Ytbkaedmabdgdhaa.Pure
