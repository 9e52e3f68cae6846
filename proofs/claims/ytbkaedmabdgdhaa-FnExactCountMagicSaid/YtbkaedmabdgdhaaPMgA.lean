/- Magic lists (plain). -/
import Derived.Test.YtbkaedmabdgdhaaPMagic0
import Derived.Test.YtbkaedmabdgdhaaPWinC
import Derived.Test.YtbkaedmabdgdhaaMMgA
namespace Go.Proofs.Ytbkaedmabdgdhaa.Pure
open Go.RowKit Go.Proofs.Ytbkaedmabdgdhaa.Hd Go.Proofs.YtbkaedmabdgdhaaW.PrintWords Go.Proofs.YtbkaedmabdgdhaaW.PrintLast
set_option linter.unusedVariables false
set_option linter.unusedSimpArgs false
theorem chunks_at0 {R wd : Nat} {l : List Int} (hR : 1 ≤ R) : rd_i64s (chunksL R wd l) 0 = (l.take ((0 + 1) * wd)).drop (0 * wd) := by
  have h : rd_i64s (chunksL R wd l) ((0 : Nat) : Int) = (chunksL R wd l)[0]'(by rw [chunksL_len]; omega) := rdR_at (by rw [chunksL_len]; omega)
  have e : rd_i64s (chunksL R wd l) 0 = (chunksL R wd l)[0]'(by rw [chunksL_len]; omega) := h
  rw [e]
  simp [chunksL]
theorem chunks_all {R wd : Nat} {l : List Int} (hN : R * wd = l.length) : ∀ x ∈ chunksL R wd l, x.length = wd := by
  intro x hx
  unfold chunksL at hx
  obtain ⟨j, hj, rfl⟩ := List.mem_map.1 hx
  exact chunk_len hN (List.mem_range.1 hj)
theorem chunks_rect {R wd : Nat} {l : List Int} (hR : 1 ≤ R) (hR3 : R ≤ 3) (hw4 : wd ≤ 4) (hN : R * wd = l.length) : rectL (chunksL R wd l) := by
  have h0 : (rd_i64s (chunksL R wd l) 0).length = wd := by rw [chunks_at0 hR]; exact chunk_len hN (by omega)
  refine ⟨by rw [chunksL_len]; omega, fun x hx => ?_⟩
  have := chunks_all hN x hx
  omega
theorem chunks_pos {R wd : Nat} {l : List Int} (hR : 1 ≤ R) (hw : 1 ≤ wd) (hN : R * wd = l.length) : 0 < (rd_i64s (chunksL R wd l) 0).length := by
  have h0 : (rd_i64s (chunksL R wd l) 0).length = wd := by rw [chunks_at0 hR]; exact chunk_len hN (by omega)
  omega
def stepM (R wd : Nat) (s : List Int × Nat) (l : List Int) : List Int × Nat :=
  if magicB (chunksL R wd l) = true then (if s.1 = [] ∨ cmpL l s.1 < 0 then (l, s.2 + 1) else (s.1, s.2 + 1)) else s
theorem stepM_q (R wd : Nat) (s : List Int × Nat) (l : List Int) : s.2 ≤ (stepM R wd s l).2 ∧ (stepM R wd s l).2 ≤ s.2 + 1 := by
  unfold stepM
  split
  · split <;> simp
  · simp
theorem stepM_len {R wd m : Nat} {s : List Int × Nat} {l : List Int} (hs : s.1 ≠ [] → s.1.length = 2 * m) (hl : l.length = 2 * m) : (stepM R wd s l).1 ≠ [] → (stepM R wd s l).1.length = 2 * m := by
  unfold stepM
  split
  · split
    · intro _; exact hl
    · exact hs
  · exact hs
theorem foldM_len {R wd m : Nat} : ∀ (L : List (List Int)) (s : List Int × Nat), (∀ w ∈ L, w.length = 2 * m) → (s.1 ≠ [] → s.1.length = 2 * m) → (L.foldl (stepM R wd) s).1 ≠ [] → (L.foldl (stepM R wd) s).1.length = 2 * m
  | [], s, _, hs => hs
  | w :: L, s, hL, hs => foldM_len L (stepM R wd s w) (fun x hx => hL x (List.mem_cons_of_mem _ hx)) (stepM_len hs (hL w List.mem_cons_self))
theorem walkM_len {R wd m n : Nat} {l : List Int} {H : List S_Tile} {s : List Int × Nat} (hs : s.1 ≠ [] → s.1.length = 2 * m) : (walkL (stepM R wd) m n l H s).1 ≠ [] → (walkL (stepM R wd) m n l H s).1.length = 2 * m :=
  foldM_len _ s (layN_mem m n l H) hs
theorem walkMTo_len {R wd m n : Nat} {l : List Int} {H : List S_Tile} {s : List Int × Nat} (hs : s.1 ≠ [] → s.1.length = 2 * m) (i : Nat) : (walkLTo (stepM R wd) m n l H s i).1 ≠ [] → (walkLTo (stepM R wd) m n l H s i).1.length = 2 * m := by
  refine foldM_len _ s (fun w hw => ?_) hs
  obtain ⟨k, _, h⟩ := List.mem_flatMap.1 hw
  unfold bothW at h
  rw [List.mem_append] at h
  rcases h with h | h
  · exact layN_mem m n _ _ w h
  · split at h
    · cases h
    · exact layN_mem m n _ _ w h
theorem stepM_ne {R wd : Nat} {s : List Int × Nat} {l : List Int} (hs : s.1 = [] → s.2 = 0) (hl : l ≠ []) : (stepM R wd s l).1 = [] → (stepM R wd s l).2 = 0 := by
  unfold stepM
  split
  · split
    · intro q; exact (hl q).elim
    · rename_i h
      intro q; exact (h (.inl q)).elim
  · exact hs
theorem foldM_ne {R wd : Nat} : ∀ (L : List (List Int)) (s : List Int × Nat), (∀ w ∈ L, w ≠ []) → (s.1 = [] → s.2 = 0) → (L.foldl (stepM R wd) s).1 = [] → (L.foldl (stepM R wd) s).2 = 0
  | [], s, _, hs => hs
  | w :: L, s, hL, hs => foldM_ne L (stepM R wd s w) (fun x hx => hL x (List.mem_cons_of_mem _ hx)) (stepM_ne hs (hL w List.mem_cons_self))
theorem walkM_ne {R wd m n : Nat} {l : List Int} {H : List S_Tile} (hm : 1 ≤ m) (h : (walkL (stepM R wd) m n l H ([], 0)).2 ≠ 0) : (walkL (stepM R wd) m n l H ([], 0)).1 ≠ [] := fun q =>
  h (foldM_ne _ ([], 0) (fun w hw e => by have := layN_mem m n l H w hw; subst e; simp at this; omega) (fun _ => rfl) q)
def okMg (l : List S_Tile) (a : Int) : Prop := handB l = true ∧ 1 ≤ a ∧ a ≤ 3 ∧ l.length ≤ 6 ∧ ((l.length : Int) = a ∨ (l.length : Int) = 2 * a)
instance (l : List S_Tile) (a : Int) : Decidable (okMg l a) := by unfold okMg; infer_instance
def wdM (l : List S_Tile) (a : Int) : Nat := 2 * l.length / a.toNat
def stMg (l : List S_Tile) (a : Int) : List Int × Nat := walkL (stepM a.toNat (wdM l a)) l.length l.length [] l ([], 0)
theorem okMg_at {l : List S_Tile} {a : Int} (h : okMg l a) : ∃ R wd : Nat, a = (R : Int) ∧ wdM l a = wd ∧ 1 ≤ R ∧ R ≤ 3 ∧ 1 ≤ wd ∧ wd ≤ 4 ∧ R * wd = 2 * l.length ∧ 1 ≤ l.length ∧ l.length ≤ 6 := by
  obtain ⟨_, h1, h3, h6, hl⟩ := h
  obtain ⟨R, rfl⟩ : ∃ R : Nat, a = (R : Int) := ⟨a.toNat, by omega⟩
  rcases hl with hl | hl
  · have e : l.length = R := by omega
    refine ⟨R, 2, rfl, ?_, by omega, by omega, by omega, by omega, by omega, by omega, by omega⟩
    unfold wdM
    rw [e, Int.toNat_natCast, Nat.mul_comm]
    exact Nat.mul_div_cancel_left 2 (by omega)
  · have e : l.length = 2 * R := by omega
    refine ⟨R, 4, rfl, ?_, by omega, by omega, by omega, by omega, by omega, by omega, by omega⟩
    unfold wdM
    rw [e, Int.toNat_natCast, show 2 * (2 * R) = R * 4 by omega]
    exact Nat.mul_div_cancel_left 4 (by omega)
end Go.Proofs.Ytbkaedmabdgdhaa.Pure
