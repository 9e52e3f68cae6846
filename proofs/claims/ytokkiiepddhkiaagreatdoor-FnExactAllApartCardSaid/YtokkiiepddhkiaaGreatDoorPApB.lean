/- Tables taken apart: the layouts that both sides find are the same; plain. -/
import Derived.Test.YtokkiiepddhkiaaGreatDoorPApA
import Derived.Test.YtokkiiepddhkiaaGreatDoorPLayS
namespace Go.Proofs.YtokkiiepddhkiaaGreatDoor.Pure
open Go.RowKit Go.Proofs.YtokkiiepddhkiaaGreatDoor.Hd Go.Proofs.YtokkiiepddhkiaaGreatDoorW.PrintWords Go.Proofs.YtokkiiepddhkiaaGreatDoorW.PrintLast
set_option linter.unusedVariables false
set_option linter.unusedSimpArgs false
theorem lvs_sim {η η' : Type} {nx : η → Nat → Nat → Option η} {nx' : η' → Nat → Nat → Option η'} {R : η → η' → Prop} (hR : ∀ h h' i j, R h h' → (nx h i j = none ∧ nx' h' i j = none) ∨ ∃ k k', nx h i j = some k ∧ nx' h' i j = some k' ∧ R k k') {w n : Int} :
    ∀ (d : Nat) (b : List Int) (a : Nat) (h : η) (h' : η'), R h h' → (lvs nx w n d b a h).map Prod.fst = (lvs nx' w n d b a h').map Prod.fst := by
  intro d
  induction d with
  | zero => intro b a h h' _; rfl
  | succ d ih =>
    intro b a h h' hh
    have key : ∀ i j l l2, (putL nx (lvs nx w n d) b i j l l2 h).map Prod.fst = (putL nx' (lvs nx' w n d) b i j l l2 h').map Prod.fst := by
      intro i j l l2
      unfold putL
      by_cases c : 0 ≤ j ∧ rd b j = 0
      · rw [if_pos c, if_pos c]
        rcases hR h h' i j.toNat hh with ⟨e1, e2⟩ | ⟨k, k', e1, e2, hk⟩
        · rw [e1, e2]; rfl
        · rw [e1, e2]; exact ih _ _ _ _ hk
      · rw [if_neg c, if_neg c]; rfl
    rw [lvs_succ, lvs_succ]
    by_cases c : ffN b a = b.length
    · rw [if_pos c, if_pos c]; rfl
    · rw [if_neg c, if_neg c, List.map_append, List.map_append, key, key]
theorem lvs_all {η : Type} {nx : η → Nat → Nat → Option η} {w n : Int} : ∀ (d : Nat) (b : List Int) (a : Nat) (h : η), ∀ x ∈ lvs nx w n d b a h, x.1.length = b.length ∧ ((∀ y ∈ b, 0 ≤ y ∧ y < 256) → ∀ y ∈ x.1, 0 ≤ y ∧ y < 256) := by
  intro d
  induction d with
  | zero => intro b a h x hx; cases hx
  | succ d ih =>
    intro b a h x hx
    have key : ∀ i j l l2, (0 ≤ l ∧ l < 256) → (0 ≤ l2 ∧ l2 < 256) → x ∈ putL nx (lvs nx w n d) b i j l l2 h → x.1.length = b.length ∧ ((∀ y ∈ b, 0 ≤ y ∧ y < 256) → ∀ y ∈ x.1, 0 ≤ y ∧ y < 256) := by
      intro i j l l2 hl hl2 hx
      unfold putL at hx
      split at hx
      · cases e : nx h i j.toNat with
        | none => rw [e] at hx; cases hx
        | some k =>
          rw [e] at hx
          obtain ⟨h1, h2⟩ := ih _ _ _ x hx
          refine ⟨by rw [h1]; simp, fun hb => h2 (fun y hy => ?_)⟩
          rcases List.mem_or_eq_of_mem_set hy with hy | rfl
          · rcases List.mem_or_eq_of_mem_set hy with hy | rfl
            · exact hb y hy
            · exact hl
          · exact hl2
      · cases hx
    rw [lvs_succ] at hx
    split at hx
    · rw [List.mem_singleton] at hx; subst hx; exact ⟨rfl, fun hb => hb⟩
    · rcases List.mem_append.1 hx with hx | hx
      · exact key _ _ _ _ (by decide) (by decide) hx
      · exact key _ _ _ _ (by decide) (by decide) hx
/-- The layouts that take a table apart into a hand, by their letters, in order. -/
def apL (w n : Int) (C : List Int) (H : List S_Tile) : List (List Int) := if 2 * (H.length : Int) = (C.length : Int) then (lvs (nxS false C) w n 31 (List.replicate C.length 0) 0 H).map Prod.fst else []
def lvsH (s : ByteArray) (hand : List S_Tile) : List (List Int) := apL (w0 (rowsB s) : Int) ((cells s).length : Int) (cells s) hand
theorem lvsH_at {s : ByteArray} {hand : List S_Tile} {b : List Int} (h : b ∈ lvsH s hand) : b.length = (cells s).length ∧ ∀ y ∈ b, 0 ≤ y ∧ y < 256 := by
  unfold lvsH apL at h
  split at h
  · obtain ⟨x, hx, rfl⟩ := List.mem_map.1 h
    obtain ⟨h1, h2⟩ := lvs_all _ _ _ _ x hx
    exact ⟨by rw [h1, List.length_replicate], h2 (fun y hy => by rw [List.mem_replicate] at hy; omega)⟩
  · cases h
theorem sim_marks (s : ByteArray) : ∀ (m : S_Tile → Bool) (H : List S_Tile) (i j : Nat), (m = mkM H ∧ H.Nodup) → (nxM (tilT s) true m i j = none ∧ nxS false (cells s) H i j = none) ∨ ∃ k k', nxM (tilT s) true m i j = some k ∧ nxS false (cells s) H i j = some k' ∧ (k = mkM k' ∧ k'.Nodup) := by
  rintro m H i j ⟨rfl, hn⟩
  have et : tilC (cells s) (i : Int) (j : Int) = tilT s i j := rfl
  by_cases h : tilT s i j ∈ H
  · right
    refine ⟨_, _, by unfold nxM mkM; rw [if_pos (by simp [h])], by unfold nxS; rw [if_neg (by simp), et, if_pos h], ?_, hn.erase _⟩
    funext x
    unfold upd mkM
    by_cases e : x = tilT s i j
    · subst e
      rw [if_pos rfl]
      simp [hn.not_mem_erase]
    · rw [if_neg e]
      have : x ∈ H.erase (tilT s i j) ↔ x ∈ H := by rw [hn.mem_erase_iff]; exact ⟨fun q => q.2, fun q => ⟨e, q⟩⟩
      simp [this]
  · left
    exact ⟨by unfold nxM mkM; rw [if_neg (by simp [h])], by unfold nxS; rw [if_neg (by simp), et, if_neg h]⟩
theorem goL_fst {α β γ : Type} (f : α → β → Bool × α) : ∀ (L : List (β × γ)) (a : α), goL (fun s x => f s x.1) L a = goL f (L.map Prod.fst) a := by
  intro L
  induction L with
  | nil => intro a; rfl
  | cons x L ih =>
    intro a
    show (if (f a x.1).1 = true then goL (fun s x => f s x.1) L (f a x.1).2 else _) = (if (f a x.1).1 = true then goL f (L.map Prod.fst) (f a x.1).2 else _)
    rw [ih]
theorem apR_eq {α : Type} {s : ByteArray} (ht : isTab s = true) {hand : List S_Tile} (hb : handB hand = true) (ea : α → ByteArray → Bool × α) (a : α) : apR s hand ea a = (goL (fun a b => ea a (formT (w0 (rowsB s)) (rowsB s).length b)) (lvsH s hand) a).2 := by
  unfold apR lvsH apL
  by_cases h : 2 * (hand.length : Int) = ((cells s).length : Int)
  · rw [if_pos h, if_pos h]
    have hd := tab_dim ht
    unfold seaA
    rw [layG_marks (by omega) 31 _ _ _ _ List.length_replicate (Nat.zero_le _) (fun k h1 h2 => by rw [rd_at h2]; simp)]
    show (goL (fun (a : α) (x : List Int × (S_Tile → Bool)) => ea a (formT (w0 (rowsB s)) (rowsB s).length x.1)) _ a).2 = _
    rw [goL_fst (fun a b => ea a (formT (w0 (rowsB s)) (rowsB s).length b)), lvs_sim (sim_marks s) 31 _ _ _ hand ⟨rfl, (hand_ok hb).1⟩]
  · rw [if_neg h, if_neg h]; rfl
/-- What CountApart's and FirstApart's function values do. -/
def ctF : Int → ByteArray → Bool × Int := fun c _ => (true, c + 1)
theorem goL_count {β : Type} : ∀ (L : List β) (c : Int), goL (fun c _ => ((true, c + 1) : Bool × Int)) L c = (true, c + (L.length : Int)) := by
  intro L
  induction L with
  | nil => intro c; show (true, c) = _; simp
  | cons x L ih =>
    intro c
    show (if true = true then goL (fun c _ => ((true, c + 1) : Bool × Int)) L (c + 1) else _) = _
    rw [if_pos rfl, ih, List.length_cons]
    simp; omega
theorem apR_count {s : ByteArray} (ht : isTab s = true) {hand : List S_Tile} (hb : handB hand = true) : apR s hand ctF 0 = ((lvsH s hand).length : Int) := by
  rw [apR_eq ht hb]
  show (goL (fun c _ => ((true, c + 1) : Bool × Int)) (lvsH s hand) 0).2 = _
  rw [goL_count, Int.zero_add]
end Go.Proofs.YtokkiiepddhkiaaGreatDoor.Pure
