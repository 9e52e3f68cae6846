/- Tiles taken out of a hand by a test: where the first lies; the hand as slices.DeleteFunc leaves it, step by step. -/
import Derived.Test.YtjhbnkplpaffoaaGreatDoorPRdT
namespace Go.Proofs.YtjhbnkplpaffoaaGreatDoor.Pure
open Go.RowKit Go.Proofs.YtjhbnkplpaffoaaGreatDoor.Hd Go.Proofs.YtjhbnkplpaffoaaGreatDoorW.PrintWords Go.Proofs.YtjhbnkplpaffoaaGreatDoorW.PrintLast
set_option linter.unusedVariables false
set_option linter.unusedSimpArgs false
/-- The first place of a tile, or -1. -/
def goneAtP (l : List S_Tile) (p : S_Tile → Bool) : Int := if l.findIdx (fun y => !p y) < l.length then ((l.findIdx (fun y => !p y) : Nat) : Int) else -1
theorem goneAtP_hit {l : List S_Tile} {p : S_Tile → Bool} {i : Nat} (h : i < l.length) (ha : ∀ j, j < i → p (rd_Tile l (j : Int)) = true) (hn : p (rd_Tile l (i : Int)) = false) : goneAtP l p = (i : Int) := by
  have e : l.findIdx (fun y => !p y) = i := by
    rw [List.findIdx_eq h]
    refine ⟨by rw [rdT_lt h] at hn; rw [hn]; rfl, fun j hj => ?_⟩
    have := ha j hj
    rw [rdT_lt (by omega)] at this
    rw [this]; rfl
  unfold goneAtP
  rw [e, if_pos h]
theorem goneAtP_none {l : List S_Tile} {p : S_Tile → Bool} (ha : ∀ j, j < l.length → p (rd_Tile l (j : Int)) = true) : goneAtP l p = -1 := by
  unfold goneAtP
  rw [if_neg]
  intro h
  have h2 := List.findIdx_getElem (w := h)
  have := ha _ h
  rw [rdT_lt h] at this
  rw [this] at h2
  exact absurd h2 (by simp)
theorem goneAtP_neg {l : List S_Tile} {p : S_Tile → Bool} (h : goneAtP l p = -1) : l.filter p = l := by
  unfold goneAtP at h
  by_cases hl : l.findIdx (fun y => !p y) < l.length
  · rw [if_pos hl] at h; omega
  · rw [List.filter_eq_self]
    intro a ha
    rw [List.findIdx_lt_length] at hl
    cases hq : p a with
    | true => rfl
    | false => exact absurd ⟨a, ha, by rw [hq]; rfl⟩ hl
theorem goneAtP_pos {l : List S_Tile} {p : S_Tile → Bool} (h : goneAtP l p ≠ -1) : ∃ i : Nat, goneAtP l p = (i : Int) ∧ i < l.length ∧ (∀ j, j < i → p (rd_Tile l (j : Int)) = true) ∧ p (rd_Tile l (i : Int)) = false := by
  unfold goneAtP at h ⊢
  by_cases hl : l.findIdx (fun y => !p y) < l.length
  · rw [if_pos hl]
    refine ⟨_, rfl, hl, fun j hj => ?_, ?_⟩
    · have := List.not_of_lt_findIdx hj
      rw [rdT_lt (by omega)]
      simpa using this
    · have := List.findIdx_getElem (w := hl)
      rw [rdT_lt hl]
      simpa using this
  · rw [if_neg hl] at h
    exact absurd rfl h
/-- The row and the number kept, behind j tiles. -/
def dlP (p : S_Tile → Bool) (l : List S_Tile) : Nat → List S_Tile × Nat
  | 0 => (l, 0)
  | j + 1 => if p (rd_Tile (dlP p l j).1 (j : Int)) = true then ((dlP p l j).1.set (dlP p l j).2 (rd_Tile (dlP p l j).1 (j : Int)), (dlP p l j).2 + 1) else dlP p l j
theorem dlP_inv (p : S_Tile → Bool) (l : List S_Tile) : ∀ j, j ≤ l.length → (dlP p l j).1.length = l.length ∧ (dlP p l j).2 ≤ j ∧ (dlP p l j).1.drop j = l.drop j ∧ (dlP p l j).1.take (dlP p l j).2 = (l.take j).filter p ∧ (dlP p l j).2 = ((l.take j).filter p).length := by
  intro j
  induction j with
  | zero => intro _; exact ⟨rfl, Nat.le_refl _, rfl, by simp [dlP], by simp [dlP]⟩
  | succ j ih =>
    intro h
    obtain ⟨h1, h2, h3, h4, h5⟩ := ih (by omega)
    have hj : j < l.length := by omega
    have hj1 : j < (dlP p l j).1.length := by omega
    have e0 : (dlP p l j).1[j] = l[j] := by
      have q := congrArg (fun z => z[0]?) h3
      simp only [List.getElem?_drop, Nat.add_zero] at q
      rw [List.getElem?_eq_getElem hj1, List.getElem?_eq_getElem hj] at q
      exact Option.some.inj q
    have e : rd_Tile (dlP p l j).1 (j : Int) = l[j] := by rw [rdT_lt hj1, e0]
    have d3 : (dlP p l j).1.drop (j + 1) = l.drop (j + 1) := by
      have q := congrArg (List.drop 1) h3
      rwa [List.drop_drop, List.drop_drop] at q
    simp only [dlP]
    rw [e, List.take_succ_eq_append_getElem hj, List.filter_append]
    by_cases hc : p l[j] = true
    · rw [if_pos hc, List.filter_cons_of_pos hc, List.filter_nil]
      have hk : (dlP p l j).2 < (dlP p l j).1.length := by omega
      refine ⟨by simp [h1], by simp; omega, ?_, ?_, ?_⟩
      · dsimp only
        rw [List.drop_set_of_lt (by omega)]
        exact d3
      · dsimp only
        rw [List.take_succ_eq_append_getElem (by simp; omega), List.take_set_of_le (Nat.le_refl _), h4]
        simp
      · dsimp only
        rw [List.length_append, ← h5]
        rfl
    · rw [if_neg hc, List.filter_cons_of_neg hc, List.filter_nil, List.append_nil]
      exact ⟨h1, by omega, d3, h4, h5⟩
theorem dlP_same (p : S_Tile → Bool) (l : List S_Tile) : ∀ j, j ≤ l.length → (∀ i, i < j → p (rd_Tile l (i : Int)) = true) → dlP p l j = (l, j) := by
  intro j
  induction j with
  | zero => intro _ _; rfl
  | succ j ih =>
    intro h ha
    have e := ih (by omega) (fun i hi => ha i (by omega))
    simp only [dlP]
    rw [e]
    dsimp only
    rw [if_pos (ha j (by omega)), rdT_lt (by omega), List.set_getElem_self]
theorem dlP_start {p : S_Tile → Bool} {l : List S_Tile} {i : Nat} (h : i < l.length) (ha : ∀ j, j < i → p (rd_Tile l (j : Int)) = true) (hn : p (rd_Tile l (i : Int)) = false) : dlP p l (i + 1) = (l, i) := by
  have e := dlP_same p l i (by omega) ha
  simp only [dlP]
  rw [e]
  dsimp only
  rw [if_neg (by rw [hn]; simp)]
theorem dlP_end (p : S_Tile → Bool) (l : List S_Tile) : (dlP p l l.length).1.take (dlP p l l.length).2 = l.filter p ∧ (dlP p l l.length).2 = (l.filter p).length := by
  obtain ⟨-, -, -, h4, h5⟩ := dlP_inv p l l.length (Nat.le_refl _)
  rw [List.take_length] at h4 h5
  exact ⟨h4, h5⟩
end Go.Proofs.YtjhbnkplpaffoaaGreatDoor.Pure
