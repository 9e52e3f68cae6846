/- What impl.moved answers for a move's text. -/
import Derived.Test.YtjaojemmbeddfaaGreatMMoved
import Derived.Test.YtjaojemmbeddfaaGreatPGames
import Derived.Test.YtjaojemmbeddfaaGreatPTile0
namespace Go.Proofs.YtjaojemmbeddfaaGreat.Pure
open Go.RowKit Go.Proofs.YtjaojemmbeddfaaGreat.Hd Go.Proofs.YtjaojemmbeddfaaGreatW.PrintWords Go.Proofs.YtjaojemmbeddfaaGreatW.PrintLast
set_option linter.unusedVariables false
set_option linter.unusedSimpArgs false
theorem rdT_lt {l : List S_Tile} {i : Nat} (h : i < l.length) : rd_Tile l (i : Int) = l[i] := by unfold rd_Tile; rw [Int.toNat_natCast]; simp [h]
end Go.Proofs.YtjaojemmbeddfaaGreat.Pure
namespace Go.Proofs.YtjaojemmbeddfaaGreat.Pure
open Go.RowKit Go.Proofs.YtjaojemmbeddfaaGreat.Hd Go.Proofs.YtjaojemmbeddfaaGreatW.PrintWords Go.Proofs.YtjaojemmbeddfaaGreatW.PrintLast
set_option linter.unusedVariables false
set_option linter.unusedSimpArgs false
/-- The first place of a tile, or -1. -/
def goneAt (l : List S_Tile) (t : S_Tile) : Int := if l.findIdx (fun y => !outT t y) < l.length then ((l.findIdx (fun y => !outT t y) : Nat) : Int) else -1
theorem goneAt_hit {l : List S_Tile} {t : S_Tile} {i : Nat} (h : i < l.length) (ha : ∀ j, j < i → outT t (rd_Tile l (j : Int)) = true) (hn : outT t (rd_Tile l (i : Int)) = false) : goneAt l t = (i : Int) := by
  have e : l.findIdx (fun y => !outT t y) = i := by
    rw [List.findIdx_eq h]
    refine ⟨by rw [rdT_lt h] at hn; rw [hn]; rfl, fun j hj => ?_⟩
    have := ha j hj
    rw [rdT_lt (by omega)] at this
    rw [this]; rfl
  unfold goneAt
  rw [e, if_pos h]
theorem goneAt_none {l : List S_Tile} {t : S_Tile} (ha : ∀ j, j < l.length → outT t (rd_Tile l (j : Int)) = true) : goneAt l t = -1 := by
  unfold goneAt
  rw [if_neg]
  intro h
  have h2 := List.findIdx_getElem (w := h)
  have := ha _ h
  rw [rdT_lt h] at this
  rw [this] at h2
  exact absurd h2 (by simp)
theorem goneAt_neg {l : List S_Tile} {t : S_Tile} (h : goneAt l t = -1) : gone1 l t = l := by
  unfold goneAt at h
  by_cases hl : l.findIdx (fun y => !outT t y) < l.length
  · rw [if_pos hl] at h; omega
  · unfold gone1
    rw [List.filter_eq_self]
    intro a ha
    rw [List.findIdx_lt_length] at hl
    cases hq : outT t a with
    | true => rfl
    | false => exact absurd ⟨a, ha, by rw [hq]; rfl⟩ hl
theorem goneAt_pos {l : List S_Tile} {t : S_Tile} (h : goneAt l t ≠ -1) : ∃ i : Nat, goneAt l t = (i : Int) ∧ i < l.length ∧ (∀ j, j < i → outT t (rd_Tile l (j : Int)) = true) ∧ outT t (rd_Tile l (i : Int)) = false := by
  unfold goneAt at h ⊢
  by_cases hl : l.findIdx (fun y => !outT t y) < l.length
  · rw [if_pos hl]
    refine ⟨_, rfl, hl, fun j hj => ?_, ?_⟩
    · have := List.not_of_lt_findIdx hj
      rw [rdT_lt (by omega)]
      simpa using this
    · have := List.findIdx_getElem (w := hl)
      rw [rdT_lt hl]
      simpa using this
  · rw [if_neg hl] at h
    exact absurd rfl h
/-- The row and the number kept, behind j tiles. -/
def dl (t : S_Tile) (l : List S_Tile) : Nat → List S_Tile × Nat
  | 0 => (l, 0)
  | j + 1 => if outT t (rd_Tile (dl t l j).1 (j : Int)) = true then ((dl t l j).1.set (dl t l j).2 (rd_Tile (dl t l j).1 (j : Int)), (dl t l j).2 + 1) else dl t l j
theorem dl_inv (t : S_Tile) (l : List S_Tile) : ∀ j, j ≤ l.length → (dl t l j).1.length = l.length ∧ (dl t l j).2 ≤ j ∧ (dl t l j).1.drop j = l.drop j ∧ (dl t l j).1.take (dl t l j).2 = (l.take j).filter (outT t) ∧ (dl t l j).2 = ((l.take j).filter (outT t)).length := by
  intro j
  induction j with
  | zero => intro _; exact ⟨rfl, Nat.le_refl _, rfl, by simp [dl], by simp [dl]⟩
  | succ j ih =>
    intro h
    obtain ⟨h1, h2, h3, h4, h5⟩ := ih (by omega)
    have hj : j < l.length := by omega
    have hj1 : j < (dl t l j).1.length := by omega
    have e0 : (dl t l j).1[j] = l[j] := by
      have q := congrArg (fun z => z[0]?) h3
      simp only [List.getElem?_drop, Nat.add_zero] at q
      rw [List.getElem?_eq_getElem hj1, List.getElem?_eq_getElem hj] at q
      exact Option.some.inj q
    have e : rd_Tile (dl t l j).1 (j : Int) = l[j] := by rw [rdT_lt hj1, e0]
    have d3 : (dl t l j).1.drop (j + 1) = l.drop (j + 1) := by
      have q := congrArg (List.drop 1) h3
      rwa [List.drop_drop, List.drop_drop] at q
    simp only [dl]
    rw [e, List.take_succ_eq_append_getElem hj, List.filter_append]
    by_cases hc : outT t l[j] = true
    · rw [if_pos hc, List.filter_cons_of_pos hc, List.filter_nil]
      have hk : (dl t l j).2 < (dl t l j).1.length := by omega
      refine ⟨by simp [h1], by simp; omega, ?_, ?_, ?_⟩
      · dsimp only
        rw [List.drop_set_of_lt (by omega)]
        exact d3
      · dsimp only
        rw [List.take_succ_eq_append_getElem (by simp; omega), List.take_set_of_le (Nat.le_refl _), h4]
        simp
      · dsimp only
        rw [List.length_append, ← h5]
        rfl
    · rw [if_neg hc, List.filter_cons_of_neg hc, List.filter_nil, List.append_nil]
      exact ⟨h1, by omega, d3, h4, h5⟩
theorem dl_same (t : S_Tile) (l : List S_Tile) : ∀ j, j ≤ l.length → (∀ i, i < j → outT t (rd_Tile l (i : Int)) = true) → dl t l j = (l, j) := by
  intro j
  induction j with
  | zero => intro _ _; rfl
  | succ j ih =>
    intro h ha
    have e := ih (by omega) (fun i hi => ha i (by omega))
    simp only [dl]
    rw [e]
    dsimp only
    rw [if_pos (ha j (by omega)), rdT_lt (by omega), List.set_getElem_self]
theorem dl_start {t : S_Tile} {l : List S_Tile} {i : Nat} (h : i < l.length) (ha : ∀ j, j < i → outT t (rd_Tile l (j : Int)) = true) (hn : outT t (rd_Tile l (i : Int)) = false) : dl t l (i + 1) = (l, i) := by
  have e := dl_same t l i (by omega) ha
  simp only [dl]
  rw [e]
  dsimp only
  rw [if_neg (by rw [hn]; simp)]
theorem dl_end (t : S_Tile) (l : List S_Tile) : (dl t l l.length).1.take (dl t l l.length).2 = gone1 l t ∧ (dl t l l.length).2 = (gone1 l t).length := by
  obtain ⟨-, -, -, h4, h5⟩ := dl_inv t l l.length (Nat.le_refl _)
  rw [List.take_length] at h4 h5
  exact ⟨h4, h5⟩
theorem txt_pass {x : S_plLay} (h : x.f2 = true) : txt x = ⟨#[45]⟩ := by unfold txt; rw [h]; rfl
theorem txt_lay {x : S_plLay} (h : x.f2 = false) : (txt x).size = 3 := by
  unfold txt
  rw [h, cond_false, ByteArray.size_append, strOfNums_size]
  cases x.f1 <;> rfl
theorem txt_ne {x : S_plLay} (h : x.f2 = false) : txt x ≠ ⟨#[45]⟩ := fun e => by
  have h1 := txt_lay h
  rw [e] at h1
  exact absurd h1 (by decide)
theorem txt_pass_iff (x : S_plLay) : (decide (txt x = (⟨#[45]⟩ : ByteArray))) = x.f2 := by
  cases h : x.f2 with
  | true => exact decide_eq_true (txt_pass h)
  | false => exact decide_eq_false (txt_ne h)
end Go.Proofs.YtjaojemmbeddfaaGreat.Pure
namespace Go.Proofs.YtjaojemmbeddfaaGreat.Pure
open Go.RowKit Go.Proofs.YtjaojemmbeddfaaGreat.Hd Go.Proofs.YtjaojemmbeddfaaGreatW.PrintWords Go.Proofs.YtjaojemmbeddfaaGreatW.PrintLast
set_option linter.unusedVariables false
set_option linter.unusedSimpArgs false
theorem moved_l : ∀ a < 10, ∀ b < 10, impl_moved.f (txt ⟨⟨((a : Nat) : Int), ((b : Nat) : Int)⟩, true, false⟩) = some ((a : Int), (b : Int)) ∧ bt (txt ⟨⟨((a : Nat) : Int), ((b : Nat) : Int)⟩, true, false⟩) 2 = 108 := of_decide_eq_true (by kernel_rfl)
theorem moved_r : ∀ a < 10, ∀ b < 10, impl_moved.f (txt ⟨⟨((a : Nat) : Int), ((b : Nat) : Int)⟩, false, false⟩) = some ((a : Int), (b : Int)) ∧ bt (txt ⟨⟨((a : Nat) : Int), ((b : Nat) : Int)⟩, false, false⟩) 2 = 114 := of_decide_eq_true (by kernel_rfl)
theorem moved_eq {x : S_plLay} (h : x.f2 = false) (hg : goodT x.f0 = true) : impl_moved.f (txt x) = some (x.f0.f0, x.f0.f1) ∧ bt (txt x) 2 = (if x.f1 = true then 108 else 114) := by
  obtain ⟨⟨a, b⟩, c, d⟩ := x
  dsimp only at h hg ⊢
  subst h
  unfold goodT at hg
  simp only [Bool.and_eq_true, decide_eq_true_eq] at hg
  obtain ⟨a, rfl⟩ := Int.eq_ofNat_of_zero_le (show 0 ≤ a by omega)
  obtain ⟨b, rfl⟩ := Int.eq_ofNat_of_zero_le (show 0 ≤ b by omega)
  cases c with
  | true => exact moved_l a (by omega) b (by omega)
  | false => exact moved_r a (by omega) b (by omega)
end Go.Proofs.YtjaojemmbeddfaaGreat.Pure
