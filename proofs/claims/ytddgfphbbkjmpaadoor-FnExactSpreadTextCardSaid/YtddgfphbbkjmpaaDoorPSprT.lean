/- The text of a spread; plain. -/
import Derived.Test.YtddgfphbbkjmpaaDoorMLyFold
import Derived.Test.YtddgfphbbkjmpaaDoorPNum
import Derived.Lib.Join
namespace Go.Proofs.YtddgfphbbkjmpaaDoor.Pure
open Go Go.RowKit Go.Proofs.YtddgfphbbkjmpaaDoor.Hd Go.Proofs.YtddgfphbbkjmpaaDoorW.PrintWords Go.Proofs.YtddgfphbbkjmpaaDoorW.PrintLast
set_option linter.unusedVariables false
set_option linter.unusedSimpArgs false
theorem can_good {s : LySt} {p : S_Play} {n : Nat} (hok : LyOk s n) (hn : n ≤ 28) (h : lyCan s p = true) : goodT p.f0 = true ∧ 0 ≤ p.f1 ∧ p.f1 < 100 := by
  unfold lyCan at h
  simp only [Bool.and_eq_true] at h
  obtain ⟨⟨⟨h1, _⟩, _⟩, h4⟩ := h
  refine ⟨h1, ?_⟩
  have har := hok.ar
  split at h4
  · have := beq_iff_eq.1 h4
    omega
  · simp only [Bool.and_eq_true, decide_eq_true_eq] at h4
    omega
theorem fold_good : ∀ (plays : List S_Play) (s s' : LySt) (n : Nat), LyOk s n → n + plays.length ≤ 28 → plays.foldlM lyAdd s = some s' → ∀ p ∈ plays, goodT p.f0 = true ∧ 0 ≤ p.f1 ∧ p.f1 < 100 := by
  intro plays
  induction plays with
  | nil => intro s s' n _ _ _ p hp; cases hp
  | cons q t ih =>
    intro s s' n hok hn h p hp
    rw [List.length_cons] at hn
    rw [List.foldlM_cons] at h
    cases hl : lyCan s q with
    | false => simp [lyAdd, hl] at h
    | true =>
      have e1 : lyAdd s q = some (lyDo s q) := by simp [lyAdd, hl]
      rw [e1] at h
      rcases List.mem_cons.1 hp with rfl | hp
      · exact can_good hok (by omega) hl
      · exact ih (lyDo s q) s' (n + 1) (lyOk_next hok hl) (by omega) h p hp
theorem plays_good {l : List S_Play} {s : LySt} (h : lyReadF l = some s) : l.length ≤ 28 ∧ ∀ p ∈ l, goodT p.f0 = true ∧ 0 ≤ p.f1 ∧ p.f1 < 100 := by
  unfold lyReadF at h
  split at h
  · cases h
  · exact ⟨by omega, fold_good l lyS0 s 0 lyOk_start (by omega) h⟩
theorem play_at {l : List S_Play} {s : LySt} (h : lyReadF l = some s) (i : Nat) (hi : i < l.length) : (0 ≤ (rd_Play l (i : Int)).f0.f0 ∧ (rd_Play l (i : Int)).f0.f0 ≤ 9) ∧ (0 ≤ (rd_Play l (i : Int)).f0.f1 ∧ (rd_Play l (i : Int)).f0.f1 ≤ 9) ∧ 0 ≤ (rd_Play l (i : Int)).f1 ∧ (rd_Play l (i : Int)).f1 < 100 := by
  have e : rd_Play l (i : Int) = l[i] := by simp [rd_Play, hi]
  rw [e]
  obtain ⟨h1, h2, h3⟩ := (plays_good h).2 _ (List.getElem_mem hi)
  have := good_bd h1
  omega
/-- One play's text. -/
def partT (p : S_Play) : ByteArray := ((numD p.f0.f0 ++ numD p.f0.f1) ++ (⟨#[64]⟩ : ByteArray)) ++ numD p.f1
/-- The text of the first i plays. -/
def spT (l : List S_Play) : Nat → ByteArray
  | 0 => ⟨#[]⟩
  | i + 1 => (if 0 < i then spT l i ++ (⟨#[44]⟩ : ByteArray) else spT l i) ++ partT (rd_Play l (i : Int))
theorem numD_sz {x : Int} (h : 0 ≤ x ∧ x < 100) : (numD x).size ≤ 2 := by
  unfold numD
  show (Lib.decDigits x.toNat).toArray.size ≤ 2
  by_cases h1 : x.toNat < 10
  · rw [Lib.decDigits_one h1]; simp
  · rw [Lib.decDigits_two h1 (by omega)]; simp
theorem partT_sz {l : List S_Play} {s : LySt} (h : lyReadF l = some s) (i : Nat) (hi : i < l.length) : (partT (rd_Play l (i : Int))).size ≤ 7 := by
  obtain ⟨a, b, c⟩ := play_at h i hi
  have h1 := numD_sz (x := (rd_Play l (i : Int)).f0.f0) (by omega)
  have h2 := numD_sz (x := (rd_Play l (i : Int)).f0.f1) (by omega)
  have h3 := numD_sz (x := (rd_Play l (i : Int)).f1) (by omega)
  unfold partT
  simp only [ByteArray.size_append]
  have : (⟨#[64]⟩ : ByteArray).size = 1 := rfl
  omega
theorem spT_sz {l : List S_Play} {s : LySt} (h : lyReadF l = some s) : ∀ i, i ≤ l.length → (spT l i).size ≤ 8 * i := by
  intro i
  induction i with
  | zero => intro _; exact Nat.le_refl _
  | succ i ih =>
    intro hi
    have h1 := ih (by omega)
    have h2 := partT_sz h i (by omega)
    have h3 : (⟨#[44]⟩ : ByteArray).size = 1 := rfl
    unfold spT
    rw [ByteArray.size_append]
    split
    · rw [ByteArray.size_append]; omega
    · omega
def resSpreadText (l : List S_Play) : ByteArray × Bool := if (lyReadF l).isSome = true then (if l.length = 0 then (⟨#[45]⟩, true) else (spT l l.length, true)) else (⟨#[]⟩, false)
theorem joinS_snoc (sep : List UInt8) (R : List (List UInt8)) (r : List UInt8) : Lib.join (R ++ [r]) sep = Lib.join R sep ++ ((if 0 < R.length then sep else []) ++ r) := by
  cases R with
  | nil => simp [Lib.join_nil, Lib.join_one]
  | cons a t =>
    rw [List.cons_append, Lib.join_cons, Lib.join_cons, if_pos (by simp)]
    unfold Lib.joinTail
    simp [List.append_assoc]
theorem data_app (a b : ByteArray) : (a ++ b).data.toList = a.data.toList ++ b.data.toList := by
  rw [ByteArray.data_append]
  simp
theorem spT_join (l : List S_Play) : ∀ i, (spT l i).data.toList = Lib.join ((List.range i).map (fun j : Nat => (partT (rd_Play l (j : Int))).data.toList)) [44] := by
  intro i
  induction i with
  | zero => rfl
  | succ i ih =>
    rw [List.range_succ, List.map_append, List.map_cons, List.map_nil, joinS_snoc, ← ih]
    simp only [spT, List.length_map, List.length_range]
    rw [data_app]
    by_cases h : 0 < i
    · rw [if_pos h, if_pos h, data_app, List.append_assoc]
    · rw [if_neg h, if_neg h, List.nil_append]
end Go.Proofs.YtddgfphbbkjmpaaDoor.Pure
