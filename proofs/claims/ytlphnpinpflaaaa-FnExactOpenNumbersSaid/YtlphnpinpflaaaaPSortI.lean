/- Whole numbers sorted, and cut to one of each: plain. -/
import Derived.Test.YtlphnpinpflaaaaMSortI
namespace Go.Proofs.Ytlphnpinpflaaaa.Pure
open Go.RowKit Go.Proofs.Ytlphnpinpflaaaa.Hd Go.Proofs.YtlphnpinpflaaaaW.PrintWords Go.Proofs.YtlphnpinpflaaaaW.PrintLast
set_option linter.unusedVariables false
set_option linter.unusedSimpArgs false
theorem sortI_mem (l : List Int) (x : Int) : x ∈ sortI l ↔ x ∈ l := List.mem_mergeSort
theorem sortI_le (l : List Int) : (sortI l).Pairwise (· ≤ ·) := by
  have h := List.pairwise_mergeSort (le := fun x y : Int => decide (x ≤ y)) (fun a b c h1 h2 => by simp only [decide_eq_true_eq] at *; omega) (fun a b => by simp only [Bool.or_eq_true, decide_eq_true_eq]; omega) l
  exact h.imp (fun h => of_decide_eq_true h)
theorem cpt_mem (d : Array Int) (m : Nat) (x : Int) : x ∈ Lib.compactUpTo d m ↔ ∃ j, j < m ∧ d[j]! = x := by
  induction m with
  | zero => simp [Lib.compactUpTo]
  | succ m ih =>
    rw [Lib.compactUpTo_succ, List.mem_append, ih]
    constructor
    · rintro (⟨j, h1, h2⟩ | h)
      · exact ⟨j, by omega, h2⟩
      · split at h
        · have h2 : x = d[m]! := by simpa using h
          exact ⟨m, by omega, h2.symm⟩
        · cases h
    · rintro ⟨j, h1, h2⟩
      by_cases e : j = m
      · subst e
        cases hk : Lib.keeps d j with
        | true => right; rw [if_pos rfl]; simp [h2]
        | false =>
          left
          have h3 : ¬ (j = 0 ∨ d[j]! ≠ d[j - 1]!) := by unfold Lib.keeps at hk; exact of_decide_eq_false hk
          have h4 : j ≠ 0 := fun q => h3 (.inl q)
          have h5 : d[j]! = d[j - 1]! := Classical.byContradiction fun q => h3 (.inr q)
          exact ⟨j - 1, by omega, by rw [← h5]; exact h2⟩
      · exact .inl ⟨j, by omega, h2⟩
theorem cpt_lt (d : Array Int) (m : Nat) (hs : ∀ i j, i < j → j < m → d[i]! ≤ d[j]!) : (Lib.compactUpTo d m).Pairwise (· < ·) := by
  induction m with
  | zero => simp [Lib.compactUpTo]
  | succ m ih =>
    rw [Lib.compactUpTo_succ]
    have h0 := ih (fun i j h1 h2 => hs i j h1 (by omega))
    cases hk : Lib.keeps d m with
    | false => simpa using h0
    | true =>
      rw [if_pos rfl, List.pairwise_append]
      refine ⟨h0, List.pairwise_singleton _ _, fun x hx y hy => ?_⟩
      obtain rfl : y = d[m]! := by simpa using hy
      obtain ⟨j, hj, rfl⟩ := (cpt_mem d m x).1 hx
      have h1 := hs j m hj (by omega)
      have h2 : m = 0 ∨ d[m]! ≠ d[m - 1]! := by unfold Lib.keeps at hk; exact of_decide_eq_true hk
      rcases h2 with h2 | h2
      · omega
      · rcases Nat.lt_or_ge j (m - 1) with h3 | h3
        · have h4 := hs j (m - 1) h3 (by omega)
          have h5 := hs (m - 1) m (by omega) (by omega)
          omega
        · have e : j = m - 1 := by omega
          subst e
          omega
theorem pw_get (l : List Int) (h : l.Pairwise (· ≤ ·)) : ∀ i j, i < j → j < l.length → l.toArray[i]! ≤ l.toArray[j]! := by
  intro i j h1 h2
  have := List.pairwise_iff_getElem.1 h i j (by omega) h2 h1
  simpa [show i < l.length by omega, h2] using this
theorem compact_mem (l : List Int) (x : Int) : x ∈ Lib.compact l ↔ x ∈ l := by
  unfold Lib.compact
  rw [cpt_mem]
  constructor
  · rintro ⟨j, h1, h2⟩
    rw [← h2]
    simp [h1]
  · intro h
    obtain ⟨j, h1, h2⟩ := List.getElem_of_mem h
    exact ⟨j, h1, by simpa [h1] using h2⟩
theorem compact_lt (l : List Int) (h : l.Pairwise (· ≤ ·)) : (Lib.compact l).Pairwise (· < ·) := cpt_lt _ _ (pw_get l h)
theorem lt_ext : ∀ l1 l2 : List Int, l1.Pairwise (· < ·) → l2.Pairwise (· < ·) → (∀ x, x ∈ l1 ↔ x ∈ l2) → l1 = l2 := by
  intro l1
  induction l1 with
  | nil =>
    intro l2 _ _ h
    cases l2 with
    | nil => rfl
    | cons b l2 => exact absurd ((h b).2 (by simp)) (by simp)
  | cons a l1 ih =>
    intro l2 h1 h2 h
    cases l2 with
    | nil => exact absurd ((h a).1 (by simp)) (by simp)
    | cons b l2 =>
      rw [List.pairwise_cons] at h1 h2
      have e : a = b := by
        rcases List.mem_cons.1 ((h a).1 (by simp)) with q | q
        · exact q
        · rcases List.mem_cons.1 ((h b).2 (by simp)) with q' | q'
          · exact q'.symm
          · have := h2.1 a q
            have := h1.1 b q'
            omega
      subst e
      congr 1
      refine ih l2 h1.2 h2.2 (fun x => ?_)
      have hx := h x
      rw [List.mem_cons, List.mem_cons] at hx
      constructor
      · intro q
        rcases hx.1 (.inr q) with e | e
        · have := h1.1 x q; omega
        · exact e
      · intro q
        rcases hx.2 (.inr q) with e | e
        · have := h2.1 x q; omega
        · exact e
end Go.Proofs.Ytlphnpinpflaaaa.Pure
