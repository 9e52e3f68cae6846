/- The sums of windows' sides (plain). -/
import Derived.Test.YtbkaedmabdgdhaaPWinC
import Derived.Test.YtbkaedmabdgdhaaMWinW
import Derived.Test.YtbkaedmabdgdhaaMWinA
import Derived.Test.YtbkaedmabdgdhaaG4
import Derived.Test.YtbkaedmabdgdhaaPTile
import Derived.Test.YtbkaedmabdgdhaaMHand
import Derived.Test.YtbkaedmabdgdhaaMSortI
namespace Go.Proofs.Ytbkaedmabdgdhaa.Pure
open Go.RowKit Go.Proofs.Ytbkaedmabdgdhaa.Hd Go.Proofs.YtbkaedmabdgdhaaW.PrintWords Go.Proofs.YtbkaedmabdgdhaaW.PrintLast
set_option linter.unusedVariables false
set_option linter.unusedSimpArgs false
theorem sortI_mem (l : List Int) (x : Int) : x ∈ sortI l ↔ x ∈ l := List.mem_mergeSort
theorem sortI_le (l : List Int) : (sortI l).Pairwise (· ≤ ·) := by
  have h := List.pairwise_mergeSort (le := fun x y : Int => decide (x ≤ y)) (fun a b c h1 h2 => by simp only [decide_eq_true_eq] at *; omega) (fun a b => by simp only [Bool.or_eq_true, decide_eq_true_eq]; omega) l
  exact h.imp (fun h => of_decide_eq_true h)
theorem cpt_mem (d : Array Int) (m : Nat) (x : Int) : x ∈ Lib.compactUpTo d m ↔ ∃ j, j < m ∧ d[j]! = x := by
  induction m with
  | zero => simp [Lib.compactUpTo]
  | succ m ih =>
    rw [Lib.compactUpTo_succ, List.mem_append, ih]
    constructor
    · rintro (⟨j, h1, h2⟩ | h)
      · exact ⟨j, by omega, h2⟩
      · split at h
        · have h2 : x = d[m]! := by simpa using h
          exact ⟨m, by omega, h2.symm⟩
        · cases h
    · rintro ⟨j, h1, h2⟩
      by_cases e : j = m
      · subst e
        cases hk : Lib.keeps d j with
        | true => right; rw [if_pos rfl]; simp [h2]
        | false =>
          left
          have h3 : ¬ (j = 0 ∨ d[j]! ≠ d[j - 1]!) := by unfold Lib.keeps at hk; exact of_decide_eq_false hk
          have h4 : j ≠ 0 := fun q => h3 (.inl q)
          have h5 : d[j]! = d[j - 1]! := Classical.byContradiction fun q => h3 (.inr q)
          exact ⟨j - 1, by omega, by rw [← h5]; exact h2⟩
      · exact .inl ⟨j, by omega, h2⟩
theorem cpt_lt (d : Array Int) (m : Nat) (hs : ∀ i j, i < j → j < m → d[i]! ≤ d[j]!) : (Lib.compactUpTo d m).Pairwise (· < ·) := by
  induction m with
  | zero => simp [Lib.compactUpTo]
  | succ m ih =>
    rw [Lib.compactUpTo_succ]
    have h0 := ih (fun i j h1 h2 => hs i j h1 (by omega))
    cases hk : Lib.keeps d m with
    | false => simpa using h0
    | true =>
      rw [if_pos rfl, List.pairwise_append]
      refine ⟨h0, List.pairwise_singleton _ _, fun x hx y hy => ?_⟩
      obtain rfl : y = d[m]! := by simpa using hy
      obtain ⟨j, hj, rfl⟩ := (cpt_mem d m x).1 hx
      have h1 := hs j m hj (by omega)
      have h2 : m = 0 ∨ d[m]! ≠ d[m - 1]! := by unfold Lib.keeps at hk; exact of_decide_eq_true hk
      rcases h2 with h2 | h2
      · omega
      · rcases Nat.lt_or_ge j (m - 1) with h3 | h3
        · have h4 := hs j (m - 1) h3 (by omega)
          have h5 := hs (m - 1) m (by omega) (by omega)
          omega
        · have e : j = m - 1 := by omega
          subst e
          omega
theorem pw_get (l : List Int) (h : l.Pairwise (· ≤ ·)) : ∀ i j, i < j → j < l.length → l.toArray[i]! ≤ l.toArray[j]! := by
  intro i j h1 h2
  have := List.pairwise_iff_getElem.1 h i j (by omega) h2 h1
  simpa [show i < l.length by omega, h2] using this
theorem compact_mem (l : List Int) (x : Int) : x ∈ Lib.compact l ↔ x ∈ l := by
  unfold Lib.compact
  rw [cpt_mem]
  constructor
  · rintro ⟨j, h1, h2⟩
    rw [← h2]
    simp [h1]
  · intro h
    obtain ⟨j, h1, h2⟩ := List.getElem_of_mem h
    exact ⟨j, h1, by simpa [h1] using h2⟩
theorem compact_lt (l : List Int) (h : l.Pairwise (· ≤ ·)) : (Lib.compact l).Pairwise (· < ·) := cpt_lt _ _ (pw_get l h)
theorem lt_ext : ∀ l1 l2 : List Int, l1.Pairwise (· < ·) → l2.Pairwise (· < ·) → (∀ x, x ∈ l1 ↔ x ∈ l2) → l1 = l2 := by
  intro l1
  induction l1 with
  | nil =>
    intro l2 _ _ h
    cases l2 with
    | nil => rfl
    | cons b l2 => exact absurd ((h b).2 (by simp)) (by simp)
  | cons a l1 ih =>
    intro l2 h1 h2 h
    cases l2 with
    | nil => exact absurd ((h a).1 (by simp)) (by simp)
    | cons b l2 =>
      rw [List.pairwise_cons] at h1 h2
      have e : a = b := by
        rcases List.mem_cons.1 ((h a).1 (by simp)) with q | q
        · exact q
        · rcases List.mem_cons.1 ((h b).2 (by simp)) with q' | q'
          · exact q'.symm
          · have := h2.1 a q
            have := h1.1 b q'
            omega
      subst e
      congr 1
      refine ih l2 h1.2 h2.2 (fun x => ?_)
      have hx := h x
      rw [List.mem_cons, List.mem_cons] at hx
      constructor
      · intro q
        rcases hx.1 (.inr q) with e | e
        · have := h1.1 x q; omega
        · exact e
      · intro q
        rcases hx.2 (.inr q) with e | e
        · have := h2.1 x q; omega
        · exact e
end Go.Proofs.Ytbkaedmabdgdhaa.Pure
namespace Go.Proofs.Ytbkaedmabdgdhaa.Pure
open Go.RowKit Go.Proofs.Ytbkaedmabdgdhaa.Hd Go.Proofs.YtbkaedmabdgdhaaW.PrintWords Go.Proofs.YtbkaedmabdgdhaaW.PrintLast
set_option linter.unusedVariables false
set_option linter.unusedSimpArgs false
theorem isHand_ev (l : List S_Tile) : Ev (fun k => impl_IsHand.f k l) (handB l) := by
  unfold impl_IsHand.f handB
  by_cases h : l.length ≤ 55
  · rw [decide_eq_true h, Bool.true_and]
    refine Ev.pos (by omega) ?_
    by_cases g : l.all tileB = true
    · have g2 : l.all goodT = true := g
      rw [g2, Bool.true_and]
      exact Ev.pos g (areDif_ev l (by omega))
    · have g2 : l.all goodT = false := Bool.eq_false_iff.2 g
      rw [g2, Bool.false_and]
      exact Ev.neg g (Ev.ret rfl)
  · rw [decide_eq_false h, Bool.false_and]
    exact Ev.neg (by omega) (Ev.ret rfl)
end Go.Proofs.Ytbkaedmabdgdhaa.Pure
namespace Go.Proofs.Ytbkaedmabdgdhaa.Pure
open Go.RowKit Go.Proofs.Ytbkaedmabdgdhaa.Hd Go.Proofs.YtbkaedmabdgdhaaW.PrintWords Go.Proofs.YtbkaedmabdgdhaaW.PrintLast
set_option linter.unusedVariables false
set_option linter.unusedSimpArgs false
def winsF (l : List S_Tile) : List (List Int) := lookS stepW stp8 4 [] (sortT l) []
theorem hand_of {h : List S_Tile} (hh : handB h = true) : h.Nodup ∧ ∀ t ∈ h, goodT t = true := by
  unfold handB difT at hh
  rw [Bool.and_eq_true, Bool.and_eq_true] at hh
  exact ⟨of_decide_eq_true hh.2.2, List.all_eq_true.1 hh.2.1⟩
theorem windows_eq {l : List S_Tile} (hh : handB l = true) (h9 : l.length ≤ 9) : impl_windows.f l = some (winsF l) ∧ spec_wiAll.f l = some (winsF l) ∧ (winsF l).length ≤ 104976 ∧ ∀ w ∈ winsF l, w.length = 8 := by
  obtain ⟨hn, hg⟩ := hand_of hh
  obtain ⟨h1, h2⟩ := sort_look hn hg
  have hb := walkW_bound h9
  have hl : (winsF l).length = (walkL stepW 4 l.length [] l []).length := by unfold winsF; rw [← h2, List.length_mergeSort]
  refine ⟨?_, ?_, by omega, fun w hw => ?_⟩
  · unfold impl_windows.f
    rw [if_pos ⟨hg, by omega, by omega, h1⟩, h2]; rfl
  · unfold spec_wiAll.f
    rw [if_pos ⟨by omega, by show (winsF l).length ≤ _; omega⟩]; rfl
  · unfold winsF at hw
    rw [← h2, List.mem_mergeSort] at hw
    exact walkW_len w hw
def smallB (l : List S_Tile) : Bool := handB l && decide (l.length ≤ 9)
theorem small_of {l : List S_Tile} (h : smallB l = true) : handB l = true ∧ l.length ≤ 9 := by
  unfold smallB at h
  rw [Bool.and_eq_true] at h
  exact ⟨h.1, of_decide_eq_true h.2⟩
theorem isWindowed_ev (l : List S_Tile) : Ev (fun k => impl_isWindowed.f k l) (smallB l) := by
  unfold impl_isWindowed.f smallB
  refine Ev.bd (isHand_ev l) ?_
  by_cases h : handB l = true
  · refine Ev.pos h (Ev.ret ?_)
    rw [h, Bool.true_and, decide_eq_decide]; omega
  · refine Ev.neg h (Ev.ret ?_)
    rw [Bool.eq_false_iff.2 h, Bool.false_and]
theorem wiSmall_ev (l : List S_Tile) : Ev (fun k => spec_wiSmall.f k l) (smallB l) := by
  unfold spec_wiSmall.f smallB
  refine Ev.bd (tiHand_ev l) ?_
  by_cases h : handB l = true
  · refine Ev.pos h (Ev.ret ?_)
    rw [h, Bool.true_and, decide_eq_decide]; omega
  · refine Ev.neg h (Ev.ret ?_)
    rw [Bool.eq_false_iff.2 h, Bool.false_and]
end Go.Proofs.Ytbkaedmabdgdhaa.Pure
namespace Go.Proofs.Ytbkaedmabdgdhaa.Pure
open Go.RowKit Go.Proofs.Ytbkaedmabdgdhaa.Hd Go.Proofs.YtbkaedmabdgdhaaW.PrintWords Go.Proofs.YtbkaedmabdgdhaaW.PrintLast
set_option linter.unusedVariables false
set_option linter.unusedSimpArgs false
def sid0 (w : List Int) : Int := rd (sid w) 0
theorem rdS_at {l : List (List Int)} {i : Nat} (h : i < l.length) : rd_i64s l (i : Int) = l[i] := by simp [rd_i64s, h]
theorem wins_all (l : List S_Tile) : ∀ w ∈ winsF l, ∀ x ∈ w, 0 ≤ x ∧ x ≤ 9 := by
  intro w hw
  unfold winsF lookS at hw
  rw [foldl_stepW, List.nil_append] at hw
  exact lookN_all stp8 4 [] (sortT l) (by simp) w (List.mem_filter.1 hw).1
theorem sid0_bd {w : List Int} (h8 : w.length = 8) (h9 : ∀ x ∈ w, 0 ≤ x ∧ x ≤ 9) : 0 ≤ sid0 w ∧ sid0 w ≤ 27 := by
  have e : sid0 w = rd w 0 + rd w 1 + rd w 2 := rfl
  have b1 := h9 _ (rd_mem (l := w) (i := 0) (by omega) (by omega))
  have b2 := h9 _ (rd_mem (l := w) (i := 1) (by omega) (by omega))
  have b3 := h9 _ (rd_mem (l := w) (i := 2) (by omega) (by omega))
  rw [e]; omega
def hasS (L : List (List Int)) (x : Int) : Bool := L.any fun w => decide (sid0 w = x)
theorem hasS_iff {L : List (List Int)} {x : Int} : hasS L x = true ↔ ∃ w ∈ L, sid0 w = x := by simp [hasS]
def sumsTo (L : List (List Int)) (n : Nat) : List Int := ((List.range n).map fun x : Nat => (x : Int)).filter (hasS L)
theorem sumsTo_next (L : List (List Int)) (n : Nat) : sumsTo L (n + 1) = sumsTo L n ++ if hasS L (n : Int) = true then [(n : Int)] else [] := by
  unfold sumsTo
  rw [List.range_succ, List.map_append, List.filter_append]
  congr 1
  by_cases h : hasS L (n : Int) = true
  · rw [if_pos h]; simp [h]
  · rw [if_neg h]; simp [h]
theorem sumsTo_no {L : List (List Int)} {n : Nat} (h : ∀ w ∈ L, sid0 w ≠ (n : Int)) : sumsTo L (n + 1) = sumsTo L n := by
  rw [sumsTo_next, if_neg (fun q => by obtain ⟨w, hw, e⟩ := hasS_iff.1 q; exact h w hw e), List.append_nil]
theorem sumsTo_yes {L : List (List Int)} {n : Nat} (h : ∃ w ∈ L, sid0 w = (n : Int)) : sumsTo L (n + 1) = sumsTo L n ++ [(n : Int)] := by
  rw [sumsTo_next, if_pos (hasS_iff.2 h)]
theorem sumsTo_len (L : List (List Int)) (n : Nat) : (sumsTo L n).length ≤ n := by
  unfold sumsTo
  exact Nat.le_trans (List.length_filter_le _ _) (by simp)
theorem sumsTo_mem (L : List (List Int)) (n : Nat) (x : Int) : x ∈ sumsTo L n ↔ 0 ≤ x ∧ x < n ∧ ∃ w ∈ L, sid0 w = x := by
  unfold sumsTo
  rw [List.mem_filter, hasS_iff]
  simp only [List.mem_map, List.mem_range]
  constructor
  · rintro ⟨⟨a, ha, rfl⟩, h⟩; exact ⟨by omega, by omega, h⟩
  · rintro ⟨h0, h1, h⟩; exact ⟨⟨x.toNat, by omega, by omega⟩, h⟩
theorem sumsTo_lt (L : List (List Int)) (n : Nat) : (sumsTo L n).Pairwise (· < ·) := by
  unfold sumsTo
  refine List.Pairwise.filter _ ?_
  rw [List.pairwise_map]
  exact List.pairwise_lt_range.imp fun h => by omega
theorem sums_eq {L : List (List Int)} (h : ∀ w ∈ L, w.length = 8 ∧ ∀ x ∈ w, 0 ≤ x ∧ x ≤ 9) : Lib.compact (sortI (L.map sid0)) = sumsTo L 28 := by
  refine lt_ext _ _ (compact_lt _ (sortI_le _)) (sumsTo_lt L 28) fun x => ?_
  rw [compact_mem, sortI_mem, sumsTo_mem, List.mem_map]
  constructor
  · rintro ⟨w, hw, rfl⟩
    have := sid0_bd (h w hw).1 (h w hw).2
    exact ⟨by omega, by omega, w, hw, rfl⟩
  · rintro ⟨_, _, w, hw, e⟩; exact ⟨w, hw, e⟩
end Go.Proofs.Ytbkaedmabdgdhaa.Pure
