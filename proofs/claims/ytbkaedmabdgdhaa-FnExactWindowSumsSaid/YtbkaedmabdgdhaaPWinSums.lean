/- What WindowSums answers, the program's and the reference's. -/
import Derived.Test.YtbkaedmabdgdhaaPWinSumA
import Derived.Test.YtbkaedmabdgdhaaMWinT
import Derived.Test.YtbkaedmabdgdhaaG4
namespace Go.Proofs.Ytbkaedmabdgdhaa.Pure
open Go.RowKit Go.Proofs.Ytbkaedmabdgdhaa.Hd Go.Proofs.YtbkaedmabdgdhaaW.PrintWords Go.Proofs.YtbkaedmabdgdhaaW.PrintLast
set_option linter.unusedVariables false
set_option linter.unusedSimpArgs false
theorem specSums_l1 (L : List (List Int)) (hL : L.length ≤ 1000000) (hw : ∀ w ∈ L, w.length = 8 ∧ ∀ x ∈ w, 0 ≤ x ∧ x ≤ 9) (n : Nat) (hn : n ≤ 27) (R : List Int × Bool) (hK : Ev (fun k => spec_WindowSums.l0 k L (sumsTo L (n + 1)) ((n + 1 : Nat) : Int)) R) :
    ∀ (d i : Nat), i + d = L.length → (∀ w ∈ L.take i, sid0 w ≠ (n : Int)) → Ev (fun k => spec_WindowSums.l1 k L (sumsTo L n) (n : Int) L (L.length : Int) (i : Int)) R := by
  intro d
  induction d with
  | zero =>
    intro i hi hno
    rw [List.take_of_length_le (by omega)] at hno
    refine Ev.succ ?_
    simp only [spec_WindowSums.l1]
    rw [w64' (n := (n : Int) + 1) (m := ((n + 1 : Nat) : Int)) (by omega) (by omega) (by omega)]
    refine Ev.neg (by omega) ?_
    rw [sumsTo_no hno] at hK
    exact hK
  | succ d ih =>
    intro i hi hno
    have hlt : i < L.length := by omega
    have hx := hw _ (List.getElem_mem hlt)
    refine Ev.succ ?_
    simp only [spec_WindowSums.l1]
    rw [rdS_at hlt, w64' (n := (n : Int) + 1) (m := ((n + 1 : Nat) : Int)) (by omega) (by omega) (by omega), w64' (n := (i : Int) + 1) (m := ((i + 1 : Nat) : Int)) (by omega) (by omega) (by omega)]
    refine Ev.pos (by omega) (Ev.pos (by omega) (Ev.pos (by omega) (Ev.bd (wiSides_ev L[i] hx.1 hx.2) (Ev.pos (by rw [sid_len]; omega) ?_))))
    by_cases e : sid0 L[i] = (n : Int)
    · refine Ev.pos e (Ev.pos (by have := sumsTo_len L n; omega) ?_)
      rw [sumsTo_yes ⟨_, List.getElem_mem hlt, e⟩] at hK
      exact hK
    · refine Ev.neg e (ih (i + 1) (by omega) fun w hw => ?_)
      rw [List.take_succ_eq_append_getElem hlt, List.mem_append] at hw
      rcases hw with hw | hw
      · exact hno w hw
      · simp only [List.mem_singleton] at hw; rw [hw]; exact e
theorem specSums_l0 (L : List (List Int)) (hL : L.length ≤ 1000000) (hw : ∀ w ∈ L, w.length = 8 ∧ ∀ x ∈ w, 0 ≤ x ∧ x ≤ 9) : ∀ (d n : Nat), n + d = 28 → Ev (fun k => spec_WindowSums.l0 k L (sumsTo L n) (n : Int)) (sumsTo L 28, true) := by
  intro d
  induction d with
  | zero =>
    intro n hn
    refine Ev.succ ?_
    simp only [spec_WindowSums.l0]
    obtain rfl : n = 28 := by omega
    exact Ev.neg (by omega) (Ev.ret rfl)
  | succ d ih =>
    intro n hn
    refine Ev.succ ?_
    simp only [spec_WindowSums.l0]
    refine Ev.pos (by omega) ?_
    exact specSums_l1 L hL hw n (by omega) _ (ih (n + 1) (by omega)) L.length 0 (by omega) (by simp)
def resWindowSums (l : List S_Tile) : List Int × Bool := if smallB l = true then (sumsTo (winsF l) 28, true) else ([], false)
theorem resWS_pos {l : List S_Tile} (h : smallB l = true) : resWindowSums l = (sumsTo (winsF l) 28, true) := if_pos h
theorem resWS_neg {l : List S_Tile} (h : ¬ smallB l = true) : resWindowSums l = ([], false) := if_neg h
theorem specWindowSums_ev (l : List S_Tile) : Ev (fun k => spec_WindowSums.f k l) (resWindowSums l) := by
  unfold spec_WindowSums.f
  refine Ev.bd (wiSmall_ev l) ?_
  by_cases h : smallB l = true
  · obtain ⟨h1, h2⟩ := small_of h
    obtain ⟨-, q2, q3, q4⟩ := windows_eq h1 h2
    rw [resWS_pos h]
    exact Ev.pos h (Ev.bs q2 (specSums_l0 _ (by omega) (fun w hw => ⟨q4 w hw, wins_all l w hw⟩) 28 0 rfl))
  · rw [resWS_neg h]; exact Ev.neg h (Ev.ret rfl)
theorem implWindowSums_eq (l : List S_Tile) : impl_WindowSums.f l = some (resWindowSums l) := by
  unfold impl_WindowSums.f
  by_cases h : smallB l = true
  · rw [resWS_pos h, if_pos h, sums_eq (fun w hw => ⟨(windows_eq (small_of h).1 (small_of h).2).2.2.2 w hw, wins_all l w hw⟩)]
  · rw [resWS_neg h, if_neg h]
theorem implWindowSums_ev (l : List S_Tile) : Ev (fun k => impl_WindowSums.f l) (resWindowSums l) := by
  rw [implWindowSums_eq]; exact Ev.ret rfl
theorem resWindowSums_len (l : List S_Tile) : (resWindowSums l).1.length ≤ 28 := by
  by_cases h : smallB l = true
  · rw [resWS_pos h]; exact sumsTo_len _ _
  · rw [resWS_neg h]; simp
end Go.Proofs.Ytbkaedmabdgdhaa.Pure
