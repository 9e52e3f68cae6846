/- What CountWindows and AllWindows answer, the program's and the reference's. -/
import Derived.Test.YtbkaedmabdgdhaaPWinC
import Derived.Test.YtbkaedmabdgdhaaMWinW
import Derived.Test.YtbkaedmabdgdhaaMWinA
import Derived.Test.YtbkaedmabdgdhaaG4
import Derived.Test.YtbkaedmabdgdhaaPTile
import Derived.Test.YtbkaedmabdgdhaaMHand
namespace Go.Proofs.Ytbkaedmabdgdhaa.Pure
open Go.RowKit Go.Proofs.Ytbkaedmabdgdhaa.Hd Go.Proofs.YtbkaedmabdgdhaaW.PrintWords Go.Proofs.YtbkaedmabdgdhaaW.PrintLast
set_option linter.unusedVariables false
set_option linter.unusedSimpArgs false
theorem isHand_ev (l : List S_Tile) : Ev (fun k => impl_IsHand.f k l) (handB l) := by
  unfold impl_IsHand.f handB
  by_cases h : l.length ≤ 55
  · rw [decide_eq_true h, Bool.true_and]
    refine Ev.pos (by omega) ?_
    by_cases g : l.all tileB = true
    · have g2 : l.all goodT = true := g
      rw [g2, Bool.true_and]
      exact Ev.pos g (areDif_ev l (by omega))
    · have g2 : l.all goodT = false := Bool.eq_false_iff.2 g
      rw [g2, Bool.false_and]
      exact Ev.neg g (Ev.ret rfl)
  · rw [decide_eq_false h, Bool.false_and]
    exact Ev.neg (by omega) (Ev.ret rfl)
end Go.Proofs.Ytbkaedmabdgdhaa.Pure
namespace Go.Proofs.Ytbkaedmabdgdhaa.Pure
open Go.RowKit Go.Proofs.Ytbkaedmabdgdhaa.Hd Go.Proofs.YtbkaedmabdgdhaaW.PrintWords Go.Proofs.YtbkaedmabdgdhaaW.PrintLast
set_option linter.unusedVariables false
set_option linter.unusedSimpArgs false
def winsF (l : List S_Tile) : List (List Int) := lookS stepW stp8 4 [] (sortT l) []
theorem hand_of {h : List S_Tile} (hh : handB h = true) : h.Nodup ∧ ∀ t ∈ h, goodT t = true := by
  unfold handB difT at hh
  rw [Bool.and_eq_true, Bool.and_eq_true] at hh
  exact ⟨of_decide_eq_true hh.2.2, List.all_eq_true.1 hh.2.1⟩
theorem windows_eq {l : List S_Tile} (hh : handB l = true) (h9 : l.length ≤ 9) : impl_windows.f l = some (winsF l) ∧ spec_wiAll.f l = some (winsF l) ∧ (winsF l).length ≤ 104976 ∧ ∀ w ∈ winsF l, w.length = 8 := by
  obtain ⟨hn, hg⟩ := hand_of hh
  obtain ⟨h1, h2⟩ := sort_look hn hg
  have hb := walkW_bound h9
  have hl : (winsF l).length = (walkL stepW 4 l.length [] l []).length := by unfold winsF; rw [← h2, List.length_mergeSort]
  refine ⟨?_, ?_, by omega, fun w hw => ?_⟩
  · unfold impl_windows.f
    rw [if_pos ⟨hg, by omega, by omega, h1⟩, h2]; rfl
  · unfold spec_wiAll.f
    rw [if_pos ⟨by omega, by show (winsF l).length ≤ _; omega⟩]; rfl
  · unfold winsF at hw
    rw [← h2, List.mem_mergeSort] at hw
    exact walkW_len w hw
def smallB (l : List S_Tile) : Bool := handB l && decide (l.length ≤ 9)
theorem small_of {l : List S_Tile} (h : smallB l = true) : handB l = true ∧ l.length ≤ 9 := by
  unfold smallB at h
  rw [Bool.and_eq_true] at h
  exact ⟨h.1, of_decide_eq_true h.2⟩
theorem isWindowed_ev (l : List S_Tile) : Ev (fun k => impl_isWindowed.f k l) (smallB l) := by
  unfold impl_isWindowed.f smallB
  refine Ev.bd (isHand_ev l) ?_
  by_cases h : handB l = true
  · refine Ev.pos h (Ev.ret ?_)
    rw [h, Bool.true_and, decide_eq_decide]; omega
  · refine Ev.neg h (Ev.ret ?_)
    rw [Bool.eq_false_iff.2 h, Bool.false_and]
theorem wiSmall_ev (l : List S_Tile) : Ev (fun k => spec_wiSmall.f k l) (smallB l) := by
  unfold spec_wiSmall.f smallB
  refine Ev.bd (tiHand_ev l) ?_
  by_cases h : handB l = true
  · refine Ev.pos h (Ev.ret ?_)
    rw [h, Bool.true_and, decide_eq_decide]; omega
  · refine Ev.neg h (Ev.ret ?_)
    rw [Bool.eq_false_iff.2 h, Bool.false_and]
def resCountWindows (l : List S_Tile) : Int × Bool := if smallB l = true then (((winsF l).length : Int), true) else (0, false)
theorem resCW_pos {l : List S_Tile} (h : smallB l = true) : resCountWindows l = (((winsF l).length : Int), true) := if_pos h
theorem resCW_neg {l : List S_Tile} (h : ¬ smallB l = true) : resCountWindows l = (0, false) := if_neg h
theorem implCountWindows_ev (l : List S_Tile) : Ev (fun k => impl_CountWindows.f k l) (resCountWindows l) := by
  unfold impl_CountWindows.f
  refine Ev.bd (isWindowed_ev l) ?_
  by_cases h : smallB l = true
  · obtain ⟨h1, h2⟩ := small_of h
    rw [resCW_pos h]
    exact Ev.pos h (Ev.bs (windows_eq h1 h2).1 (Ev.ret rfl))
  · rw [resCW_neg h]; exact Ev.neg h (Ev.ret rfl)
def resAllWindows (l : List S_Tile) : List (List Int) × Bool := if smallB l = true ∧ (winsF l).length ≤ 200 then (winsF l, true) else ([], false)
theorem resAW_pos {l : List S_Tile} (h : smallB l = true) (c : (winsF l).length ≤ 200) : resAllWindows l = (winsF l, true) := if_pos ⟨h, c⟩
theorem resAW_neg {l : List S_Tile} (h : ¬ (smallB l = true ∧ (winsF l).length ≤ 200)) : resAllWindows l = ([], false) := if_neg h
theorem specAllWindows_ev (l : List S_Tile) : Ev (fun k => spec_AllWindows.f k l) (resAllWindows l) := by
  unfold spec_AllWindows.f
  refine Ev.bd (wiSmall_ev l) ?_
  by_cases h : smallB l = true
  · obtain ⟨h1, h2⟩ := small_of h
    refine Ev.pos h (Ev.bs (windows_eq h1 h2).2.1 ?_)
    by_cases c : (winsF l).length ≤ 200
    · rw [resAW_pos h c]; exact Ev.neg (by omega) (Ev.ret rfl)
    · rw [resAW_neg (fun q => c q.2)]; exact Ev.pos (by omega) (Ev.ret rfl)
  · rw [resAW_neg (fun q => h q.1)]; exact Ev.neg h (Ev.ret rfl)
theorem implAllWindows_ev (l : List S_Tile) : Ev (fun k => impl_AllWindows.f k l) (resAllWindows l) := by
  unfold impl_AllWindows.f
  refine Ev.bd (implCountWindows_ev l) ?_
  by_cases h : smallB l = true
  · obtain ⟨h1, h2⟩ := small_of h
    rw [resCW_pos h]
    by_cases c : (winsF l).length ≤ 200
    · rw [resAW_pos h c]; exact Ev.pos rfl (Ev.neg (by show ¬ ((winsF l).length : Int) > 200; omega) (Ev.bs (windows_eq h1 h2).1 (Ev.ret rfl)))
    · rw [resAW_neg (fun q => c q.2)]; exact Ev.pos rfl (Ev.pos (by show ((winsF l).length : Int) > 200; omega) (Ev.ret rfl))
  · rw [resCW_neg h, resAW_neg (fun q => h q.1)]; exact Ev.neg (by simp) (Ev.ret rfl)
theorem resAllWindows_len (l : List S_Tile) : (resAllWindows l).1.length ≤ 200 ∧ ∀ w ∈ (resAllWindows l).1, w.length = 8 := by
  unfold resAllWindows
  split
  · rename_i h
    obtain ⟨h1, h2⟩ := small_of h.1
    exact ⟨h.2, (windows_eq h1 h2).2.2.2⟩
  · exact ⟨by simp, fun w hw => by cases hw⟩
end Go.Proofs.Ytbkaedmabdgdhaa.Pure
