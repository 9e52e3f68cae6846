/- What WindowTiles, MirrorWindow, SidesOfWindow and ComplementWindow answer, the program's and the reference's. -/
import Derived.Test.YtnoagkhmmckiaaaPIsWindow
import Derived.Test.YtnoagkhmmckiaaaG7
import Derived.Test.YtnoagkhmmckiaaaG13
import Derived.Test.YtnoagkhmmckiaaaG5
import Derived.Test.YtnoagkhmmckiaaaG11
import Derived.Test.YtnoagkhmmckiaaaG6
import Derived.Test.YtnoagkhmmckiaaaG12
import Derived.Test.YtnoagkhmmckiaaaG3
import Derived.Test.YtnoagkhmmckiaaaG9
namespace Go.Proofs.Ytnoagkhmmckiaaa.Pure
open Go.RowKit Go.Proofs.Ytnoagkhmmckiaaa.Hd Go.Proofs.YtnoagkhmmckiaaaW.PrintWords Go.Proofs.YtnoagkhmmckiaaaW.PrintLast
set_option linter.unusedVariables false
set_option linter.unusedSimpArgs false
theorem winB_len {l : List Int} (h : winB l = true) : l.length = 8 := by
  unfold winB at h
  rw [Bool.and_eq_true] at h
  exact of_decide_eq_true h.1
theorem winB_all {l : List Int} (h : winB l = true) : ∀ x ∈ l, 0 ≤ x ∧ x ≤ 9 := by
  unfold winB at h
  rw [Bool.and_eq_true, Bool.and_eq_true, List.all_eq_true] at h
  intro x hx
  have := h.2.1 x hx
  simpa [inB] using this
theorem rd_mem {l : List Int} {i : Int} (h0 : 0 ≤ i) (h : i < l.length) : rd l i ∈ l := by
  obtain ⟨j, rfl⟩ : ∃ j : Nat, i = j := ⟨i.toNat, by omega⟩
  rw [rd_at (by omega)]; exact List.getElem_mem _

def resWindowTiles (l : List Int) : List S_Tile × Bool := if winB l = true then (prs l, true) else ([], false)
theorem specWindowTiles_ev (l : List Int) : Ev (fun k => spec_WindowTiles.f k l) (resWindowTiles l) := by
  unfold spec_WindowTiles.f resWindowTiles
  refine Ev.bd (wiGood_ev l) ?_
  by_cases h : winB l = true
  · rw [if_pos h]
    exact Ev.pos h (Ev.bd (wiTiles_ev l (by rw [winB_len h]; omega)) (Ev.ret rfl))
  · rw [if_neg h]
    exact Ev.neg h (Ev.ret rfl)
theorem implWindowTiles_ev (l : List Int) : Ev (fun k => impl_WindowTiles.f k l) (resWindowTiles l) := by
  unfold impl_WindowTiles.f resWindowTiles
  refine Ev.bd (isWindow_ev l) ?_
  by_cases h : winB l = true
  · rw [if_pos h]
    exact Ev.pos h (Ev.bd (tilesIn_ev l (by rw [winB_len h]; omega)) (Ev.ret rfl))
  · rw [if_neg h]
    exact Ev.neg h (Ev.ret rfl)
theorem resWindowTiles_len (l : List Int) : (resWindowTiles l).1.length ≤ 1048576 := by
  unfold resWindowTiles
  split
  · rename_i h
    have := winB_len h
    have := prs_len l
    show (prs l).length ≤ _
    omega
  · exact Nat.zero_le _

def mirr (l : List Int) : List Int := (List.range 8).map fun (k : Nat) => rd l ((9 - (k : Int)).tmod 8)
def resMirrorWindow (l : List Int) : List Int × Bool := if winB l = true then (mirr l, true) else ([], false)
theorem mirr_take (l : List Int) (i : Nat) (h : i < 8) : (mirr l).take (i + 1) = (mirr l).take i ++ [rd l ((9 - (i : Int)).tmod 8)] := by
  have hl : i < (mirr l).length := by simp [mirr]; exact h
  rw [List.take_succ_eq_append_getElem hl]
  simp [mirr]
theorem mirr_len (l : List Int) : (mirr l).length = 8 := by simp [mirr]
theorem tmod_bounds (i : Nat) (h : i < 8) : 0 ≤ (9 - (i : Int)).tmod 8 ∧ (9 - (i : Int)).tmod 8 < 8 := by
  rw [Int.tmod_eq_emod_of_nonneg (by omega)]; omega
theorem specMirror_l0 (l : List Int) (hl : l.length = 8) : ∀ (d i : Nat), i + d = 8 → Ev (fun k => spec_MirrorWindow.l0 k l ((mirr l).take i) (i : Int)) (mirr l, true) := by
  intro d
  induction d with
  | zero =>
    intro i hi
    refine Ev.succ ?_
    simp only [spec_MirrorWindow.l0]
    refine Ev.neg (by omega) (Ev.ret ?_)
    rw [List.take_of_length_le (by rw [mirr_len]; omega)]
  | succ d ih =>
    intro i hi
    refine Ev.succ ?_
    have hb := tmod_bounds i (by omega)
    simp only [spec_MirrorWindow.l0]
    rw [w64' (n := 9 - (i : Int)) (m := 9 - (i : Int)) (by omega) (by omega) (by omega), w64' (n := (i : Int) + 1) (m := ((i + 1 : Nat) : Int)) (by omega) (by omega) (by omega), ← mirr_take l i (by omega)]
    refine Ev.pos (by omega) (Ev.pos hb.1 (Ev.pos (by omega) (Ev.pos ?_ (ih (i + 1) (by omega)))))
    rw [List.length_take, mirr_len]; omega
theorem implMirror_l0 (l : List Int) (hl : l.length = 8) : ∀ (d i : Nat), i + d = 8 → Ev (fun k => impl_MirrorWindow.l0 k l ((mirr l).take i) (i : Int)) (mirr l, true) := by
  intro d
  induction d with
  | zero =>
    intro i hi
    refine Ev.succ ?_
    simp only [impl_MirrorWindow.l0]
    refine Ev.neg (by omega) (Ev.ret ?_)
    rw [List.take_of_length_le (by rw [mirr_len]; omega)]
  | succ d ih =>
    intro i hi
    refine Ev.succ ?_
    have hb := tmod_bounds i (by omega)
    simp only [impl_MirrorWindow.l0]
    rw [w64' (n := 9 - (i : Int)) (m := 9 - (i : Int)) (by omega) (by omega) (by omega), w64' (n := (i : Int) + 1) (m := ((i + 1 : Nat) : Int)) (by omega) (by omega) (by omega), ← mirr_take l i (by omega)]
    refine Ev.pos (by omega) (Ev.pos hb.1 (Ev.pos (by omega) (Ev.pos ?_ (ih (i + 1) (by omega)))))
    rw [List.length_take, mirr_len]; omega
theorem specMirrorWindow_ev (l : List Int) : Ev (fun k => spec_MirrorWindow.f k l) (resMirrorWindow l) := by
  unfold spec_MirrorWindow.f resMirrorWindow
  refine Ev.bd (wiGood_ev l) ?_
  by_cases h : winB l = true
  · rw [if_pos h]
    exact Ev.pos h (specMirror_l0 l (winB_len h) 8 0 (by omega))
  · rw [if_neg h]
    exact Ev.neg h (Ev.ret rfl)
theorem implMirrorWindow_ev (l : List Int) : Ev (fun k => impl_MirrorWindow.f k l) (resMirrorWindow l) := by
  unfold impl_MirrorWindow.f resMirrorWindow
  refine Ev.bd (isWindow_ev l) ?_
  by_cases h : winB l = true
  · rw [if_pos h]
    exact Ev.pos h (implMirror_l0 l (winB_len h) 8 0 (by omega))
  · rw [if_neg h]
    exact Ev.neg h (Ev.ret rfl)
theorem resMirrorWindow_len (l : List Int) : (resMirrorWindow l).1.length ≤ 1048576 := by
  unfold resMirrorWindow
  split
  · show (mirr l).length ≤ _
    rw [mirr_len]; omega
  · exact Nat.zero_le _

/-- The sides from the k-th on. -/
def sid (l : List Int) : List Int := (List.range 4).map fun (k : Nat) => rd l (2 * k) + rd l (2 * k + 1) + rd l ((2 * (k : Int) + 2).tmod 8)
theorem sid_len (l : List Int) : (sid l).length = 4 := by simp [sid]
theorem sid_take (l : List Int) (i : Nat) (h : i < 4) : (sid l).take (i + 1) = (sid l).take i ++ [rd l (2 * i) + rd l (2 * i + 1) + rd l ((2 * (i : Int) + 2).tmod 8)] := by
  have hl : i < (sid l).length := by rw [sid_len]; exact h
  rw [List.take_succ_eq_append_getElem hl]
  simp [sid]
theorem specSides_l0 (l : List Int) (hl : l.length = 8) (hw : ∀ x ∈ l, 0 ≤ x ∧ x ≤ 9) : ∀ (d i : Nat), i + d = 4 → Ev (fun k => spec_wiSides.l0 k l ((sid l).take i) (2 * (i : Int))) (sid l) := by
  intro d
  induction d with
  | zero =>
    intro i hi
    refine Ev.succ ?_
    simp only [spec_wiSides.l0]
    refine Ev.neg (by omega) (Ev.ret ?_)
    rw [List.take_of_length_le (by rw [sid_len]; omega)]
  | succ d ih =>
    intro i hi
    refine Ev.succ ?_
    have hb : 0 ≤ (2 * (i : Int) + 2).tmod 8 ∧ (2 * (i : Int) + 2).tmod 8 < 8 := by rw [Int.tmod_eq_emod_of_nonneg (by omega)]; omega
    have b1 := hw _ (rd_mem (l := l) (i := 2 * (i : Int)) (by omega) (by omega))
    have b2 := hw _ (rd_mem (l := l) (i := 2 * (i : Int) + 1) (by omega) (by omega))
    have b3 := hw _ (rd_mem (l := l) (i := (2 * (i : Int) + 2).tmod 8) hb.1 (by omega))
    simp only [spec_wiSides.l0]
    rw [w64' (n := 2 * (i : Int) + 1) (m := 2 * (i : Int) + 1) (by omega) (by omega) (by omega), w64' (n := 2 * (i : Int) + 2) (m := 2 * (i : Int) + 2) (by omega) (by omega) (by omega), w64' (n := rd l (2 * (i : Int)) + rd l (2 * (i : Int) + 1)) rfl (by omega) (by omega), w64' (n := rd l (2 * (i : Int)) + rd l (2 * (i : Int) + 1) + rd l ((2 * (i : Int) + 2).tmod 8)) rfl (by omega) (by omega), ← sid_take l i (by omega)]
    refine Ev.pos (by omega) (Ev.pos (by omega) (Ev.pos (by omega) (Ev.pos (by omega) (Ev.pos (by omega) (Ev.pos hb.1 (Ev.pos (by omega) (Ev.pos ?_ ?_)))))))
    · rw [List.length_take, sid_len]; omega
    · have := ih (i + 1) (by omega)
      rw [show 2 * ((i + 1 : Nat) : Int) = 2 * (i : Int) + 2 by omega] at this
      exact this
theorem wiSides_ev (l : List Int) (hl : l.length = 8) (hw : ∀ x ∈ l, 0 ≤ x ∧ x ≤ 9) : Ev (fun k => spec_wiSides.f k l) (sid l) := by
  unfold spec_wiSides.f
  exact specSides_l0 l hl hw 4 0 (by omega)
theorem implSides_l0 (l : List Int) (hl : l.length = 8) (hw : ∀ x ∈ l, 0 ≤ x ∧ x ≤ 9) : ∀ (d i : Nat), i + d = 4 → Ev (fun k => impl_sides.l0 k l ((sid l).take i) (2 * (i : Int))) (sid l) := by
  intro d
  induction d with
  | zero =>
    intro i hi
    refine Ev.succ ?_
    simp only [impl_sides.l0]
    refine Ev.neg (by omega) (Ev.ret ?_)
    rw [List.take_of_length_le (by rw [sid_len]; omega)]
  | succ d ih =>
    intro i hi
    refine Ev.succ ?_
    have hb : 0 ≤ (2 * (i : Int) + 2).tmod 8 ∧ (2 * (i : Int) + 2).tmod 8 < 8 := by rw [Int.tmod_eq_emod_of_nonneg (by omega)]; omega
    have b1 := hw _ (rd_mem (l := l) (i := 2 * (i : Int)) (by omega) (by omega))
    have b2 := hw _ (rd_mem (l := l) (i := 2 * (i : Int) + 1) (by omega) (by omega))
    have b3 := hw _ (rd_mem (l := l) (i := (2 * (i : Int) + 2).tmod 8) hb.1 (by omega))
    simp only [impl_sides.l0]
    rw [w64' (n := 2 * (i : Int) + 1) (m := 2 * (i : Int) + 1) (by omega) (by omega) (by omega), w64' (n := 2 * (i : Int) + 2) (m := 2 * (i : Int) + 2) (by omega) (by omega) (by omega), w64' (n := rd l (2 * (i : Int)) + rd l (2 * (i : Int) + 1)) rfl (by omega) (by omega), w64' (n := rd l (2 * (i : Int)) + rd l (2 * (i : Int) + 1) + rd l ((2 * (i : Int) + 2).tmod 8)) rfl (by omega) (by omega), ← sid_take l i (by omega)]
    refine Ev.pos (by omega) (Ev.pos (by omega) (Ev.pos (by omega) (Ev.pos (by omega) (Ev.pos (by omega) (Ev.pos hb.1 (Ev.pos (by omega) (Ev.pos ?_ ?_)))))))
    · rw [List.length_take, sid_len]; omega
    · have := ih (i + 1) (by omega)
      rw [show 2 * ((i + 1 : Nat) : Int) = 2 * (i : Int) + 2 by omega] at this
      exact this
theorem sides_ev (l : List Int) (hl : l.length = 8) (hw : ∀ x ∈ l, 0 ≤ x ∧ x ≤ 9) : Ev (fun k => impl_sides.f k l) (sid l) := by
  unfold impl_sides.f
  exact implSides_l0 l hl hw 4 0 (by omega)
def resSidesOfWindow (l : List Int) : List Int × Bool := if winB l = true then (sid l, true) else ([], false)
theorem specSidesOfWindow_ev (l : List Int) : Ev (fun k => spec_SidesOfWindow.f k l) (resSidesOfWindow l) := by
  unfold spec_SidesOfWindow.f resSidesOfWindow
  refine Ev.bd (wiGood_ev l) ?_
  by_cases h : winB l = true
  · rw [if_pos h]
    exact Ev.pos h (Ev.bd (wiSides_ev l (winB_len h) (winB_all h)) (Ev.ret rfl))
  · rw [if_neg h]
    exact Ev.neg h (Ev.ret rfl)
theorem implSidesOfWindow_ev (l : List Int) : Ev (fun k => impl_SidesOfWindow.f k l) (resSidesOfWindow l) := by
  unfold impl_SidesOfWindow.f resSidesOfWindow
  refine Ev.bd (isWindow_ev l) ?_
  by_cases h : winB l = true
  · rw [if_pos h]
    exact Ev.pos h (Ev.bd (sides_ev l (winB_len h) (winB_all h)) (Ev.ret rfl))
  · rw [if_neg h]
    exact Ev.neg h (Ev.ret rfl)
theorem resSidesOfWindow_len (l : List Int) : (resSidesOfWindow l).1.length ≤ 1048576 := by
  unfold resSidesOfWindow
  split
  · show (sid l).length ≤ _
    rw [sid_len]; omega
  · exact Nat.zero_le _

def cpl (l : List Int) (n : Int) : List Int := l.map fun x => n - x
def cplB (l : List Int) (n : Int) : Bool := winB l && (inB 0 9 n && l.all (inB 0 n))
def resComplementWindow (l : List Int) (n : Int) : List Int × Bool := if cplB l n = true then (cpl l n, true) else ([], false)
theorem cpl_take (l : List Int) (n : Int) (i : Nat) (h : i < l.length) : (cpl l n).take (i + 1) = (cpl l n).take i ++ [n - l[i]] := by
  have hl : i < (cpl l n).length := by simp [cpl]; exact h
  rw [List.take_succ_eq_append_getElem hl]
  simp [cpl]
theorem specCpl_l0 (l : List Int) (hl : l.length = 8) (hw : ∀ x ∈ l, 0 ≤ x ∧ x ≤ 9) (n : Int) (h0 : 0 ≤ n) (h9 : n ≤ 9) : ∀ (d i : Nat), i + d = l.length → Ev (fun k => spec_ComplementWindow.l0 k n ((cpl l n).take i) l (l.length : Int) (i : Int)) (cpl l n, true) := by
  intro d
  induction d with
  | zero =>
    intro i hi
    refine Ev.succ ?_
    simp only [spec_ComplementWindow.l0]
    refine Ev.neg (by omega) (Ev.ret ?_)
    rw [List.take_of_length_le (by simp [cpl]; omega)]
  | succ d ih =>
    intro i hi
    refine Ev.succ ?_
    have hlt : i < l.length := by omega
    have b := hw _ (List.getElem_mem hlt)
    simp only [spec_ComplementWindow.l0]
    rw [rd_at hlt, w64' (n := n - l[i]) rfl (by omega) (by omega), w64' (n := (i : Int) + 1) (m := ((i + 1 : Nat) : Int)) (by omega) (by omega) (by omega), ← cpl_take l n i hlt]
    refine Ev.pos (by omega) (Ev.pos (by omega) (Ev.pos (by omega) (Ev.pos ?_ (ih (i + 1) (by omega)))))
    rw [List.length_take]; omega
theorem implCpl_l0 (l : List Int) (hl : l.length = 8) (hw : ∀ x ∈ l, 0 ≤ x ∧ x ≤ 9) (n : Int) (h0 : 0 ≤ n) (h9 : n ≤ 9) : ∀ (d i : Nat), i + d = l.length → Ev (fun k => impl_ComplementWindow.l0 k n ((cpl l n).take i) l (l.length : Int) (i : Int)) (cpl l n, true) := by
  intro d
  induction d with
  | zero =>
    intro i hi
    refine Ev.succ ?_
    simp only [impl_ComplementWindow.l0]
    refine Ev.neg (by omega) (Ev.ret ?_)
    rw [List.take_of_length_le (by simp [cpl]; omega)]
  | succ d ih =>
    intro i hi
    refine Ev.succ ?_
    have hlt : i < l.length := by omega
    have b := hw _ (List.getElem_mem hlt)
    simp only [impl_ComplementWindow.l0]
    rw [rd_at hlt, w64' (n := n - l[i]) rfl (by omega) (by omega), w64' (n := (i : Int) + 1) (m := ((i + 1 : Nat) : Int)) (by omega) (by omega) (by omega), ← cpl_take l n i hlt]
    refine Ev.pos (by omega) (Ev.pos (by omega) (Ev.pos (by omega) (Ev.pos ?_ (ih (i + 1) (by omega)))))
    rw [List.length_take]; omega
theorem within_eq (n a b : Int) : impl_within.f n a b = some (inB a b n) := by
  unfold impl_within.f inB
  by_cases h : a ≤ n
  · rw [if_pos h, decide_eq_true h, Bool.true_and]
  · rw [if_neg h, decide_eq_false h, Bool.false_and]
theorem isNumber_eq (n : Int) : impl_isNumber.f n = some (inB 0 9 n) := by
  unfold impl_isNumber.f; rw [within_eq]; rfl
theorem tiNumber_eq (n : Int) : spec_tiNumber.f n = some (inB 0 9 n) := by
  unfold spec_tiNumber.f; rw [l1In_eq]; rfl
theorem inB_iff {a b n : Int} : inB a b n = true ↔ a ≤ n ∧ n ≤ b := by simp [inB]
theorem specComplementWindow_ev (l : List Int) (n : Int) : Ev (fun k => spec_ComplementWindow.f k l n) (resComplementWindow l n) := by
  unfold spec_ComplementWindow.f resComplementWindow cplB
  refine Ev.bd (wiGood_ev l) ?_
  by_cases h : winB l = true
  · refine Ev.pos h (Ev.bs (tiNumber_eq n) ?_)
    rw [h, Bool.true_and]
    by_cases g : inB 0 9 n = true
    · refine Ev.pos g (Ev.bd (l1All_ev l (by rw [winB_len h]; omega) 0 n) (Ev.succ ?_))
      rw [g, Bool.true_and]
      simp only [spec_ComplementWindow.j0]
      by_cases c : l.all (inB 0 n) = true
      · rw [if_pos c]
        have hn := inB_iff.1 g
        exact Ev.neg (by rw [c]; decide) (specCpl_l0 l (winB_len h) (winB_all h) n hn.1 hn.2 l.length 0 (by omega))
      · rw [if_neg c]
        exact Ev.pos (by rw [Bool.eq_false_iff.2 c]; rfl) (Ev.ret rfl)
    · refine Ev.neg g (Ev.succ ?_)
      rw [if_neg (by rw [Bool.eq_false_iff.2 g]; simp)]
      simp only [spec_ComplementWindow.j0]
      exact Ev.pos (by trivial) (Ev.ret rfl)
  · refine Ev.neg h (Ev.succ ?_)
    rw [if_neg (by rw [Bool.eq_false_iff.2 h]; simp)]
    simp only [spec_ComplementWindow.j0]
    exact Ev.pos (by trivial) (Ev.ret rfl)
theorem implComplementWindow_ev (l : List Int) (n : Int) : Ev (fun k => impl_ComplementWindow.f k l n) (resComplementWindow l n) := by
  unfold impl_ComplementWindow.f resComplementWindow cplB
  refine Ev.bd (isWindow_ev l) ?_
  by_cases h : winB l = true
  · refine Ev.pos h (Ev.bs (isNumber_eq n) ?_)
    rw [h, Bool.true_and]
    by_cases g : inB 0 9 n = true
    · refine Ev.pos g (Ev.bs (areWithin_eq l 0 n) (Ev.succ ?_))
      rw [g, Bool.true_and]
      simp only [impl_ComplementWindow.j0]
      by_cases c : l.all (inB 0 n) = true
      · rw [if_pos c]
        have hn := inB_iff.1 g
        exact Ev.neg (by rw [c]; decide) (implCpl_l0 l (winB_len h) (winB_all h) n hn.1 hn.2 l.length 0 (by omega))
      · rw [if_neg c]
        exact Ev.pos (by rw [Bool.eq_false_iff.2 c]; rfl) (Ev.ret rfl)
    · refine Ev.neg g (Ev.succ ?_)
      rw [if_neg (by rw [Bool.eq_false_iff.2 g]; simp)]
      simp only [impl_ComplementWindow.j0]
      exact Ev.pos (by trivial) (Ev.ret rfl)
  · refine Ev.neg h (Ev.succ ?_)
    rw [if_neg (by rw [Bool.eq_false_iff.2 h]; simp)]
    simp only [impl_ComplementWindow.j0]
    exact Ev.pos (by trivial) (Ev.ret rfl)
theorem resComplementWindow_len (l : List Int) (n : Int) : (resComplementWindow l n).1.length ≤ 1048576 := by
  unfold resComplementWindow
  split
  · rename_i h
    unfold cplB at h
    rw [Bool.and_eq_true] at h
    have := winB_len h.1
    show (cpl l n).length ≤ _
    unfold cpl; rw [List.length_map]; omega
  · exact Nat.zero_le _
end Go.Proofs.Ytnoagkhmmckiaaa.Pure
