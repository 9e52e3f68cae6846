/- The sides of a window. -/
import Derived.Test.YtbkaedmabdgdhaaPWin0
import Derived.Test.YtbkaedmabdgdhaaG2
import Derived.Test.YtbkaedmabdgdhaaG2
namespace Go.Proofs.Ytbkaedmabdgdhaa.Pure
open Go.RowKit Go.Proofs.Ytbkaedmabdgdhaa.Hd Go.Proofs.YtbkaedmabdgdhaaW.PrintWords Go.Proofs.YtbkaedmabdgdhaaW.PrintLast
set_option linter.unusedVariables false
set_option linter.unusedSimpArgs false
/-- The sides from the k-th on. -/
def sid (l : List Int) : List Int := (List.range 4).map fun (k : Nat) => rd l (2 * k) + rd l (2 * k + 1) + rd l ((2 * (k : Int) + 2).tmod 8)
theorem sid_len (l : List Int) : (sid l).length = 4 := by simp [sid]
theorem sid_take (l : List Int) (i : Nat) (h : i < 4) : (sid l).take (i + 1) = (sid l).take i ++ [rd l (2 * i) + rd l (2 * i + 1) + rd l ((2 * (i : Int) + 2).tmod 8)] := by
  have hl : i < (sid l).length := by rw [sid_len]; exact h
  rw [List.take_succ_eq_append_getElem hl]
  simp [sid]
theorem specSides_l0 (l : List Int) (hl : l.length = 8) (hw : ∀ x ∈ l, 0 ≤ x ∧ x ≤ 9) : ∀ (d i : Nat), i + d = 4 → Ev (fun k => spec_wiSides.l0 k l ((sid l).take i) (2 * (i : Int))) (sid l) := by
  intro d
  induction d with
  | zero =>
    intro i hi
    refine Ev.succ ?_
    simp only [spec_wiSides.l0]
    refine Ev.neg (by omega) (Ev.ret ?_)
    rw [List.take_of_length_le (by rw [sid_len]; omega)]
  | succ d ih =>
    intro i hi
    refine Ev.succ ?_
    have hb : 0 ≤ (2 * (i : Int) + 2).tmod 8 ∧ (2 * (i : Int) + 2).tmod 8 < 8 := by rw [Int.tmod_eq_emod_of_nonneg (by omega)]; omega
    have b1 := hw _ (rd_mem (l := l) (i := 2 * (i : Int)) (by omega) (by omega))
    have b2 := hw _ (rd_mem (l := l) (i := 2 * (i : Int) + 1) (by omega) (by omega))
    have b3 := hw _ (rd_mem (l := l) (i := (2 * (i : Int) + 2).tmod 8) hb.1 (by omega))
    simp only [spec_wiSides.l0]
    rw [w64' (n := 2 * (i : Int) + 1) (m := 2 * (i : Int) + 1) (by omega) (by omega) (by omega), w64' (n := 2 * (i : Int) + 2) (m := 2 * (i : Int) + 2) (by omega) (by omega) (by omega), w64' (n := rd l (2 * (i : Int)) + rd l (2 * (i : Int) + 1)) rfl (by omega) (by omega), w64' (n := rd l (2 * (i : Int)) + rd l (2 * (i : Int) + 1) + rd l ((2 * (i : Int) + 2).tmod 8)) rfl (by omega) (by omega), ← sid_take l i (by omega)]
    refine Ev.pos (by omega) (Ev.pos (by omega) (Ev.pos (by omega) (Ev.pos (by omega) (Ev.pos (by omega) (Ev.pos hb.1 (Ev.pos (by omega) (Ev.pos ?_ ?_)))))))
    · rw [List.length_take, sid_len]; omega
    · have := ih (i + 1) (by omega)
      rw [show 2 * ((i + 1 : Nat) : Int) = 2 * (i : Int) + 2 by omega] at this
      exact this
theorem wiSides_ev (l : List Int) (hl : l.length = 8) (hw : ∀ x ∈ l, 0 ≤ x ∧ x ≤ 9) : Ev (fun k => spec_wiSides.f k l) (sid l) := by
  unfold spec_wiSides.f
  exact specSides_l0 l hl hw 4 0 (by omega)
theorem implSides_l0 (l : List Int) (hl : l.length = 8) (hw : ∀ x ∈ l, 0 ≤ x ∧ x ≤ 9) : ∀ (d i : Nat), i + d = 4 → Ev (fun k => impl_sides.l0 k l ((sid l).take i) (2 * (i : Int))) (sid l) := by
  intro d
  induction d with
  | zero =>
    intro i hi
    refine Ev.succ ?_
    simp only [impl_sides.l0]
    refine Ev.neg (by omega) (Ev.ret ?_)
    rw [List.take_of_length_le (by rw [sid_len]; omega)]
  | succ d ih =>
    intro i hi
    refine Ev.succ ?_
    have hb : 0 ≤ (2 * (i : Int) + 2).tmod 8 ∧ (2 * (i : Int) + 2).tmod 8 < 8 := by rw [Int.tmod_eq_emod_of_nonneg (by omega)]; omega
    have b1 := hw _ (rd_mem (l := l) (i := 2 * (i : Int)) (by omega) (by omega))
    have b2 := hw _ (rd_mem (l := l) (i := 2 * (i : Int) + 1) (by omega) (by omega))
    have b3 := hw _ (rd_mem (l := l) (i := (2 * (i : Int) + 2).tmod 8) hb.1 (by omega))
    simp only [impl_sides.l0]
    rw [w64' (n := 2 * (i : Int) + 1) (m := 2 * (i : Int) + 1) (by omega) (by omega) (by omega), w64' (n := 2 * (i : Int) + 2) (m := 2 * (i : Int) + 2) (by omega) (by omega) (by omega), w64' (n := rd l (2 * (i : Int)) + rd l (2 * (i : Int) + 1)) rfl (by omega) (by omega), w64' (n := rd l (2 * (i : Int)) + rd l (2 * (i : Int) + 1) + rd l ((2 * (i : Int) + 2).tmod 8)) rfl (by omega) (by omega), ← sid_take l i (by omega)]
    refine Ev.pos (by omega) (Ev.pos (by omega) (Ev.pos (by omega) (Ev.pos (by omega) (Ev.pos (by omega) (Ev.pos hb.1 (Ev.pos (by omega) (Ev.pos ?_ ?_)))))))
    · rw [List.length_take, sid_len]; omega
    · have := ih (i + 1) (by omega)
      rw [show 2 * ((i + 1 : Nat) : Int) = 2 * (i : Int) + 2 by omega] at this
      exact this
theorem sides_ev (l : List Int) (hl : l.length = 8) (hw : ∀ x ∈ l, 0 ≤ x ∧ x ≤ 9) : Ev (fun k => impl_sides.f k l) (sid l) := by
  unfold impl_sides.f
  exact implSides_l0 l hl hw 4 0 (by omega)
end Go.Proofs.Ytbkaedmabdgdhaa.Pure
