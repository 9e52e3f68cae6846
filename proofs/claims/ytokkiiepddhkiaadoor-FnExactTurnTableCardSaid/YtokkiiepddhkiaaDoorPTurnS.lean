/- The reference's TurnTable; plain. -/
import Derived.Test.YtokkiiepddhkiaaDoorPTurnP
import Derived.Test.YtokkiiepddhkiaaDoorPDig
import Derived.Test.YtokkiiepddhkiaaDoorG2
namespace Go.Proofs.YtokkiiepddhkiaaDoor.Pure
open Go Go.RowKit Go.Proofs.YtokkiiepddhkiaaDoor.Hd Go.Proofs.YtokkiiepddhkiaaDoorW.PrintWords Go.Proofs.YtokkiiepddhkiaaDoorW.PrintLast
set_option linter.unusedVariables false
set_option linter.unusedSimpArgs false
theorem turn_l1 (w h : Nat) (C : List Int) (hw : w ≤ 30) (hh : h ≤ 30) (hC : C.length = h * w) (y : Nat) (hy : y < w) (res : ByteArray × Bool)
    (hK : Ev (fun k => spec_TurnTable.l0 k ((y + 1 : Nat) : Int) (w : Int) (h : Int) C (h : Int) (w : Int) (turnC w h C ((y + 1) * h))) res) : ∀ (d x : Nat), x + d = h →
    Ev (fun k => spec_TurnTable.l1 k (y : Int) (x : Int) (w : Int) (h : Int) C (h : Int) (w : Int) (turnC w h C (y * h + x))) res := by
  intro d
  induction d with
  | zero =>
    intro x hx
    obtain rfl : x = h := by omega
    refine Ev.succ ?_
    simp only [spec_TurnTable.l1]
    rw [w64' (n := (y : Int) + 1) (m := ((y + 1 : Nat) : Int)) (by omega) (by omega) (by omega), ← Nat.succ_mul]
    exact Ev.neg (by omega) hK
  | succ d ih =>
    intro x hx
    have hq := ih (x + 1) (by omega)
    have hlt := turn_lt (w := w) (h := h) (y := y) (x := x) (by omega) hy
    have m1 : (h - 1 - x) * w ≤ 900 := Nat.le_trans (Nat.mul_le_mul (show h - 1 - x ≤ 30 by omega) hw) (by decide)
    have m2 : y * h + x ≤ 1000 := by
      have := Nat.mul_le_mul (show y ≤ 30 by omega) hh
      omega
    have hl := turnC_len w h C (y * h + x)
    refine Ev.succ ?_
    simp only [spec_TurnTable.l1]
    rw [w64' (n := (h : Int) - 1) (m := ((h - 1 : Nat) : Int)) (by omega) (by omega) (by omega), w64' (n := ((h - 1 : Nat) : Int) - (x : Int)) (m := ((h - 1 - x : Nat) : Int)) (by omega) (by omega) (by omega), mul_w (a := h - 1 - x) (b := w) (by omega),
      w64' (n := (((h - 1 - x) * w : Nat) : Int) + (y : Int)) (m := (((h - 1 - x) * w + y : Nat) : Int)) (by omega) (by omega) (by omega), w64' (n := (x : Int) + 1) (m := ((x + 1 : Nat) : Int)) (by omega) (by omega) (by omega)]
    refine Ev.pos (by omega) (Ev.pos (by omega) (Ev.pos (by omega) (Ev.pos (by omega) ?_)))
    have e : turnC w h C (y * h + x) ++ [rd C (((h - 1 - x) * w + y : Nat) : Int)] = turnC w h C (y * h + (x + 1)) := by
      rw [← Nat.add_assoc, turnC_succ, turnI_at (by omega)]
    rw [e]
    exact hq
theorem turn_l0 (w h : Nat) (C : List Int) (hw : w ≤ 30) (hh : h ≤ 30) (hC : C.length = h * w) (t : ByteArray) (hD : Ev (fun k => spec_taDigits.f k (h : Int) (w : Int) (turnC w h C (w * h))) t) : ∀ (d y : Nat), y + d = w →
    Ev (fun k => spec_TurnTable.l0 k (y : Int) (w : Int) (h : Int) C (h : Int) (w : Int) (turnC w h C (y * h))) (t, true) := by
  intro d
  induction d with
  | zero =>
    intro y hy
    obtain rfl : y = w := by omega
    refine Ev.succ ?_
    simp only [spec_TurnTable.l0]
    exact Ev.neg (by omega) (Ev.bd hD (Ev.ret rfl))
  | succ d ih =>
    intro y hy
    have hq := turn_l1 w h C hw hh hC y (by omega) (t, true) (ih (y + 1) (by omega)) h 0 (by omega)
    refine Ev.succ ?_
    simp only [spec_TurnTable.l0]
    exact Ev.pos (by omega) hq
theorem specTurnTable_ev (s : ByteArray) (hs : s.size ≤ 1048576) : Ev (fun k => spec_TurnTable.f k s) (turnF s) := by
  unfold spec_TurnTable.f turnF
  refine Ev.bd (taRead_ev s hs) ?_
  cases ht : isTab s with
  | false =>
    rw [isTab_no ht, if_neg (by simp)]
    exact Ev.neg (by simp) (Ev.ret rfl)
  | true =>
    rw [isTab_tab ht, if_pos rfl]
    obtain ⟨c1, c2, c3, _⟩ := cells_n ht
    have hw := w0_le s
    have hw2 : w0 (rowsB s) ≤ w0 (rowsB s) * (rowsB s).length := Nat.le_mul_of_pos_right _ hw.2.2
    have hR2 : (rowsB s).length ≤ w0 (rowsB s) * (rowsB s).length := Nat.le_mul_of_pos_left _ c3
    have hlen := turnC_len (w0 (rowsB s)) (rowsB s).length (cells s) (w0 (rowsB s) * (rowsB s).length)
    have hD := taDigits_ev (rowsB s).length (w0 (rowsB s)) (turnC (w0 (rowsB s)) (rowsB s).length (cells s) (w0 (rowsB s) * (rowsB s).length)) hw.2.2 (fun k hk => by
      rw [hlen] at hk
      rw [rd_turnC _ _ _ _ _ hk]
      have hI : turnI (w0 (rowsB s)) (rowsB s).length k < (rowsB s).length * w0 (rowsB s) := by
        unfold turnI
        refine turn_lt (Nat.mod_lt _ hw.2.2) ?_
        exact Nat.div_lt_of_lt_mul (by rw [Nat.mul_comm]; exact hk)
      exact cells_bd ht _ (by rw [c1, Nat.mul_comm]; exact hI)) (by rw [hlen]; omega) hlen
    rw [← grid_turn ht] at hD
    refine Ev.pos rfl ?_
    have hk := turn_l0 (w0 (rowsB s)) (rowsB s).length (cells s) (by omega) (by omega) (by rw [c1, Nat.mul_comm]) _ hD (w0 (rowsB s)) 0 (by omega)
    rw [Nat.zero_mul] at hk
    exact hk
end Go.Proofs.YtokkiiepddhkiaaDoor.Pure
