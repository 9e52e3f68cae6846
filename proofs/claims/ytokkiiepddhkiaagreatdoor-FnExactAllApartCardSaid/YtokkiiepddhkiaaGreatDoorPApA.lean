/- Tables taken apart into hands: what both sides ask first; plain words. -/
import Derived.Test.YtokkiiepddhkiaaGreatDoorPForm
import Derived.Test.YtokkiiepddhkiaaGreatDoorPLayM
import Derived.Test.YtokkiiepddhkiaaGreatDoorG2
import Derived.Test.YtokkiiepddhkiaaGreatDoorMHand
import Derived.Test.YtokkiiepddhkiaaGreatDoorPTile0
import Derived.Test.YtokkiiepddhkiaaGreatDoorG1
namespace Go.Proofs.YtokkiiepddhkiaaGreatDoor.Pure
open Go.RowKit Go.Proofs.YtokkiiepddhkiaaGreatDoor.Hd Go.Proofs.YtokkiiepddhkiaaGreatDoorW.PrintWords Go.Proofs.YtokkiiepddhkiaaGreatDoorW.PrintLast
set_option linter.unusedVariables false
set_option linter.unusedSimpArgs false
theorem areDif_l0 (l : List S_Tile) (hl : l.length ≤ 8388608) : ∀ (d i : Nat), i + d = l.length → (l.take i).Nodup →
    Ev (fun k => impl_areDifferent_impl_Tile.l0 k l l (l.length : Int) (i : Int)) (difT l) := by
  intro d
  induction d with
  | zero =>
    intro i hi hn
    refine Ev.succ ?_
    simp only [impl_areDifferent_impl_Tile.l0]
    rw [List.take_of_length_le (by omega)] at hn
    exact Ev.neg (by omega) (Ev.ret (by unfold difT; rw [decide_eq_true hn]))
  | succ d ih =>
    intro i hi hn
    refine Ev.succ ?_
    have hlt : i < l.length := by omega
    simp only [impl_areDifferent_impl_Tile.l0]
    refine Ev.pos (by omega) (Ev.pos (by omega) (Ev.pos (by omega) (Ev.pos (by omega) ?_)))
    rw [w64' (n := (i : Int) + 1) (m := ((i + 1 : Nat) : Int)) (by omega) (by omega) (by omega), rdT_at hlt, Int.toNat_natCast]
    refine Ev.bd (contains_ev (l.take i) (by rw [List.length_take]; omega) l[i]) ?_
    by_cases e : l[i] ∈ l.take i
    · refine Ev.pos (decide_eq_true e) (Ev.ret ?_)
      unfold difT; rw [decide_eq_false (nodup_not hlt e)]
    · refine Ev.neg (by simp [e]) (ih (i + 1) (by omega) ((nodup_take hlt).2 ⟨hn, e⟩))
theorem areDif_ev (l : List S_Tile) (hl : l.length ≤ 8388608) : Ev (fun k => impl_areDifferent_impl_Tile.f k l) (difT l) := by
  unfold impl_areDifferent_impl_Tile.f
  exact areDif_l0 l hl l.length 0 (by omega) (by simp)
/-- A tile. -/
theorem tiHand_l0 (l : List S_Tile) (hl : l.length ≤ 55) : ∀ (d i : Nat), i + d = l.length → (l.take i).Nodup → (l.take i).all goodT = true →
    Ev (fun k => spec_tiHand.l0 k l l (l.length : Int) (i : Int)) (l.all goodT && difT l) := by
  intro d
  induction d with
  | zero =>
    intro i hi hn hg
    refine Ev.succ ?_
    simp only [spec_tiHand.l0]
    rw [List.take_of_length_le (by omega)] at hn hg
    exact Ev.neg (by omega) (Ev.ret (by rw [hg]; unfold difT; rw [decide_eq_true hn]; rfl))
  | succ d ih =>
    intro i hi hn hg
    refine Ev.succ ?_
    have hlt : i < l.length := by omega
    simp only [spec_tiHand.l0]
    refine Ev.pos (by omega) (Ev.pos (by omega) (Ev.pos (by omega) ?_))
    rw [w64' (n := (i : Int) + 1) (m := ((i + 1 : Nat) : Int)) (by omega) (by omega) (by omega), rdT_at hlt, Int.toNat_natCast]
    refine Ev.bs (tiGood_eq _) ?_
    by_cases g : goodT l[i] = true
    · refine Ev.pos g (Ev.pos (by omega) (Ev.bd (tiPlace_ev (l.take i) (by rw [List.length_take]; omega) l[i]) ?_))
      by_cases e : l[i] ∈ l.take i
      · refine Ev.pos ((idxT_ge _ _).2 e) (Ev.ret ?_)
        unfold difT; rw [decide_eq_false (nodup_not hlt e), Bool.and_false]
      · refine Ev.neg (fun h => e ((idxT_ge _ _).1 h)) (ih (i + 1) (by omega) ((nodup_take hlt).2 ⟨hn, e⟩) ?_)
        rw [List.take_succ_eq_append_getElem hlt, List.all_append, hg]
        simp [g]
    · refine Ev.neg g (Ev.ret ?_)
      rw [List.all_eq_false.2 ⟨l[i], List.getElem_mem hlt, g⟩]; rfl
theorem tiHand_ev (l : List S_Tile) : Ev (fun k => spec_tiHand.f k l) (handB l) := by
  unfold spec_tiHand.f handB
  by_cases h : l.length ≤ 55
  · rw [decide_eq_true h, Bool.true_and]
    exact Ev.neg (by omega) (tiHand_l0 l h l.length 0 (by omega) (by simp) (by simp))
  · rw [decide_eq_false h, Bool.false_and]
    exact Ev.pos (by omega) (Ev.ret rfl)
end Go.Proofs.YtokkiiepddhkiaaGreatDoor.Pure
namespace Go.Proofs.YtokkiiepddhkiaaGreatDoor.Pure
open Go.RowKit Go.Proofs.YtokkiiepddhkiaaGreatDoor.Hd Go.Proofs.YtokkiiepddhkiaaGreatDoorW.PrintWords Go.Proofs.YtokkiiepddhkiaaGreatDoorW.PrintLast
set_option linter.unusedVariables false
set_option linter.unusedSimpArgs false
theorem isHand_ev (l : List S_Tile) : Ev (fun k => impl_IsHand.f k l) (handB l) := by
  unfold impl_IsHand.f handB
  by_cases h : l.length ≤ 55
  · rw [decide_eq_true h, Bool.true_and]
    refine Ev.pos (by omega) ?_
    by_cases g : l.all tileB = true
    · have g2 : l.all goodT = true := g
      rw [g2, Bool.true_and]
      exact Ev.pos g (areDif_ev l (by omega))
    · have g2 : l.all goodT = false := Bool.eq_false_iff.2 g
      rw [g2, Bool.false_and]
      exact Ev.neg g (Ev.ret rfl)
  · rw [decide_eq_false h, Bool.false_and]
    exact Ev.neg (by omega) (Ev.ret rfl)
end Go.Proofs.YtokkiiepddhkiaaGreatDoor.Pure
namespace Go.Proofs.YtokkiiepddhkiaaGreatDoor.Pure
open Go.RowKit Go.Proofs.YtokkiiepddhkiaaGreatDoor.Hd Go.Proofs.YtokkiiepddhkiaaGreatDoorW.PrintWords Go.Proofs.YtokkiiepddhkiaaGreatDoorW.PrintLast
set_option linter.unusedVariables false
set_option linter.unusedSimpArgs false
theorem isApart_ev (s : ByteArray) (l : List S_Tile) (hs : s.size ≤ 1048576) : Ev (fun k => impl_isApart.f k s l) (isTab s && handB l) := by
  unfold impl_isApart.f
  refine Ev.bd (implIsTable_ev s hs) ?_
  cases h : isTab s with
  | true => exact Ev.pos rfl (Ev.bd (isHand_ev l) (Ev.ret (by simp)))
  | false => exact Ev.neg (by simp) (Ev.ret (by simp))
/-- What the reference asks first. -/
def askF (s : ByteArray) (l : List S_Tile) : Int × Int × List Int × Bool := if isTab s = true then ((w0 (rowsB s) : Int), ((rowsB s).length : Int), cells s, handB l) else (0, 0, [], false)
theorem taAsked_ev (s : ByteArray) (l : List S_Tile) (hs : s.size ≤ 1048576) : Ev (fun k => spec_taAsked.f k s l) (askF s l) := by
  unfold spec_taAsked.f askF
  refine Ev.bd (taRead_ev s hs) ?_
  cases h : isTab s with
  | true =>
    rw [isTab_tab h]
    exact Ev.pos rfl (Ev.bd (tiHand_ev l) (Ev.ret rfl))
  | false =>
    rw [isTab_no h]
    exact Ev.neg (by simp) (Ev.ret rfl)
theorem hand_ok {l : List S_Tile} (h : handB l = true) : l.Nodup ∧ (∀ t ∈ l, goodT t = true) ∧ l.length ≤ 55 := by
  unfold handB at h
  simp only [Bool.and_eq_true, decide_eq_true_eq, difT, List.all_eq_true] at h
  exact ⟨h.2.2, h.2.1, h.1⟩
theorem tab_dim {s : ByteArray} (h : isTab s = true) : (w0 (rowsB s) : Int) * ((rowsB s).length : Int) = ((cells s).length : Int) ∧ (rowsB s).length * w0 (rowsB s) = (cells s).length ∧ (cells s).length ≤ 30 ∧ 1 ≤ w0 (rowsB s) ∧ w0 (rowsB s) ≤ 30 ∧ 1 ≤ (rowsB s).length ∧ (rowsB s).length ≤ 30 ∧ s.size ≤ 60 := by
  obtain ⟨h1, h2, h3, _⟩ := cells_n h
  have h4 := w0_le s
  have h5 := form_size h
  have e : (rowsB s).length * w0 (rowsB s) = (cells s).length := by rw [h1, Nat.mul_comm]
  have h6 : w0 (rowsB s) ≤ w0 (rowsB s) * (rowsB s).length := Nat.le_mul_of_pos_right _ h4.2.2
  have h7 : (rowsB s).length ≤ w0 (rowsB s) * (rowsB s).length := Nat.le_mul_of_pos_left _ h3
  exact ⟨by rw [← Int.natCast_mul, h1], e, by omega, by omega, by omega, by omega, by omega, h5.1⟩
/-- The marks of a hand's tiles. -/
def mkM (l : List S_Tile) : S_Tile → Bool := fun t => decide (t ∈ l)
theorem mkM_nil : mkM [] = fun _ => false := by funext t; simp [mkM]
theorem mkM_snoc (l : List S_Tile) (t : S_Tile) : upd (mkM l) t true = mkM (l ++ [t]) := by
  funext x
  unfold upd mkM
  by_cases e : x = t
  · rw [if_pos e]; simp [e]
  · rw [if_neg e]; simp [e]
theorem mkM_take {l : List S_Tile} {i : Nat} (h : i < l.length) : upd (mkM (l.take i)) (rd_Tile l (i : Int)) true = mkM (l.take (i + 1)) := by
  have e : rd_Tile l (i : Int) = l[i] := by unfold rd_Tile; rw [Int.toNat_natCast]; simp [h]
  rw [mkM_snoc, List.take_succ_eq_append_getElem h, e]
def tilT (s : ByteArray) (i j : Nat) : S_Tile := tileAt s (i : Int) (j : Int)
theorem tilT_good {s : ByteArray} (h : isTab s = true) {i j : Nat} (hi : i < (cells s).length) (hj : j < (cells s).length) : (0 ≤ (tilT s i j).f0 ∧ (tilT s i j).f0 ≤ 9) ∧ 0 ≤ (tilT s i j).f1 ∧ (tilT s i j).f1 ≤ 9 := by
  have h1 := (cell_at h i hi).2
  have h2 := (cell_at h j hj).2
  unfold tilT tileAt tileN mn mx
  constructor <;> (constructor <;> (simp only; split <;> omega))
theorem formT_size (w R : Nat) (b : List Int) : (formT w R b).size ≤ R * w + R := by
  unfold formT joinB
  have h1 := join_len ((formL w R b).map (·.data.toList))
  have h2 := sumL_form w b R
  rw [List.length_map, formL_len] at h1
  rw [size_len]
  simp only [List.toList_toArray]
  omega
/-- A search for the layouts that take a table apart into a hand, with a caller's step ea on their texts. -/
def seaA {α : Type} (s : ByteArray) (ea : α → ByteArray → Bool × α) : Sea ((S_Tile → Bool) × α) := markS (tilT s) true (fun _ a b => ea a (formT (w0 (rowsB s)) (rowsB s).length b))
def apR {α : Type} (s : ByteArray) (hand : List S_Tile) (ea : α → ByteArray → Bool × α) (a : α) : α :=
  if 2 * (hand.length : Int) = ((cells s).length : Int) then (layG (seaA s ea) (w0 (rowsB s) : Int) (cells s).length 31 (List.replicate (cells s).length 0) 0 (mkM hand, a)).2.2 else a
end Go.Proofs.YtokkiiepddhkiaaGreatDoor.Pure
