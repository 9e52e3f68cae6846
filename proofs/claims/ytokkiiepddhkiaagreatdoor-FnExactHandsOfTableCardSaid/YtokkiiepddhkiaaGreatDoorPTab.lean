/- Tables: the reference's reading of a text, and the program's check of its form; plain. -/
import Derived.Test.YtokkiiepddhkiaaGreatDoorPSplitP
import Derived.Test.YtokkiiepddhkiaaGreatDoorPEv
import Derived.Test.YtokkiiepddhkiaaGreatDoorG2
import Derived.Test.YtokkiiepddhkiaaGreatDoorG2
import Derived.Test.YtokkiiepddhkiaaGreatDoorG2
namespace Go.Proofs.YtokkiiepddhkiaaGreatDoor.Pure
open Go Go.RowKit Go.Proofs.YtokkiiepddhkiaaGreatDoor.Hd Go.Proofs.YtokkiiepddhkiaaGreatDoorW.PrintWords Go.Proofs.YtokkiiepddhkiaaGreatDoorW.PrintLast
set_option linter.unusedVariables false
set_option linter.unusedSimpArgs false
def mkB (r : List UInt8) : ByteArray := ⟨r.toArray⟩
theorem mkB_toList (s : ByteArray) : mkB s.data.toList = s := by
  cases s; simp [mkB]
theorem toList_mkB (r : List UInt8) : (mkB r).data.toList = r := by simp [mkB]
theorem mkB_size (r : List UInt8) : (mkB r).size = r.length := by simp [mkB, ByteArray.size]
theorem size_len (s : ByteArray) : s.size = s.data.toList.length := by rw [Array.length_toList]; rfl
/-- The rows of a text. -/
def rowsB (s : ByteArray) : List ByteArray := (rowsOf s.data.toList).map mkB
theorem split_B (s : ByteArray) : Lib.splitB ⟨#[47]⟩ 0 (Lib.countB s ⟨#[47]⟩) s = rowsB s := by
  have h := split_rows s ⟨#[47]⟩ rfl
  unfold rowsB
  rw [← h, List.map_map]
  have : (mkB ∘ fun x : ByteArray => x.data.toList) = id := by funext x; exact mkB_toList x
  rw [this, List.map_id]
theorem split_f (s : ByteArray) (h : s.size ≤ 1048576) : strings_Split.f s ⟨#[47]⟩ = some (rowsB s) := by
  unfold strings_Split.f
  rw [if_pos ⟨by omega, by decide⟩, split_B]
theorem bt_at (s : ByteArray) (i : Nat) (h : i < s.data.toList.length) : bt s (i : Int) = (s.data.toList[i].toNat : Int) := by
  have h2 : i < s.size := by rw [size_len]; exact h
  unfold bt
  rw [dif_pos (by simpa using h2)]
  simp only [Int.toNat_natCast, Array.getElem_toList]
  rfl
theorem ext_B (s : ByteArray) (a b : Nat) : s.extract a b = mkB ((s.data.toList.take b).drop a) := by
  rw [← mkB_toList (s.extract a b)]
  congr 1
  rw [ByteArray.data_extract, Array.toList_extract, List.drop_take]
theorem u8_47 (b : UInt8) : ((b.toNat : Int) = 47) ↔ b = 47 := by
  constructor
  · intro h
    have : b.toNat = 47 := by omega
    exact UInt8.toNat_inj.1 this
  · rintro rfl; rfl
theorem l1Split_l0 (s : ByteArray) (hs : s.size ≤ 1048576) : ∀ (d i a : Nat) (acc : List ByteArray), i + d = s.size → a ≤ i → 47 ∉ (s.data.toList.take i).drop a → acc.length + d ≤ 4194304 →
    Ev (fun k => spec_l1Split.l0 k s 47 acc (a : Int) (i : Int)) (acc ++ (rowsOf (s.data.toList.drop a)).map mkB) := by
  intro d
  induction d with
  | zero =>
    intro i a acc h1 h2 h3 h4
    refine Ev.succ ?_
    simp only [spec_l1Split.l0]
    refine Ev.neg (by omega) (Ev.pos (by omega) (Ev.pos (by omega) (Ev.pos (by omega) (Ev.ret ?_))))
    have e : s.data.toList.take i = s.data.toList := List.take_of_length_le (by rw [← size_len]; omega)
    rw [e] at h3
    rw [rowsOf_end _ h3, Int.toNat_natCast, ext_B, List.take_of_length_le (by rw [← size_len]; exact Nat.le_refl _)]
    rfl
  | succ d ih =>
    intro i a acc h1 h2 h3 h4
    have hi : i < s.data.toList.length := by rw [← size_len]; omega
    refine Ev.succ ?_
    simp only [spec_l1Split.l0]
    rw [w64' (n := (i : Int) + 1) (m := ((i + 1 : Nat) : Int)) (by omega) (by omega) (by omega), bt_at s i hi]
    refine Ev.pos (by omega) (Ev.pos (by omega) ?_)
    by_cases hb : s.data.toList[i] = 47
    · refine Ev.pos ((u8_47 _).2 hb) (Ev.pos (by omega) (Ev.pos (by omega) (Ev.pos (by omega) (Ev.pos (by omega) ?_))))
      have hh := ih (i + 1) (i + 1) (acc ++ [s.extract a i]) (by omega) (Nat.le_refl _) (by rw [List.drop_of_length_le (by rw [List.length_take]; omega)]; simp) (by simp; omega)
      rw [rows_cut _ a i h2 hi hb h3, List.map_cons, ← ext_B]
      rw [List.append_assoc] at hh
      exact hh
    · refine Ev.neg (fun q => hb ((u8_47 _).1 q)) ?_
      exact ih (i + 1) a acc (by omega) (by omega) (no47_step _ a i h2 hi hb h3) (by omega)
theorem l1Split_ev (s : ByteArray) (hs : s.size ≤ 1048576) : Ev (fun k => spec_l1Split.f k s 47) (rowsB s) := by
  have h := l1Split_l0 s hs s.size 0 0 [] (by omega) (Nat.le_refl _) (by simp) (by simp; omega)
  simpa [spec_l1Split.f, rowsB] using h
/-- The length of the first row. -/
def w0 (R : List ByteArray) : Nat := (rdOf ByteArray.empty R 0).size
theorem w0_le (s : ByteArray) : w0 (rowsB s) ≤ s.size ∧ (rowsB s).length ≤ s.size + 1 ∧ 0 < (rowsB s).length := by
  have h := rowsOf_len s.data.toList
  have hn := rowsOf_ne s.data.toList
  have hz := size_len s
  unfold w0 rowsB
  cases hd : rowsOf s.data.toList with
  | nil => exact absurd hd hn
  | cons r t =>
    rw [hd] at h
    simp only [sumL, List.length_cons] at h
    simp only [List.map_cons, List.length_cons, List.length_map, rdOf, Int.toNat_zero, List.getD_cons_zero, mkB_size]
    refine ⟨?_, ?_, ?_⟩ <;> omega
def rowOk (w : Nat) (r : ByteArray) : Bool := r.size != 0 && r.size == w
def fits (R : List ByteArray) : Bool := decide ((R.length * w0 R) % 2 = 0) && decide (R.length * w0 R ≤ 30)
def taRowsR (R T : List ByteArray) : List ByteArray × Bool := if T.all (rowOk (w0 R)) = true then (R, fits R) else ([], false)
theorem rdOf_at (R : List ByteArray) (i : Nat) (h : i < R.length) : rdOf ByteArray.empty R (i : Int) = R[i] := by simp [rdOf, List.getD_eq_getElem?_getD, h]
theorem mul_w {a b : Nat} (h : a * b ≤ 4503599627370496) : wrap64 ((a : Int) * (b : Int)) = ((a * b : Nat) : Int) := by
  have e : (a : Int) * (b : Int) = ((a * b : Nat) : Int) := by rw [Int.natCast_mul]
  rw [e]
  exact w64' rfl (by omega) (by omega)
theorem taRows_l0 (R : List ByteArray) (h0 : 0 < R.length) (hl : R.length ≤ 1048577) (hb : R.length * w0 R ≤ 4503599627370496) : ∀ (d i : Nat), i + d = R.length → Ev (fun k => spec_taRows.l0 k R R (R.length : Int) (i : Int)) (taRowsR R (R.drop i)) := by
  intro d
  induction d with
  | zero =>
    intro i h1
    refine Ev.succ ?_
    simp only [spec_taRows.l0]
    refine Ev.neg (by omega) (Ev.pos (by omega) ?_)
    have e : taRowsR R (R.drop i) = (R, fits R) := by
      unfold taRowsR
      rw [List.drop_of_length_le (by omega)]
      simp
    have ew : wrap64 ((R.length : Int) * ((rdOf ByteArray.empty R 0).size : Int)) = ((R.length * w0 R : Nat) : Int) := mul_w hb
    rw [e, ew, Int.tmod_eq_emod_of_nonneg (by omega)]
    unfold fits
    by_cases h2 : (R.length * w0 R) % 2 = 0
    · refine Ev.pos (by omega) (Ev.ret ?_)
      rw [decide_eq_true h2, Bool.true_and]
      congr 1
      exact decide_eq_decide.2 (by omega)
    · refine Ev.neg (by omega) (Ev.ret ?_)
      rw [decide_eq_false h2]; rfl
  | succ d ih =>
    intro i h1
    refine Ev.succ ?_
    simp only [spec_taRows.l0]
    rw [w64' (n := (i : Int) + 1) (m := ((i + 1 : Nat) : Int)) (by omega) (by omega) (by omega), rdOf_at R i (by omega)]
    refine Ev.pos (by omega) (Ev.pos (by omega) (Ev.pos (by omega) ?_))
    have hh := ih (i + 1) (by omega)
    have e : R.drop i = R[i] :: R.drop (i + 1) := List.drop_eq_getElem_cons (by omega)
    rw [e]
    unfold taRowsR at hh ⊢
    rw [List.all_cons]
    by_cases h2 : R[i].size = 0
    · refine Ev.pos (by omega) (Ev.ret ?_)
      have : rowOk (w0 R) R[i] = false := by unfold rowOk; rw [h2]; rfl
      rw [this]; rfl
    · refine Ev.neg (by omega) (Ev.pos (by omega) ?_)
      by_cases h3 : R[i].size = w0 R
      · refine Ev.pos (show ((R[i].size : Nat) : Int) = ((w0 R : Nat) : Int) by omega) ?_
        have : rowOk (w0 R) R[i] = true := by unfold rowOk; rw [h3]; simp; omega
        rw [this, Bool.true_and]
        exact hh
      · refine Ev.neg (show ¬ ((R[i].size : Nat) : Int) = ((w0 R : Nat) : Int) by omega) (Ev.ret ?_)
        have : rowOk (w0 R) R[i] = false := by unfold rowOk; simp [h3]
        rw [this]; rfl
def taRowsF (s : ByteArray) : List ByteArray × Bool := if s.size > 60 then ([], false) else taRowsR (rowsB s) (rowsB s)
theorem taRows_ev (s : ByteArray) (hs : s.size ≤ 1048576) : Ev (fun k => spec_taRows.f k s) (taRowsF s) := by
  unfold spec_taRows.f taRowsF
  obtain ⟨h1, h2, h3⟩ := w0_le s
  by_cases h : s.size > 60
  · rw [if_pos h]
    exact Ev.pos (by omega) (Ev.now _)
  · rw [if_neg h]
    refine Ev.neg (by omega) (Ev.bd (l1Split_ev s hs) ?_)
    have hm : (rowsB s).length * w0 (rowsB s) ≤ 61 * 60 := Nat.mul_le_mul (by omega) (by omega)
    exact taRows_l0 (rowsB s) h3 (by omega) (by omega) (rowsB s).length 0 (by omega)
end Go.Proofs.YtokkiiepddhkiaaGreatDoor.Pure
