/- Tables: the reference's reading of a text, and the program's check of its form; plain. -/
import Derived.Test.YtokkiiepddhkiaaGreatDoorPEv
import Derived.Test.YtokkiiepddhkiaaGreatDoorG2
import Derived.Lib.SplitLaws
import Derived.Lib.SlTrimSet
namespace Go.Proofs.YtokkiiepddhkiaaGreatDoor.Pure
open Go
set_option linter.unusedVariables false
set_option linter.unusedSimpArgs false
/-- The pieces of a text between strokes (the byte 47). -/
def rowsOf : List UInt8 → List (List UInt8)
  | [] => [[]]
  | b :: t => if b = 47 then [] :: rowsOf t else match rowsOf t with
    | [] => [[b]]
    | r :: rs => (b :: r) :: rs
theorem rowsOf_ne (l : List UInt8) : rowsOf l ≠ [] := by
  cases l with
  | nil => simp [rowsOf]
  | cons b t =>
    unfold rowsOf
    split
    · simp
    · split <;> simp
theorem index47 (b : UInt8) (t : List UInt8) : Lib.index (b :: t) [47] = if b = 47 then 0 else if Lib.index t [47] == -1 then -1 else Lib.index t [47] + 1 := by
  unfold Lib.index
  by_cases h : b = 47
  · subst h; rfl
  · rw [if_neg h]
    have : List.isPrefixOf [47] (b :: t) = false := by
      simp [List.isPrefixOf]
      exact fun q => h q.symm
    rw [this]
    simp only [Bool.false_eq_true, if_false]
    cases t <;> rfl
theorem index47_count : ∀ (l : List UInt8), Lib.index l [47] ≠ -1 → 1 ≤ l.count 47 := by
  intro l
  induction l with
  | nil => intro h; exact absurd rfl h
  | cons b t ih =>
    intro h
    rw [List.count_cons]
    by_cases hb : b = 47
    · subst hb; simp
    · rw [index47, if_neg hb] at h
      split at h
      · exact absurd rfl h
      · rename_i q
        have := ih (fun e => q (by rw [e]; rfl))
        omega
theorem splitK_rows : ∀ (l : List UInt8) (k : Nat), l.count 47 ≤ k → Lib.splitK [47] 0 k l = rowsOf l := by
  intro l
  induction l with
  | nil =>
    intro k _
    cases k <;> rfl
  | cons b t ih =>
    intro k hk
    rw [List.count_cons] at hk
    unfold rowsOf
    by_cases hb : b = 47
    · subst hb
      rw [if_pos rfl]
      simp at hk
      obtain ⟨k', rfl⟩ : ∃ k', k = k' + 1 := ⟨k - 1, by omega⟩
      unfold Lib.splitK
      rw [index47, if_pos rfl]
      simp only [show ((0 : Int) == -1) = false from rfl, Bool.false_eq_true, if_false]
      rw [← ih k' (by omega)]
      rfl
    · rw [if_neg hb]
      have hk2 : t.count 47 ≤ k := by omega
      rw [← ih k hk2]
      by_cases hi : Lib.index t [47] = -1
      · have e1 : Lib.index (b :: t) [47] = -1 := by rw [index47, if_neg hb, if_pos (by rw [hi]; rfl)]
        cases k with
        | zero => rfl
        | succ k =>
          unfold Lib.splitK
          rw [e1, hi]
          rfl
      · have hc := index47_count t hi
        obtain ⟨k', rfl⟩ : ∃ k', k = k' + 1 := ⟨k - 1, by omega⟩
        have hg := Lib.index_ge t [47]
        obtain ⟨i, hii⟩ : ∃ i : Nat, Lib.index t [47] = i := ⟨(Lib.index t [47]).toNat, by omega⟩
        have e1 : Lib.index (b :: t) [47] = ((i + 1 : Nat) : Int) := by
          rw [index47, if_neg hb, if_neg (by rw [beq_iff_eq]; exact hi), hii]; rfl
        unfold Lib.splitK
        rw [e1, hii]
        have n1 : ((((i + 1 : Nat) : Int)) == -1) = false := beq_eq_false_iff_ne.2 (by omega)
        have n2 : ((i : Int) == -1) = false := beq_eq_false_iff_ne.2 (by omega)
        rw [n1, n2]
        simp only [Bool.false_eq_true, if_false, Int.toNat_natCast]
        rfl
theorem split_rows (s : ByteArray) (sep : ByteArray) (h : sep.data.toList = [47]) : (Lib.splitB sep 0 (Lib.countB s sep) s).map (·.data.toList) = rowsOf s.data.toList := by
  rw [Lib.splitB_data, h]
  refine splitK_rows _ _ ?_
  have : Lib.countB s sep = Lib.count s.data.toList sep.data.toList := rfl
  rw [this, h, Lib.count_one]
  exact Nat.le_refl _
theorem dropWhile_all {α : Type} (p : α → Bool) : ∀ l : List α, l.dropWhile p = [] ↔ ∀ x ∈ l, p x = true := by
  intro l
  induction l with
  | nil => simp
  | cons a t ih =>
    by_cases h : p a = true
    · rw [List.dropWhile_cons_of_pos h, ih]; simp [h]
    · rw [List.dropWhile_cons_of_neg h]; simp [h]
theorem dropWhile_head {α : Type} (p : α → Bool) : ∀ (l : List α) (a : α) (t : List α), l.dropWhile p = a :: t → p a = false := by
  intro l
  induction l with
  | nil => intro a t h; cases h
  | cons b r ih =>
    intro a t h
    by_cases hb : p b = true
    · rw [List.dropWhile_cons_of_pos hb] at h; exact ih a t h
    · rw [List.dropWhile_cons_of_neg hb] at h
      injection h with h1 h2
      subst h1
      simpa using hb
theorem trim_nil (l cs : List UInt8) : Lib.trimS l cs = [] ↔ ∀ x ∈ l, cs.contains x = true := by
  unfold Lib.trimS Lib.trimLeftS Lib.trimRightS
  rw [dropWhile_all]
  constructor
  · intro h
    have hm : l.reverse.dropWhile (cs.contains ·) = [] := by
      cases hd : l.reverse.dropWhile (cs.contains ·) with
      | nil => rfl
      | cons a t =>
        have h1 := dropWhile_head _ _ _ _ hd
        have h2 := h a (by rw [hd]; simp)
        rw [h2] at h1; cases h1
    rw [dropWhile_all] at hm
    exact fun x hx => hm x (List.mem_reverse.2 hx)
  · intro h x hx
    have : l.reverse.dropWhile (cs.contains ·) = [] := (dropWhile_all _ _).2 fun y hy => h y (List.mem_reverse.1 hy)
    rw [this] at hx
    cases hx
theorem rowsOf_hit : ∀ (a r : List UInt8), 47 ∉ a → rowsOf (a ++ 47 :: r) = a :: rowsOf r := by
  intro a
  induction a with
  | nil => intro r _; rfl
  | cons b t ih =>
    intro r h
    have hb : b ≠ 47 := fun e => h (by rw [e]; simp)
    rw [List.cons_append]
    conv => lhs; unfold rowsOf
    rw [if_neg hb, ih r (fun q => h (List.mem_cons_of_mem _ q))]
theorem rowsOf_end : ∀ (a : List UInt8), 47 ∉ a → rowsOf a = [a] := by
  intro a
  induction a with
  | nil => intro _; rfl
  | cons b t ih =>
    intro h
    have hb : b ≠ 47 := fun e => h (by rw [e]; simp)
    conv => lhs; unfold rowsOf
    rw [if_neg hb, ih (fun q => h (List.mem_cons_of_mem _ q))]
theorem rows_cut (l : List UInt8) (a i : Nat) (ha : a ≤ i) (hi : i < l.length) (h47 : l[i] = 47) (hno : 47 ∉ (l.take i).drop a) : rowsOf (l.drop a) = (l.take i).drop a :: rowsOf (l.drop (i + 1)) := by
  have e : l.drop a = (l.take i).drop a ++ 47 :: l.drop (i + 1) := by
    have h1 : l = l.take i ++ l.drop i := (List.take_append_drop i l).symm
    have h2 : l.drop i = 47 :: l.drop (i + 1) := by rw [List.drop_eq_getElem_cons hi, h47]
    conv => lhs; rw [h1]
    rw [List.drop_append_of_le_length (by rw [List.length_take]; omega), h2]
  rw [e]
  exact rowsOf_hit _ _ hno
theorem no47_step (l : List UInt8) (a i : Nat) (ha : a ≤ i) (hi : i < l.length) (h47 : l[i] ≠ 47) (hno : 47 ∉ (l.take i).drop a) : 47 ∉ (l.take (i + 1)).drop a := by
  rw [List.take_succ_eq_append_getElem hi, List.drop_append_of_le_length (by rw [List.length_take]; omega), List.mem_append]
  rintro (h | h)
  · exact hno h
  · exact h47 (List.mem_singleton.1 h).symm
def sumL : List (List UInt8) → Nat
  | [] => 0
  | r :: t => r.length + sumL t
theorem rowsOf_len : ∀ l : List UInt8, l.length + 1 = sumL (rowsOf l) + (rowsOf l).length := by
  intro l
  induction l with
  | nil => rfl
  | cons b t ih =>
    unfold rowsOf
    by_cases hb : b = 47
    · rw [if_pos hb]
      simp only [sumL, List.length_cons, List.length_nil]
      omega
    · rw [if_neg hb]
      cases hd : rowsOf t with
      | nil => exact absurd hd (rowsOf_ne t)
      | cons r rs =>
        rw [hd] at ih
        simp only [sumL, List.length_cons] at ih ⊢
        omega
theorem sumL_same {w : Nat} : ∀ l : List (List UInt8), (∀ r ∈ l, r.length = w) → sumL l = l.length * w := by
  intro l
  induction l with
  | nil => intro _; simp [sumL]
  | cons a t ih =>
    intro h
    simp only [sumL, List.length_cons]
    rw [ih (fun r hr => h r (List.mem_cons_of_mem _ hr)), h a (by simp), Nat.add_mul]
    omega
end Go.Proofs.YtokkiiepddhkiaaGreatDoor.Pure
namespace Go.Proofs.YtokkiiepddhkiaaGreatDoor.Pure
open Go Go.RowKit Go.Proofs.YtokkiiepddhkiaaGreatDoor.Hd Go.Proofs.YtokkiiepddhkiaaGreatDoorW.PrintWords Go.Proofs.YtokkiiepddhkiaaGreatDoorW.PrintLast
set_option linter.unusedVariables false
set_option linter.unusedSimpArgs false
def mkB (r : List UInt8) : ByteArray := ⟨r.toArray⟩
theorem mkB_toList (s : ByteArray) : mkB s.data.toList = s := by
  cases s; simp [mkB]
theorem toList_mkB (r : List UInt8) : (mkB r).data.toList = r := by simp [mkB]
theorem mkB_size (r : List UInt8) : (mkB r).size = r.length := by simp [mkB, ByteArray.size]
theorem size_len (s : ByteArray) : s.size = s.data.toList.length := by rw [Array.length_toList]; rfl
/-- The rows of a text. -/
def rowsB (s : ByteArray) : List ByteArray := (rowsOf s.data.toList).map mkB
theorem split_B (s : ByteArray) : Lib.splitB ⟨#[47]⟩ 0 (Lib.countB s ⟨#[47]⟩) s = rowsB s := by
  have h := split_rows s ⟨#[47]⟩ rfl
  unfold rowsB
  rw [← h, List.map_map]
  have : (mkB ∘ fun x : ByteArray => x.data.toList) = id := by funext x; exact mkB_toList x
  rw [this, List.map_id]
theorem split_f (s : ByteArray) (h : s.size ≤ 1048576) : strings_Split.f s ⟨#[47]⟩ = some (rowsB s) := by
  unfold strings_Split.f
  rw [if_pos ⟨by omega, by decide⟩, split_B]
theorem bt_at (s : ByteArray) (i : Nat) (h : i < s.data.toList.length) : bt s (i : Int) = (s.data.toList[i].toNat : Int) := by
  have h2 : i < s.size := by rw [size_len]; exact h
  unfold bt
  rw [dif_pos (by simpa using h2)]
  simp only [Int.toNat_natCast, Array.getElem_toList]
  rfl
theorem ext_B (s : ByteArray) (a b : Nat) : s.extract a b = mkB ((s.data.toList.take b).drop a) := by
  rw [← mkB_toList (s.extract a b)]
  congr 1
  rw [ByteArray.data_extract, Array.toList_extract, List.drop_take]
theorem u8_47 (b : UInt8) : ((b.toNat : Int) = 47) ↔ b = 47 := by
  constructor
  · intro h
    have : b.toNat = 47 := by omega
    exact UInt8.toNat_inj.1 this
  · rintro rfl; rfl
theorem l1Split_l0 (s : ByteArray) (hs : s.size ≤ 1048576) : ∀ (d i a : Nat) (acc : List ByteArray), i + d = s.size → a ≤ i → 47 ∉ (s.data.toList.take i).drop a → acc.length + d ≤ 4194304 →
    Ev (fun k => spec_l1Split.l0 k s 47 acc (a : Int) (i : Int)) (acc ++ (rowsOf (s.data.toList.drop a)).map mkB) := by
  intro d
  induction d with
  | zero =>
    intro i a acc h1 h2 h3 h4
    refine Ev.succ ?_
    simp only [spec_l1Split.l0]
    refine Ev.neg (by omega) (Ev.pos (by omega) (Ev.pos (by omega) (Ev.pos (by omega) (Ev.ret ?_))))
    have e : s.data.toList.take i = s.data.toList := List.take_of_length_le (by rw [← size_len]; omega)
    rw [e] at h3
    rw [rowsOf_end _ h3, Int.toNat_natCast, ext_B, List.take_of_length_le (by rw [← size_len]; exact Nat.le_refl _)]
    rfl
  | succ d ih =>
    intro i a acc h1 h2 h3 h4
    have hi : i < s.data.toList.length := by rw [← size_len]; omega
    refine Ev.succ ?_
    simp only [spec_l1Split.l0]
    rw [w64' (n := (i : Int) + 1) (m := ((i + 1 : Nat) : Int)) (by omega) (by omega) (by omega), bt_at s i hi]
    refine Ev.pos (by omega) (Ev.pos (by omega) ?_)
    by_cases hb : s.data.toList[i] = 47
    · refine Ev.pos ((u8_47 _).2 hb) (Ev.pos (by omega) (Ev.pos (by omega) (Ev.pos (by omega) (Ev.pos (by omega) ?_))))
      have hh := ih (i + 1) (i + 1) (acc ++ [s.extract a i]) (by omega) (Nat.le_refl _) (by rw [List.drop_of_length_le (by rw [List.length_take]; omega)]; simp) (by simp; omega)
      rw [rows_cut _ a i h2 hi hb h3, List.map_cons, ← ext_B]
      rw [List.append_assoc] at hh
      exact hh
    · refine Ev.neg (fun q => hb ((u8_47 _).1 q)) ?_
      exact ih (i + 1) a acc (by omega) (by omega) (no47_step _ a i h2 hi hb h3) (by omega)
theorem l1Split_ev (s : ByteArray) (hs : s.size ≤ 1048576) : Ev (fun k => spec_l1Split.f k s 47) (rowsB s) := by
  have h := l1Split_l0 s hs s.size 0 0 [] (by omega) (Nat.le_refl _) (by simp) (by simp; omega)
  simpa [spec_l1Split.f, rowsB] using h
/-- The length of the first row. -/
def w0 (R : List ByteArray) : Nat := (rdOf ByteArray.empty R 0).size
theorem w0_le (s : ByteArray) : w0 (rowsB s) ≤ s.size ∧ (rowsB s).length ≤ s.size + 1 ∧ 0 < (rowsB s).length := by
  have h := rowsOf_len s.data.toList
  have hn := rowsOf_ne s.data.toList
  have hz := size_len s
  unfold w0 rowsB
  cases hd : rowsOf s.data.toList with
  | nil => exact absurd hd hn
  | cons r t =>
    rw [hd] at h
    simp only [sumL, List.length_cons] at h
    simp only [List.map_cons, List.length_cons, List.length_map, rdOf, Int.toNat_zero, List.getD_cons_zero, mkB_size]
    refine ⟨?_, ?_, ?_⟩ <;> omega
def rowOk (w : Nat) (r : ByteArray) : Bool := r.size != 0 && r.size == w
def fits (R : List ByteArray) : Bool := decide ((R.length * w0 R) % 2 = 0) && decide (R.length * w0 R ≤ 30)
def taRowsR (R T : List ByteArray) : List ByteArray × Bool := if T.all (rowOk (w0 R)) = true then (R, fits R) else ([], false)
theorem rdOf_at (R : List ByteArray) (i : Nat) (h : i < R.length) : rdOf ByteArray.empty R (i : Int) = R[i] := by simp [rdOf, List.getD_eq_getElem?_getD, h]
theorem mul_w {a b : Nat} (h : a * b ≤ 4503599627370496) : wrap64 ((a : Int) * (b : Int)) = ((a * b : Nat) : Int) := by
  have e : (a : Int) * (b : Int) = ((a * b : Nat) : Int) := by rw [Int.natCast_mul]
  rw [e]
  exact w64' rfl (by omega) (by omega)
theorem taRows_l0 (R : List ByteArray) (h0 : 0 < R.length) (hl : R.length ≤ 1048577) (hb : R.length * w0 R ≤ 4503599627370496) : ∀ (d i : Nat), i + d = R.length → Ev (fun k => spec_taRows.l0 k R R (R.length : Int) (i : Int)) (taRowsR R (R.drop i)) := by
  intro d
  induction d with
  | zero =>
    intro i h1
    refine Ev.succ ?_
    simp only [spec_taRows.l0]
    refine Ev.neg (by omega) (Ev.pos (by omega) ?_)
    have e : taRowsR R (R.drop i) = (R, fits R) := by
      unfold taRowsR
      rw [List.drop_of_length_le (by omega)]
      simp
    have ew : wrap64 ((R.length : Int) * ((rdOf ByteArray.empty R 0).size : Int)) = ((R.length * w0 R : Nat) : Int) := mul_w hb
    rw [e, ew, Int.tmod_eq_emod_of_nonneg (by omega)]
    unfold fits
    by_cases h2 : (R.length * w0 R) % 2 = 0
    · refine Ev.pos (by omega) (Ev.ret ?_)
      rw [decide_eq_true h2, Bool.true_and]
      congr 1
      exact decide_eq_decide.2 (by omega)
    · refine Ev.neg (by omega) (Ev.ret ?_)
      rw [decide_eq_false h2]; rfl
  | succ d ih =>
    intro i h1
    refine Ev.succ ?_
    simp only [spec_taRows.l0]
    rw [w64' (n := (i : Int) + 1) (m := ((i + 1 : Nat) : Int)) (by omega) (by omega) (by omega), rdOf_at R i (by omega)]
    refine Ev.pos (by omega) (Ev.pos (by omega) (Ev.pos (by omega) ?_))
    have hh := ih (i + 1) (by omega)
    have e : R.drop i = R[i] :: R.drop (i + 1) := List.drop_eq_getElem_cons (by omega)
    rw [e]
    unfold taRowsR at hh ⊢
    rw [List.all_cons]
    by_cases h2 : R[i].size = 0
    · refine Ev.pos (by omega) (Ev.ret ?_)
      have : rowOk (w0 R) R[i] = false := by unfold rowOk; rw [h2]; rfl
      rw [this]; rfl
    · refine Ev.neg (by omega) (Ev.pos (by omega) ?_)
      by_cases h3 : R[i].size = w0 R
      · refine Ev.pos (show ((R[i].size : Nat) : Int) = ((w0 R : Nat) : Int) by omega) ?_
        have : rowOk (w0 R) R[i] = true := by unfold rowOk; rw [h3]; simp; omega
        rw [this, Bool.true_and]
        exact hh
      · refine Ev.neg (show ¬ ((R[i].size : Nat) : Int) = ((w0 R : Nat) : Int) by omega) (Ev.ret ?_)
        have : rowOk (w0 R) R[i] = false := by unfold rowOk; simp [h3]
        rw [this]; rfl
def taRowsF (s : ByteArray) : List ByteArray × Bool := if s.size > 60 then ([], false) else taRowsR (rowsB s) (rowsB s)
theorem taRows_ev (s : ByteArray) (hs : s.size ≤ 1048576) : Ev (fun k => spec_taRows.f k s) (taRowsF s) := by
  unfold spec_taRows.f taRowsF
  obtain ⟨h1, h2, h3⟩ := w0_le s
  by_cases h : s.size > 60
  · rw [if_pos h]
    exact Ev.pos (by omega) (Ev.now _)
  · rw [if_neg h]
    refine Ev.neg (by omega) (Ev.bd (l1Split_ev s hs) ?_)
    have hm : (rowsB s).length * w0 (rowsB s) ≤ 61 * 60 := Nat.mul_le_mul (by omega) (by omega)
    exact taRows_l0 (rowsB s) h3 (by omega) (by omega) (rowsB s).length 0 (by omega)
end Go.Proofs.YtokkiiepddhkiaaGreatDoor.Pure
