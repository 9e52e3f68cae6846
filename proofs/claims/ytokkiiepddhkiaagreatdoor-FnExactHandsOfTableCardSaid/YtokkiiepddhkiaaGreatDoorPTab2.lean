/- Tables: the cells that the reference reads, and the program's isForm; plain. -/
import Derived.Test.YtokkiiepddhkiaaGreatDoorPTab
namespace Go.Proofs.YtokkiiepddhkiaaGreatDoor.Pure
open Go Go.RowKit Go.Proofs.YtokkiiepddhkiaaGreatDoor.Hd Go.Proofs.YtokkiiepddhkiaaGreatDoorW.PrintWords Go.Proofs.YtokkiiepddhkiaaGreatDoorW.PrintLast
set_option linter.unusedVariables false
set_option linter.unusedSimpArgs false
def dig (b : UInt8) : Bool := decide (48 ≤ b.toNat) && decide (b.toNat ≤ 57)
def cel (b : UInt8) : Int := (b.toNat : Int) - 48
def digB (r : ByteArray) : Bool := r.data.toList.all dig
def celB (r : ByteArray) : List Int := r.data.toList.map cel
def tabOf (w h : Int) (T : List ByteArray) (acc : List Int) : Int × Int × List Int × Bool := if T.all digB = true then (w, h, acc ++ T.flatMap celB, true) else (0, 0, [], false)
theorem taRead_l0 (R : List ByteArray) (w h : Int) (hR : R.length ≤ 61) (hr : ∀ r ∈ R, r.size ≤ 60) : ∀ (d i : Nat) (acc : List Int), i + d = R.length → acc.length ≤ 61 * i → Ev (fun k => spec_taRead.l0 k R (R.length : Int) (i : Int) w h acc) (tabOf w h (R.drop i) acc) := by
  intro d
  induction d with
  | zero =>
    intro i acc h1 h2
    refine Ev.succ ?_
    simp only [spec_taRead.l0]
    refine Ev.neg (by omega) (Ev.ret ?_)
    unfold tabOf
    rw [List.drop_of_length_le (by omega)]
    simp
  | succ d ih =>
    intro i acc h1 h2
    refine Ev.succ ?_
    simp only [spec_taRead.l0]
    have hi : i < R.length := by omega
    rw [rdOf_at R i hi]
    refine Ev.pos (by omega) (Ev.pos (by omega) (Ev.pos (by omega) ?_))
    have e : R.drop i = R[i] :: R.drop (i + 1) := List.drop_eq_getElem_cons hi
    have hsz := hr R[i] (List.getElem_mem hi)
    have key : ∀ (d2 j : Nat) (acc : List Int), j + d2 = R[i].size → acc.length ≤ 61 * i + j → Ev (fun k => spec_taRead.l1 k R[i] (j : Int) R (R.length : Int) (i : Int) w h acc)
        (if (R[i].data.toList.drop j).all dig = true then tabOf w h (R.drop (i + 1)) (acc ++ (R[i].data.toList.drop j).map cel) else (0, 0, [], false)) := by
      intro d2
      induction d2 with
      | zero =>
        intro j acc g1 g2
        refine Ev.succ ?_
        simp only [spec_taRead.l1]
        rw [w64' (n := (i : Int) + 1) (m := ((i + 1 : Nat) : Int)) (by omega) (by omega) (by omega), List.drop_of_length_le (by rw [← size_len]; omega)]
        refine Ev.neg (by omega) ?_
        have := ih (i + 1) acc (by omega) (by omega)
        simpa using this
      | succ d2 ih2 =>
        intro j acc g1 g2
        have hj : j < R[i].data.toList.length := by rw [← size_len]; omega
        have e2 : R[i].data.toList.drop j = R[i].data.toList[j] :: R[i].data.toList.drop (j + 1) := List.drop_eq_getElem_cons hj
        refine Ev.succ ?_
        simp only [spec_taRead.l1]
        rw [w64' (n := (j : Int) + 1) (m := ((j + 1 : Nat) : Int)) (by omega) (by omega) (by omega), bt_at _ j hj, e2, List.all_cons, List.map_cons]
        refine Ev.pos (by omega) (Ev.pos (by omega) ?_)
        generalize R[i].data.toList[j] = b at *
        by_cases b1 : b.toNat < 48
        · refine Ev.pos (by omega) (Ev.ret ?_)
          have : dig b = false := by unfold dig; simp; omega
          rw [this]; rfl
        · refine Ev.neg (by omega) ?_
          by_cases b2 : b.toNat > 57
          · refine Ev.pos (by omega) (Ev.ret ?_)
            have : dig b = false := by unfold dig; simp; omega
            rw [this]; rfl
          · refine Ev.neg (by omega) (Ev.pos (by omega) ?_)
            have hd : dig b = true := by unfold dig; simp; omega
            have hc : ((b.toNat : Int) - 48) % 256 = cel b := by unfold cel; omega
            have hh := ih2 (j + 1) (acc ++ [cel b]) (by omega) (by simp; omega)
            rw [hd, Bool.true_and, hc]
            rw [List.append_assoc] at hh
            exact hh
    have hk := key R[i].size 0 acc (by omega) (by omega)
    refine Ev.eq rfl ?_
    rw [e]
    simp only [List.drop_zero] at hk
    unfold tabOf at hk ⊢
    rw [List.all_cons, List.flatMap_cons, ← List.append_assoc]
    by_cases hd : (R[i].data.toList.all dig) = true
    · rw [if_pos hd] at hk
      have : digB R[i] = true := hd
      rw [this, Bool.true_and]
      exact hk
    · rw [if_neg hd] at hk
      have : digB R[i] = false := by unfold digB; simpa using hd
      rw [this]
      exact hk
def tabF (s : ByteArray) : Int × Int × List Int × Bool := if (taRowsF s).2 = true then tabOf (w0 (rowsB s) : Int) ((rowsB s).length : Int) (rowsB s) [] else (0, 0, [], false)
theorem taRowsF_true {s : ByteArray} (h : (taRowsF s).2 = true) : s.size ≤ 60 ∧ taRowsF s = (rowsB s, true) ∧ (∀ r ∈ rowsB s, rowOk (w0 (rowsB s)) r = true) ∧ fits (rowsB s) = true := by
  unfold taRowsF at h ⊢
  split at h
  · cases h
  · rename_i h1
    rw [if_neg h1]
    unfold taRowsR at h ⊢
    split at h
    · rename_i h2
      rw [if_pos h2]
      have h : fits (rowsB s) = true := h
      rw [h]
      exact ⟨by omega, rfl, List.all_eq_true.1 h2, rfl⟩
    · cases h
theorem taRead_ev (s : ByteArray) (hs : s.size ≤ 1048576) : Ev (fun k => spec_taRead.f k s) (tabF s) := by
  unfold spec_taRead.f tabF
  refine Ev.bd (taRows_ev s hs) ?_
  obtain ⟨g1, g2, g3⟩ := w0_le s
  by_cases h : (taRowsF s).2 = true
  · obtain ⟨h1, h2, h3, h4⟩ := taRowsF_true h
    rw [if_pos h]
    have hk := taRead_l0 (rowsB s) (w0 (rowsB s) : Int) ((rowsB s).length : Int) (by omega) (fun r hr => by
      have := h3 r hr
      unfold rowOk at this
      simp at this
      omega) (rowsB s).length 0 [] (by omega) (by simp)
    rw [h2]
    refine Ev.pos rfl (Ev.pos (by show (0 : Int) < ((rowsB s).length : Int); omega) ?_)
    rw [List.drop_zero] at hk
    exact hk
  · rw [if_neg h]
    exact Ev.neg h (Ev.now _)
/-- The program's check of a form. -/
def cellOk (sg : ByteArray) (w : Nat) (r : ByteArray) : Bool := r.size == w && r.size != 0 && r.data.toList.all (fun b => sg.data.toList.contains b)
def formF (R : List ByteArray) (sg : ByteArray) : Bool := R.all (cellOk sg (w0 R)) && fits R
theorem trim_f (r sg : ByteArray) (hr : r.size ≤ 9223372036854775807) (hs : sg.size < 4294967281) (ha : sg.data.toList.all (fun b => decide (b.toNat < 128)) = true) :
    ∃ t : ByteArray, strings_Trim.f r sg = some t ∧ (t.toList = ([] : List UInt8) ↔ r.data.toList.all (fun b => sg.data.toList.contains b) = true) := by
  unfold strings_Trim.f
  rw [if_pos ⟨hr, hs, ha⟩]
  refine ⟨_, rfl, ?_⟩
  rw [ByteArray.toList_eq]
  show (Lib.trimS r.data.toList sg.data.toList).toArray.toList = [] ↔ _
  rw [List.toList_toArray, trim_nil, List.all_eq_true]
theorem isForm_l0 (sg : ByteArray) (hsg : sg.size < 4294967281) (ha : sg.data.toList.all (fun b => decide (b.toNat < 128)) = true) (R : List ByteArray) (h0 : 0 < R.length) (hl : R.length ≤ 1048577) (hb : R.length * w0 R ≤ 4503599627370496) (hr : ∀ r ∈ R, r.size ≤ 1048576) :
    ∀ (d i : Nat), i + d = R.length → Ev (fun k => impl_isForm.l0 k sg R R (R.length : Int) (i : Int)) ((R.drop i).all (cellOk sg (w0 R)) && fits R) := by
  intro d
  induction d with
  | zero =>
    intro i h1
    refine Ev.succ ?_
    simp only [impl_isForm.l0]
    refine Ev.neg (by omega) (Ev.pos (by omega) ?_)
    rw [List.drop_of_length_le (by omega)]
    have ew : wrap64 ((R.length : Int) * ((rdOf ByteArray.empty R 0).size : Int)) = ((R.length * w0 R : Nat) : Int) := mul_w hb
    rw [ew, Int.tmod_eq_emod_of_nonneg (by omega), List.all_nil, Bool.true_and]
    unfold fits
    by_cases h2 : R.length * w0 R ≤ 30
    · refine Ev.pos (by omega) (Ev.ret ?_)
      rw [decide_eq_true h2, Bool.and_true]
      by_cases h3 : (R.length * w0 R) % 2 = 0
      · rw [decide_eq_true h3, beq_iff_eq]; omega
      · rw [decide_eq_false h3, beq_eq_false_iff_ne]; omega
    · refine Ev.neg (by omega) (Ev.ret ?_)
      rw [decide_eq_false h2, Bool.and_false]
  | succ d ih =>
    intro i h1
    have hi : i < R.length := by omega
    refine Ev.succ ?_
    simp only [impl_isForm.l0]
    rw [w64' (n := (i : Int) + 1) (m := ((i + 1 : Nat) : Int)) (by omega) (by omega) (by omega), rdOf_at R i hi]
    refine Ev.pos (by omega) (Ev.pos (by omega) (Ev.pos (by omega) (Ev.pos (by omega) ?_)))
    have hh := ih (i + 1) (by omega)
    have e : R.drop i = R[i] :: R.drop (i + 1) := List.drop_eq_getElem_cons hi
    rw [e, List.all_cons]
    by_cases h2 : R[i].size = w0 R
    · refine Ev.pos (show ((R[i].size : Nat) : Int) = ((w0 R : Nat) : Int) by omega) ?_
      by_cases h3 : R[i].size = 0
      · refine Ev.pos (by omega) (Ev.ret ?_)
        have : cellOk sg (w0 R) R[i] = false := by unfold cellOk; rw [h3]; simp
        rw [this]; rfl
      · refine Ev.neg (by omega) ?_
        obtain ⟨t, ht1, ht2⟩ := trim_f R[i] sg (by have := hr R[i] (List.getElem_mem hi); omega) hsg ha
        refine Ev.bs ht1 ?_
        by_cases h4 : t.toList = ([] : List UInt8)
        · refine Ev.pos h4 ?_
          have : cellOk sg (w0 R) R[i] = true := by unfold cellOk; rw [ht2.1 h4, h2]; simp; omega
          rw [this, Bool.true_and]
          exact hh
        · refine Ev.neg h4 (Ev.ret ?_)
          have h5 : R[i].data.toList.all (fun b => sg.data.toList.contains b) = false := by
            cases hq : R[i].data.toList.all (fun b => sg.data.toList.contains b) with
            | false => rfl
            | true => exact absurd (ht2.2 hq) h4
          have : cellOk sg (w0 R) R[i] = false := by unfold cellOk; rw [h5, Bool.and_false]
          rw [this]; rfl
    · refine Ev.neg (show ¬ ((R[i].size : Nat) : Int) = ((w0 R : Nat) : Int) by omega) (Ev.ret ?_)
      have : cellOk sg (w0 R) R[i] = false := by unfold cellOk; simp [h2]
      rw [this]; rfl
theorem rows_le (s : ByteArray) : ∀ r ∈ rowsB s, r.size ≤ s.size := by
  intro r hr
  unfold rowsB at hr
  rw [List.mem_map] at hr
  obtain ⟨l, hl, rfl⟩ := hr
  rw [mkB_size, size_len]
  have h := rowsOf_len s.data.toList
  have : ∀ (T : List (List UInt8)), l ∈ T → l.length + T.length ≤ sumL T + T.length := by
    intro T
    induction T with
    | nil => intro h; cases h
    | cons a t ih =>
      intro h
      simp only [sumL]
      rcases List.mem_cons.1 h with rfl | h
      · omega
      · have := ih h; simp only [List.length_cons]; omega
  have h2 := this _ hl
  have h3 := rowsOf_ne s.data.toList
  have h4 : 0 < (rowsOf s.data.toList).length := List.length_pos_iff.2 h3
  omega
theorem isForm_ev (s sg : ByteArray) (hs : s.size ≤ 1048576) (hsg : sg.size < 4294967281) (ha : sg.data.toList.all (fun b => decide (b.toNat < 128)) = true) : Ev (fun k => impl_isForm.f k s sg) (formF (rowsB s) sg) := by
  unfold impl_isForm.f formF
  obtain ⟨g1, g2, g3⟩ := w0_le s
  have hm : (rowsB s).length * w0 (rowsB s) ≤ 1048577 * 1048576 := Nat.mul_le_mul (by omega) (by omega)
  refine Ev.bs (split_f s hs) ?_
  exact isForm_l0 sg hsg ha (rowsB s) g3 (by omega) (by omega) (fun r hr => by have := rows_le s r hr; omega) (rowsB s).length 0 (by omega)
def digs : ByteArray := ⟨#[48, 49, 50, 51, 52, 53, 54, 55, 56, 57]⟩
set_option maxRecDepth 100000 in
theorem digs_dig (b : UInt8) : digs.data.toList.contains b = dig b := by
  have : ∀ n < 256, digs.data.toList.contains (UInt8.ofNat n) = dig (UInt8.ofNat n) := by decide
  have h := this b.toNat b.toNat_lt
  rwa [UInt8.ofNat_toNat] at h
def isTab (s : ByteArray) : Bool := formF (rowsB s) digs
/-- What a table's rows are. -/
theorem form_size {s sg : ByteArray} (h : formF (rowsB s) sg = true) : s.size ≤ 60 ∧ (∀ r ∈ rowsB s, r.size = w0 (rowsB s)) ∧ 0 < w0 (rowsB s) ∧ (rowsB s).length * w0 (rowsB s) ≤ 30 ∧ ((rowsB s).length * w0 (rowsB s)) % 2 = 0 := by
  unfold formF fits at h
  simp only [Bool.and_eq_true, List.all_eq_true, decide_eq_true_eq] at h
  obtain ⟨h1, h2, h3⟩ := h
  obtain ⟨g1, g2, g3⟩ := w0_le s
  have hr : ∀ r ∈ rowsB s, r.size = w0 (rowsB s) ∧ 0 < r.size := by
    intro r hr
    have := h1 r hr
    unfold cellOk at this
    simp only [Bool.and_eq_true, beq_iff_eq, bne_iff_ne, ne_eq] at this
    omega
  have h0 : 0 < w0 (rowsB s) := by
    have := hr (rowsB s)[0] (List.getElem_mem g3)
    omega
  have hl := rowsOf_len s.data.toList
  have hsum : sumL (rowsOf s.data.toList) = (rowsOf s.data.toList).length * w0 (rowsB s) := sumL_same _ (fun l hl => by
    have := hr (mkB l) (List.mem_map.2 ⟨l, hl, rfl⟩)
    rw [mkB_size] at this
    omega)
  have hlen : (rowsB s).length = (rowsOf s.data.toList).length := by unfold rowsB; simp
  have hmul : (rowsB s).length * 1 ≤ (rowsB s).length * w0 (rowsB s) := Nat.mul_le_mul_left _ h0
  rw [hsum, ← hlen] at hl
  have := size_len s
  refine ⟨by omega, fun r hr' => (hr r hr').1, h0, h3, h2⟩
theorem tab_eq (s : ByteArray) : (tabF s).2.2.2 = isTab s := by
  unfold isTab
  cases hf : formF (rowsB s) digs with
  | true =>
    obtain ⟨h1, h2, h3, h4, h5⟩ := form_size hf
    unfold formF at hf
    rw [Bool.and_eq_true, List.all_eq_true] at hf
    have a1 : (rowsB s).all (rowOk (w0 (rowsB s))) = true := List.all_eq_true.2 (fun r hr => by unfold rowOk; rw [h2 r hr]; simp; omega)
    have a2 : taRowsF s = (rowsB s, true) := by
      unfold taRowsF taRowsR
      rw [if_neg (by omega), if_pos a1, hf.2]
    have a3 : (rowsB s).all digB = true := List.all_eq_true.2 (fun r hr => by
      have := hf.1 r hr
      unfold cellOk at this
      rw [Bool.and_eq_true] at this
      unfold digB
      rw [← this.2]
      congr 1
      funext b
      exact (digs_dig b).symm)
    unfold tabF tabOf
    rw [a2]
    simp [a3]
  | false =>
    cases ht : (tabF s).2.2.2 with
    | false => rfl
    | true =>
      exfalso
      unfold tabF at ht
      split at ht
      · rename_i h
        obtain ⟨h1, h2, h3, h4⟩ := taRowsF_true h
        unfold tabOf at ht
        split at ht
        · rename_i hd
          rw [List.all_eq_true] at hd
          have : formF (rowsB s) digs = true := by
            unfold formF
            rw [h4, Bool.and_true, List.all_eq_true]
            intro r hr
            have q1 := h3 r hr
            have q2 := hd r hr
            unfold rowOk at q1
            unfold digB at q2
            unfold cellOk
            have q3 : (fun b => digs.data.toList.contains b) = dig := by funext b; exact digs_dig b
            rw [q3, q2]
            simp only [Bool.and_eq_true] at q1 ⊢
            exact ⟨⟨q1.2, q1.1⟩, trivial⟩
          rw [this] at hf
          cases hf
        · cases ht
      · cases ht
theorem implIsTable_ev (s : ByteArray) (hs : s.size ≤ 1048576) : Ev (fun k => impl_IsTable.f k s) (isTab s) := by
  unfold impl_IsTable.f
  exact Ev.bd (isForm_ev s digs hs (by decide) (by decide)) (Ev.now _)
theorem isTab_tab {s : ByteArray} (h : isTab s = true) : tabF s = ((w0 (rowsB s) : Int), ((rowsB s).length : Int), (rowsB s).flatMap celB, true) := by
  have h1 := tab_eq s
  rw [h] at h1
  unfold tabF at h1 ⊢
  split at h1
  · rename_i q
    rw [if_pos q]
    unfold tabOf at h1 ⊢
    split at h1
    · rename_i q2
      rw [if_pos q2, List.nil_append]
    · cases h1
  · cases h1
theorem isTab_no {s : ByteArray} (h : isTab s = false) : tabF s = (0, 0, [], false) := by
  have h1 := tab_eq s
  rw [h] at h1
  unfold tabF at h1 ⊢
  split at h1
  · rename_i q
    rw [if_pos q]
    unfold tabOf at h1 ⊢
    split at h1
    · cases h1
    · rename_i q2
      rw [if_neg q2]
  · rename_i q
    rw [if_neg q]
theorem size_ev (s : ByteArray) (hs : s.size ≤ 1048576) (h : 0 < (rowsB s).length) : impl_size.f s = some ((w0 (rowsB s) : Int), ((rowsB s).length : Int)) := by
  unfold impl_size.f
  rw [split_f s hs, Option.bind_some, if_pos (by omega)]
  rfl
end Go.Proofs.YtokkiiepddhkiaaGreatDoor.Pure
