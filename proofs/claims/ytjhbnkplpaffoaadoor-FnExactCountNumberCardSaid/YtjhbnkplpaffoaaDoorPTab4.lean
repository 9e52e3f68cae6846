/- CountNumber: what both sides answer. -/
import Derived.Test.YtjhbnkplpaffoaaDoorPTab3
import Derived.Test.YtjhbnkplpaffoaaDoorG3
import Derived.Test.YtjhbnkplpaffoaaDoorG3
namespace Go.Proofs.YtjhbnkplpaffoaaDoor.Pure
open Go Go.RowKit Go.Proofs.YtjhbnkplpaffoaaDoor.Hd Go.Proofs.YtjhbnkplpaffoaaDoorW.PrintWords Go.Proofs.YtjhbnkplpaffoaaDoorW.PrintLast
set_option linter.unusedVariables false
set_option linter.unusedSimpArgs false
theorem rowsOf_count (b : UInt8) (hb : b ≠ 47) : ∀ l : List UInt8, (rowsOf l).flatten.count b = l.count b := by
  intro l
  induction l with
  | nil => rfl
  | cons c t ih =>
    unfold rowsOf
    by_cases hc : c = 47
    · rw [if_pos hc, List.flatten_cons, List.nil_append, ih, List.count_cons, hc]
      have : (47 == b) = false := beq_eq_false_iff_ne.2 (fun e => hb e.symm)
      simp [this]
    · rw [if_neg hc]
      cases hd : rowsOf t with
      | nil => exact absurd hd (rowsOf_ne t)
      | cons r rs =>
        rw [hd] at ih
        simp only [List.flatten_cons] at ih ⊢
        rw [List.cons_append, List.count_cons, List.count_cons, ih]
/-- The cells of a table. -/
def cells (s : ByteArray) : List Int := (rowsB s).flatMap celB
theorem cells_flat (s : ByteArray) : cells s = (rowsOf s.data.toList).flatten.map cel := by
  unfold cells rowsB
  rw [List.flatMap_map]
  have : (fun r : List UInt8 => celB (mkB r)) = fun r => r.map cel := by funext r; unfold celB; rw [toList_mkB]
  rw [show (fun a => celB (mkB a)) = fun r : List UInt8 => r.map cel from this, List.map_flatten, List.flatMap_def]
theorem cel_count (n : Nat) (hn : n ≤ 9) (b : UInt8) (hb : b.toNat = 48 + n) : ∀ l : List UInt8, (l.map cel).count (n : Int) = l.count b := by
  intro l
  induction l with
  | nil => rfl
  | cons c t ih =>
    rw [List.map_cons, List.count_cons, List.count_cons, ih]
    have : (cel c == (n : Int)) = (c == b) := by
      unfold cel
      by_cases h : c = b
      · subst h; simp; omega
      · rw [beq_eq_false_iff_ne.2 h, beq_eq_false_iff_ne]
        intro q
        exact h (UInt8.toNat_inj.1 (by omega))
    rw [this]
def countF (s : ByteArray) (n : Int) : Int × Bool := if isTab s = true ∧ 0 ≤ n ∧ n ≤ 9 then (((cells s).count n : Nat), true) else (0, false)
theorem countF_yes {s : ByteArray} {n : Int} (h : isTab s = true) (hn : 0 ≤ n ∧ n ≤ 9) : countF s n = ((((cells s).count n : Nat) : Int), true) := if_pos ⟨h, hn⟩
theorem countF_tab {s : ByteArray} {n : Int} (h : isTab s = false) : countF s n = (0, false) := if_neg (fun q => by rw [h] at q; exact absurd q.1 (by simp))
theorem countF_num {s : ByteArray} {n : Int} (h : ¬ (0 ≤ n ∧ n ≤ 9)) : countF s n = (0, false) := if_neg (fun q => h q.2)
theorem tiNumber_eq (n : Int) : spec_tiNumber.f n = some (decide (0 ≤ n ∧ n ≤ 9)) := by
  unfold spec_tiNumber.f spec_l1In.f
  by_cases h : n ≥ 0
  · rw [if_pos h, Option.bind_some]
    congr 1
    exact decide_eq_decide.2 (by omega)
  · rw [if_neg h, Option.bind_some, decide_eq_false (by omega)]
theorem isNumber_eq (n : Int) : impl_isNumber.f n = some (decide (0 ≤ n ∧ n ≤ 9)) := by
  unfold impl_isNumber.f impl_within.f
  by_cases h : 0 ≤ n
  · rw [if_pos h, Option.bind_some]
    congr 1
    exact decide_eq_decide.2 (by omega)
  · rw [if_neg h, Option.bind_some, decide_eq_false (by omega)]
theorem count_l0 (n : Int) (L : List Int) (hL : L.length ≤ 1000000) : ∀ (d i c : Nat), i + d = L.length → c ≤ i → Ev (fun k => spec_CountNumber.l0 k n (c : Int) L (L.length : Int) (i : Int)) ((((c + (L.drop i).count n : Nat) : Int)), true) := by
  intro d
  induction d with
  | zero =>
    intro i c h1 h2
    refine Ev.succ ?_
    simp only [spec_CountNumber.l0]
    refine Ev.neg (by omega) (Ev.ret ?_)
    rw [List.drop_of_length_le (by omega)]
    simp
  | succ d ih =>
    intro i c h1 h2
    have hi : i < L.length := by omega
    refine Ev.succ ?_
    simp only [spec_CountNumber.l0]
    rw [w64' (n := (i : Int) + 1) (m := ((i + 1 : Nat) : Int)) (by omega) (by omega) (by omega), w64' (n := (c : Int) + 1) (m := ((c + 1 : Nat) : Int)) (by omega) (by omega) (by omega), rd_at hi]
    refine Ev.pos (by omega) (Ev.pos (by omega) (Ev.pos (by omega) ?_))
    have e : L.drop i = L[i] :: L.drop (i + 1) := List.drop_eq_getElem_cons hi
    rw [e, List.count_cons]
    by_cases h : L[i] = n
    · refine Ev.pos h ?_
      have hh := ih (i + 1) (c + 1) (by omega) (by omega)
      rw [if_pos (by simpa using h)]
      have e2 : c + (List.count n (L.drop (i + 1)) + 1) = c + 1 + List.count n (L.drop (i + 1)) := by omega
      rw [e2]
      exact hh
    · refine Ev.neg h ?_
      have hh := ih (i + 1) c (by omega) (by omega)
      rw [if_neg (by simpa using h)]
      exact hh
theorem cells_len {s : ByteArray} (h : isTab s = true) : (cells s).length = (rowsB s).length * w0 (rowsB s) ∧ (cells s).length ≤ 30 := by
  obtain ⟨h1, h2, h3, h4, h5⟩ := form_size h
  have : ∀ (T : List ByteArray), (∀ r ∈ T, r.size = w0 (rowsB s)) → (T.flatMap celB).length = T.length * w0 (rowsB s) := by
    intro T
    induction T with
    | nil => intro _; simp
    | cons a t ih =>
      intro hT
      rw [List.flatMap_cons, List.length_append, ih (fun r hr => hT r (List.mem_cons_of_mem _ hr)), List.length_cons, Nat.add_mul]
      have : (celB a).length = w0 (rowsB s) := by unfold celB; rw [List.length_map, ← size_len]; exact hT a (by simp)
      omega
  have h6 := this _ h2
  unfold cells
  omega
theorem specCountNumber_ev (s : ByteArray) (n : Int) (hs : s.size ≤ 1048576) : Ev (fun k => spec_CountNumber.f k s n) (countF s n) := by
  unfold spec_CountNumber.f
  refine Ev.bd (taRead_ev s hs) ?_
  cases h : isTab s with
  | false =>
    rw [isTab_no h, countF_tab h]
    refine Ev.neg (by simp) (Ev.succ ?_)
    simp only [spec_CountNumber.j0]
    exact Ev.now _
  | true =>
    rw [isTab_tab h]
    refine Ev.pos rfl (Ev.bs (tiNumber_eq n) (Ev.succ ?_))
    unfold spec_CountNumber.j0
    by_cases hn : 0 ≤ n ∧ n ≤ 9
    · rw [decide_eq_true hn, countF_yes h hn]
      refine Ev.neg (by simp) ?_
      have hl := (cells_len h).2
      have hk := count_l0 n (cells s) (by omega) (cells s).length 0 0 (by omega) (by omega)
      rw [List.drop_zero, Nat.zero_add] at hk
      exact hk
    · rw [decide_eq_false hn, countF_num hn]
      exact Ev.pos rfl (Ev.now _)
theorem implCountNumber_ev (s : ByteArray) (n : Int) (hs : s.size ≤ 1048576) : Ev (fun k => impl_CountNumber.f k s n) (countF s n) := by
  unfold impl_CountNumber.f
  refine Ev.bd (implIsTable_ev s hs) ?_
  cases h : isTab s with
  | false => rw [countF_tab h]; exact Ev.neg (by simp) (Ev.now _)
  | true =>
    refine Ev.pos rfl (Ev.bs (isNumber_eq n) ?_)
    by_cases hn : 0 ≤ n ∧ n ≤ 9
    · rw [decide_eq_true hn, countF_yes h hn]
      refine Ev.pos rfl ?_
      obtain ⟨m, rfl⟩ : ∃ m : Nat, n = m := ⟨n.toNat, by omega⟩
      have hm : m ≤ 9 := by omega
      have hc : strings_Count.f s (strOfNums ([(wrap64 (48 + (m : Int))) % 256] : List Int)) = some (((cells s).count (m : Int) : Nat) : Int) := by
        have e1 : wrap64 (48 + (m : Int)) % 256 = ((48 + m : Nat) : Int) := by rw [w64' (n := 48 + (m : Int)) (m := ((48 + m : Nat) : Int)) (by omega) (by omega) (by omega)]; omega
        have e2 : strOfNums ([((48 + m : Nat) : Int)] : List Int) = ⟨#[UInt8.ofNat (48 + m)]⟩ := by
          have : ∀ m ≤ 9, strOfNums ([((48 + m : Nat) : Int)] : List Int) = ⟨#[UInt8.ofNat (48 + m)]⟩ := by decide
          exact this m hm
        rw [e1, e2]
        unfold strings_Count.f
        rw [if_pos (show (⟨#[UInt8.ofNat (48 + m)]⟩ : ByteArray).size = 1 from rfl)]
        have hb : (UInt8.ofNat (48 + m)).toNat = 48 + m := by
          rw [UInt8.toNat_ofNat']
          omega
        have hne : UInt8.ofNat (48 + m) ≠ 47 := fun q => by rw [q] at hb; have : (47 : UInt8).toNat = 47 := rfl; omega
        rw [cells_flat, cel_count m hm _ hb, rowsOf_count _ hne]
        rfl
      exact Ev.bs hc (Ev.now _)
    · rw [decide_eq_false hn, countF_num hn]
      exact Ev.neg (by simp) (Ev.now _)
end Go.Proofs.YtjhbnkplpaffoaaDoor.Pure
