/- The least of the spun windows (plain). -/
import Derived.Test.YtbkaedmabdgdhaaG0
import Derived.Test.YtbkaedmabdgdhaaG2
import Derived.Test.YtbkaedmabdgdhaaPWin0
import Derived.Test.YtbkaedmabdgdhaaPEv
import Derived.Test.YtbkaedmabdgdhaaMGrowInt
import Derived.Test.YtbkaedmabdgdhaaG1
import Derived.Test.YtbkaedmabdgdhaaPEqInt
namespace Go.Proofs.Ytbkaedmabdgdhaa.Pure
open Go.RowKit Go.Proofs.Ytbkaedmabdgdhaa.Hd Go.Proofs.YtbkaedmabdgdhaaW.PrintWords Go.Proofs.YtbkaedmabdgdhaaW.PrintLast
set_option linter.unusedVariables false
set_option linter.unusedSimpArgs false
theorem rdR_at {l : List (List Int)} {i : Nat} (h : i < l.length) : rd_i64s l (i : Int) = l[i] := by simp [rd_i64s, h]
end Go.Proofs.Ytbkaedmabdgdhaa.Pure
namespace Go.Proofs.Ytbkaedmabdgdhaa.Pure
open Go.RowKit Go.Proofs.Ytbkaedmabdgdhaa.Hd Go.Proofs.YtbkaedmabdgdhaaW.PrintWords Go.Proofs.YtbkaedmabdgdhaaW.PrintLast
set_option linter.unusedVariables false
set_option linter.unusedSimpArgs false
theorem flat_take (l : List (List Int)) (i : Nat) (h : i < l.length) : (l.take (i + 1)).flatten = (l.take i).flatten ++ l[i] := by
  rw [List.take_succ_eq_append_getElem h, List.flatten_append]; simp
theorem flat_le (l : List (List Int)) (i : Nat) : (l.take i).flatten.length ≤ l.flatten.length := by
  conv => rhs; rw [← List.take_append_drop i l, List.flatten_append, List.length_append]
  omega
theorem concat_l1 (l : List (List Int)) (hl : l.length ≤ 1048576) (hf : l.flatten.length < 8796093022208) : ∀ (d i : Nat), i + d = l.length →
    Ev (fun k => slices_Concat_int_int.l1 k (l.take i).flatten l (l.length : Int) (i : Int)) l.flatten := by
  intro d
  induction d with
  | zero =>
    intro i hi
    refine Ev.succ ?_
    simp only [slices_Concat_int_int.l1]
    exact Ev.neg (by omega) (Ev.ret (by rw [List.take_of_length_le (by omega)]))
  | succ d ih =>
    intro i hi
    refine Ev.succ ?_
    have hlt : i < l.length := by omega
    have h1 := flat_take l i hlt
    have h2 := flat_le l (i + 1)
    simp only [slices_Concat_int_int.l1]
    rw [w64' (n := (i : Int) + 1) (m := ((i + 1 : Nat) : Int)) (by omega) (by omega) (by omega), rdR_at hlt, ← h1]
    refine Ev.pos (by omega) (Ev.pos (by omega) (Ev.pos (by omega) (Ev.pos ?_ (ih (i + 1) (by omega)))))
    rw [h1, List.length_append] at h2
    omega
theorem concat_l0 (l : List (List Int)) (hl : l.length ≤ 1048576) (hf : l.flatten.length < 8796093022208) : ∀ (d i : Nat), i + d = l.length →
    Ev (fun k => slices_Concat_int_int.l0 k l (((l.take i).flatten.length : Nat) : Int) l (l.length : Int) (i : Int)) l.flatten := by
  intro d
  induction d with
  | zero =>
    intro i hi
    refine Ev.succ ?_
    simp only [slices_Concat_int_int.l0]
    have h2 := flat_le l i
    refine Ev.neg (by omega) (Ev.bs (a := []) ?_ (concat_l1 l hl hf l.length 0 (by omega)))
    unfold slices_Grow_int_int.f
    rw [if_pos (by omega), if_pos (by omega)]
  | succ d ih =>
    intro i hi
    refine Ev.succ ?_
    have hlt : i < l.length := by omega
    have h1 := congrArg List.length (flat_take l i hlt)
    rw [List.length_append] at h1
    have h2 := flat_le l (i + 1)
    simp only [slices_Concat_int_int.l0]
    rw [w64' (n := (i : Int) + 1) (m := ((i + 1 : Nat) : Int)) (by omega) (by omega) (by omega), rdR_at hlt, w64' (n := (((l.take i).flatten.length : Nat) : Int) + (l[i].length : Int)) (m := (((l.take (i + 1)).flatten.length : Nat) : Int)) (by omega) (by omega) (by omega)]
    exact Ev.pos (by omega) (Ev.pos (by omega) (Ev.pos (by omega) (Ev.neg (by omega) (ih (i + 1) (by omega)))))
theorem concat_ev (l : List (List Int)) (hl : l.length ≤ 1048576) (hf : l.flatten.length < 8796093022208) : Ev (fun k => slices_Concat_int_int.f k l) l.flatten := by
  unfold slices_Concat_int_int.f
  have h := concat_l0 l hl hf l.length 0 (by omega)
  simpa using h
end Go.Proofs.Ytbkaedmabdgdhaa.Pure
namespace Go.Proofs.Ytbkaedmabdgdhaa.Pure
open Go.RowKit Go.Proofs.Ytbkaedmabdgdhaa.Hd Go.Proofs.YtbkaedmabdgdhaaW.PrintWords Go.Proofs.YtbkaedmabdgdhaaW.PrintLast
set_option linter.unusedVariables false
set_option linter.unusedSimpArgs false
theorem l1Own_eq (l : List Int) (h : l.length ≤ 1048576) : spec_l1Own.f l = some l := by
  unfold spec_l1Own.f
  rw [Option.bind_some, if_pos (by simp; omega), List.nil_append]
def spn (l : List Int) (k : Nat) : List Int := l.drop (2 * k) ++ l.take (2 * k)
theorem spn_len (l : List Int) (k : Nat) (h : 2 * k ≤ l.length) : (spn l k).length = l.length := by
  unfold spn; rw [List.length_append, List.length_drop, List.length_take]; omega
theorem wiSpin_eq (l : List Int) (k : Nat) (hl : l.length = 8) (h : k ≤ 4) : spec_wiSpin.f l (k : Int) = some (spn l k) := by
  unfold spec_wiSpin.f
  rw [w64' (n := 2 * (k : Int)) (m := ((2 * k : Nat) : Int)) (by omega) (by omega) (by omega), if_pos (by omega), if_pos (by omega), Int.toNat_natCast, l1Own_eq _ (by rw [List.length_drop]; omega), Option.bind_some, if_pos (by rw [List.length_drop, List.length_take]; omega)]
  rfl
theorem spun_ev (l : List Int) (k : Nat) (hl : l.length = 8) (h : k ≤ 4) : Ev (fun n => impl_spun.f n l (k : Int)) (spn l k) := by
  unfold impl_spun.f
  rw [w64' (n := 2 * (k : Int)) (m := ((2 * k : Nat) : Int)) (by omega) (by omega) (by omega), Int.toNat_natCast]
  refine Ev.pos (by omega) (Ev.pos (by omega) (Ev.bd (concat_ev _ (by simp) ?_) (Ev.ret ?_)))
  · simp only [List.flatten_cons, List.flatten_nil, List.append_nil, List.length_append, List.length_drop, List.length_take]; omega
  · simp [spn]
end Go.Proofs.Ytbkaedmabdgdhaa.Pure
namespace Go.Proofs.Ytbkaedmabdgdhaa.Pure
open Go.RowKit Go.Proofs.Ytbkaedmabdgdhaa.Hd Go.Proofs.YtbkaedmabdgdhaaW.PrintWords Go.Proofs.YtbkaedmabdgdhaaW.PrintLast
set_option linter.unusedVariables false
set_option linter.unusedSimpArgs false
/-- a comes before b, both as long. -/
def lexB : List Int → List Int → Bool
  | x :: xs, y :: ys => if x = y then lexB xs ys else decide (x < y)
  | _, _ => false
theorem lexB_drop {a b : List Int} {i : Nat} (ha : i < a.length) (hb : i < b.length) : lexB (a.drop i) (b.drop i) = if a[i] = b[i] then lexB (a.drop (i + 1)) (b.drop (i + 1)) else decide (a[i] < b[i]) := by
  rw [List.drop_eq_getElem_cons ha, List.drop_eq_getElem_cons hb]; rfl
theorem lexB_end {a b : List Int} {i : Nat} (ha : a.length ≤ i) : lexB (a.drop i) (b.drop i) = false := by
  rw [List.drop_of_length_le ha]; rfl
theorem wiLess_l0 (a b : List Int) (hab : a.length = b.length) (hl : a.length ≤ 1048576) : ∀ (d i : Nat), i + d = a.length → Ev (fun k => spec_wiLess.l0 k a b (a.length : Int) (i : Int)) (lexB (a.drop i) (b.drop i)) := by
  intro d
  induction d with
  | zero =>
    intro i hi
    refine Ev.succ ?_
    simp only [spec_wiLess.l0]
    exact Ev.neg (by omega) (Ev.ret (lexB_end (by omega)).symm)
  | succ d ih =>
    intro i hi
    refine Ev.succ ?_
    have ha : i < a.length := by omega
    have hb : i < b.length := by omega
    simp only [spec_wiLess.l0]
    rw [rd_at ha, rd_at hb, w64' (n := (i : Int) + 1) (m := ((i + 1 : Nat) : Int)) (by omega) (by omega) (by omega), lexB_drop ha hb]
    refine Ev.pos (by omega) (Ev.pos (by omega) (Ev.pos (by omega) (Ev.pos (by omega) ?_)))
    by_cases e : a[i] = b[i]
    · rw [if_pos e]; exact Ev.pos e (ih (i + 1) (by omega))
    · rw [if_neg e]; exact Ev.neg e (Ev.ret rfl)
theorem wiLess_ev (a b : List Int) (hab : a.length = b.length) (hl : a.length ≤ 1048576) : Ev (fun k => spec_wiLess.f k a b) (lexB a b) := by
  unfold spec_wiLess.f
  have h := wiLess_l0 a b hab hl a.length 0 (by omega)
  simpa using h
theorem cmpInt_eq (x y : Int) : cmp_Compare_int.f x y = some (if x < y then -1 else if x > y then 1 else 0) := by
  unfold cmp_Compare_int.f cmp_isNaN_int.f
  by_cases h : x < y
  · simp [h]
  · by_cases h2 : x > y
    · simp [h, h2]
    · simp [h, h2]
theorem compare_l0 (a b : List Int) (hab : a.length = b.length) (hl : a.length ≤ 1048576) : ∀ (d i : Nat), i + d = a.length → ∃ r : Int, decide (r < 0) = lexB (a.drop i) (b.drop i) ∧ Ev (fun k => slices_Compare_int_int.l0 k a b a (a.length : Int) (i : Int)) r := by
  intro d
  induction d with
  | zero =>
    intro i hi
    refine ⟨0, ?_, Ev.succ ?_⟩
    · rw [lexB_end (by omega)]; rfl
    · simp only [slices_Compare_int_int.l0]
      exact Ev.neg (by omega) (Ev.neg (by omega) (Ev.ret rfl))
  | succ d ih =>
    intro i hi
    have ha : i < a.length := by omega
    have hb : i < b.length := by omega
    by_cases e : a[i] = b[i]
    · obtain ⟨r, h1, h2⟩ := ih (i + 1) (by omega)
      refine ⟨r, by rw [lexB_drop ha hb, if_pos e]; exact h1, Ev.succ ?_⟩
      simp only [slices_Compare_int_int.l0]
      rw [rd_at ha, rd_at hb, w64' (n := (i : Int) + 1) (m := ((i + 1 : Nat) : Int)) (by omega) (by omega) (by omega)]
      refine Ev.pos (by omega) (Ev.pos (by omega) (Ev.pos (by omega) (Ev.neg (by omega) (Ev.pos (by omega) (Ev.bs (cmpInt_eq _ _) (Ev.pos ?_ h2))))))
      rw [if_neg (by omega), if_neg (by omega)]
    · refine ⟨if a[i] < b[i] then -1 else if a[i] > b[i] then 1 else 0, ?_, Ev.succ ?_⟩
      · rw [lexB_drop ha hb, if_neg e]
        by_cases h : a[i] < b[i]
        · simp [h]
        · have : a[i] > b[i] := by omega
          simp [h, this]
      · simp only [slices_Compare_int_int.l0]
        rw [rd_at ha, rd_at hb]
        refine Ev.pos (by omega) (Ev.pos (by omega) (Ev.pos (by omega) (Ev.neg (by omega) (Ev.pos (by omega) (Ev.bs (cmpInt_eq _ _) (Ev.neg ?_ (Ev.ret rfl)))))))
        by_cases h : a[i] < b[i]
        · simp [h]
        · have : a[i] > b[i] := by omega
          simp [h, this]
theorem compare_ev (a b : List Int) (hab : a.length = b.length) (hl : a.length ≤ 1048576) : ∃ r : Int, decide (r < 0) = lexB a b ∧ Ev (fun k => slices_Compare_int_int.f k a b) r := by
  unfold slices_Compare_int_int.f
  obtain ⟨r, h1, h2⟩ := compare_l0 a b hab hl a.length 0 (by omega)
  exact ⟨r, by simpa using h1, h2⟩
/-- The least of 'best' and of the windows spun by i, i + 1, .. (d of them). -/
def leastW (l : List Int) : Nat → Nat → List Int → List Int
  | 0, _, best => best
  | d + 1, i, best => leastW l d (i + 1) (if lexB (spn l i) best = true then spn l i else best)
theorem leastW_len (l : List Int) (hl : l.length = 8) : ∀ (d i : Nat) (best : List Int), i + d ≤ 5 → best.length = 8 → (leastW l d i best).length = 8 := by
  intro d
  induction d with
  | zero => intro i best _ h; exact h
  | succ d ih =>
    intro i best hi h
    refine ih (i + 1) _ (by omega) ?_
    split
    · rw [spn_len l i (by omega)]; exact hl
    · exact h
theorem specLeast_l0 (l : List Int) (hl : l.length = 8) : ∀ (d i : Nat) (best : List Int), i + d = 4 → best.length = 8 → Ev (fun k => spec_wiLeast.l0 k l best (i : Int)) (leastW l d i best) := by
  intro d
  induction d with
  | zero =>
    intro i best hi hb
    refine Ev.succ ?_
    simp only [spec_wiLeast.l0]
    exact Ev.neg (by omega) (Ev.ret rfl)
  | succ d ih =>
    intro i best hi hb
    refine Ev.succ ?_
    have hs := spn_len l i (by omega)
    simp only [spec_wiLeast.l0]
    rw [w64' (n := (i : Int) + 1) (m := ((i + 1 : Nat) : Int)) (by omega) (by omega) (by omega)]
    refine Ev.pos (by omega) (Ev.bs (wiSpin_eq l i hl (by omega)) (Ev.bd (wiLess_ev _ best (by omega) (by omega)) ?_))
    unfold leastW
    by_cases c : lexB (spn l i) best = true
    · rw [if_pos c]; exact Ev.pos c (ih (i + 1) _ (by omega) (by omega))
    · rw [if_neg c]; exact Ev.neg c (ih (i + 1) _ (by omega) hb)
theorem wiLeast_ev (l : List Int) (hl : l.length = 8) : Ev (fun k => spec_wiLeast.f k l) (leastW l 3 1 l) := by
  unfold spec_wiLeast.f
  exact Ev.bs (l1Own_eq l (by omega)) (specLeast_l0 l hl 3 1 l (by omega) hl)
theorem implLeast_l0 (l : List Int) (hl : l.length = 8) : ∀ (d i : Nat) (best : List Int), i + d = 4 → best.length = 8 → Ev (fun k => impl_leastWindow.l0 k l best (i : Int)) (leastW l d i best) := by
  intro d
  induction d with
  | zero =>
    intro i best hi hb
    refine Ev.succ ?_
    simp only [impl_leastWindow.l0]
    exact Ev.neg (by omega) (Ev.ret rfl)
  | succ d ih =>
    intro i best hi hb
    refine Ev.succ ?_
    have hs := spn_len l i (by omega)
    simp only [impl_leastWindow.l0]
    rw [w64' (n := (i : Int) + 1) (m := ((i + 1 : Nat) : Int)) (by omega) (by omega) (by omega)]
    obtain ⟨r, h1, h2⟩ := compare_ev (spn l i) best (by omega) (by omega)
    refine Ev.pos (by omega) (Ev.bd (spun_ev l i hl (by omega)) (Ev.bd h2 ?_))
    unfold leastW
    by_cases c : lexB (spn l i) best = true
    · rw [if_pos c]; rw [c] at h1; exact Ev.pos (of_decide_eq_true h1) (ih (i + 1) _ (by omega) (by omega))
    · rw [if_neg c]; rw [Bool.eq_false_iff.2 c] at h1; exact Ev.neg (of_decide_eq_false h1) (ih (i + 1) _ (by omega) hb)
theorem leastWindow_ev (l : List Int) (hl : l.length = 8) : Ev (fun k => impl_leastWindow.f k l) (leastW l 3 1 l) := by
  unfold impl_leastWindow.f
  have h := spun_ev l 0 hl (by omega)
  have e : spn l 0 = l := by unfold spn; simp
  rw [e] at h
  exact Ev.bd h (implLeast_l0 l hl 3 1 l (by omega) hl)
end Go.Proofs.Ytbkaedmabdgdhaa.Pure
