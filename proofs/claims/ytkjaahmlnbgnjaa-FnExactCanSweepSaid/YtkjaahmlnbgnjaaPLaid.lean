/- The row behind a move: what impl.moved, other, laid answer. -/
import Derived.Test.YtkjaahmlnbgnjaaG3
import Derived.Test.YtkjaahmlnbgnjaaPDelF
import Derived.Test.YtkjaahmlnbgnjaaMMoved
import Derived.Test.YtkjaahmlnbgnjaaPEv
import Derived.Test.YtkjaahmlnbgnjaaMGrowInt
import Derived.Test.YtkjaahmlnbgnjaaG1
namespace Go.Proofs.Ytkjaahmlnbgnjaa.Pure
open Go.RowKit Go.Proofs.Ytkjaahmlnbgnjaa.Hd Go.Proofs.YtkjaahmlnbgnjaaW.PrintWords Go.Proofs.YtkjaahmlnbgnjaaW.PrintLast
set_option linter.unusedVariables false
set_option linter.unusedSimpArgs false
theorem rdR_at {l : List (List Int)} {i : Nat} (h : i < l.length) : rd_i64s l (i : Int) = l[i] := by simp [rd_i64s, h]
theorem flat_take (l : List (List Int)) (i : Nat) (h : i < l.length) : (l.take (i + 1)).flatten = (l.take i).flatten ++ l[i] := by
  rw [List.take_succ_eq_append_getElem h, List.flatten_append]; simp
theorem flat_le (l : List (List Int)) (i : Nat) : (l.take i).flatten.length ≤ l.flatten.length := by
  conv => rhs; rw [← List.take_append_drop i l, List.flatten_append, List.length_append]
  omega
theorem concat_l1 (l : List (List Int)) (hl : l.length ≤ 1048576) (hf : l.flatten.length < 8796093022208) : ∀ (d i : Nat), i + d = l.length →
    Ev (fun k => slices_Concat_int_int.l1 k (l.take i).flatten l (l.length : Int) (i : Int)) l.flatten := by
  intro d
  induction d with
  | zero =>
    intro i hi
    refine Ev.succ ?_
    simp only [slices_Concat_int_int.l1]
    exact Ev.neg (by omega) (Ev.ret (by rw [List.take_of_length_le (by omega)]))
  | succ d ih =>
    intro i hi
    refine Ev.succ ?_
    have hlt : i < l.length := by omega
    have h1 := flat_take l i hlt
    have h2 := flat_le l (i + 1)
    simp only [slices_Concat_int_int.l1]
    rw [w64' (n := (i : Int) + 1) (m := ((i + 1 : Nat) : Int)) (by omega) (by omega) (by omega), rdR_at hlt, ← h1]
    refine Ev.pos (by omega) (Ev.pos (by omega) (Ev.pos (by omega) (Ev.pos ?_ (ih (i + 1) (by omega)))))
    rw [h1, List.length_append] at h2
    omega
theorem concat_l0 (l : List (List Int)) (hl : l.length ≤ 1048576) (hf : l.flatten.length < 8796093022208) : ∀ (d i : Nat), i + d = l.length →
    Ev (fun k => slices_Concat_int_int.l0 k l (((l.take i).flatten.length : Nat) : Int) l (l.length : Int) (i : Int)) l.flatten := by
  intro d
  induction d with
  | zero =>
    intro i hi
    refine Ev.succ ?_
    simp only [slices_Concat_int_int.l0]
    have h2 := flat_le l i
    refine Ev.neg (by omega) (Ev.bs (a := []) ?_ (concat_l1 l hl hf l.length 0 (by omega)))
    unfold slices_Grow_int_int.f
    rw [if_pos (by omega), if_pos (by omega)]
  | succ d ih =>
    intro i hi
    refine Ev.succ ?_
    have hlt : i < l.length := by omega
    have h1 := congrArg List.length (flat_take l i hlt)
    rw [List.length_append] at h1
    have h2 := flat_le l (i + 1)
    simp only [slices_Concat_int_int.l0]
    rw [w64' (n := (i : Int) + 1) (m := ((i + 1 : Nat) : Int)) (by omega) (by omega) (by omega), rdR_at hlt, w64' (n := (((l.take i).flatten.length : Nat) : Int) + (l[i].length : Int)) (m := (((l.take (i + 1)).flatten.length : Nat) : Int)) (by omega) (by omega) (by omega)]
    exact Ev.pos (by omega) (Ev.pos (by omega) (Ev.pos (by omega) (Ev.neg (by omega) (ih (i + 1) (by omega)))))
theorem concat_ev (l : List (List Int)) (hl : l.length ≤ 1048576) (hf : l.flatten.length < 8796093022208) : Ev (fun k => slices_Concat_int_int.f k l) l.flatten := by
  unfold slices_Concat_int_int.f
  have h := concat_l0 l hl hf l.length 0 (by omega)
  simpa using h
end Go.Proofs.Ytkjaahmlnbgnjaa.Pure
namespace Go.Proofs.Ytkjaahmlnbgnjaa.Pure
open Go.RowKit Go.Proofs.Ytkjaahmlnbgnjaa.Hd Go.Proofs.YtkjaahmlnbgnjaaW.PrintWords Go.Proofs.YtkjaahmlnbgnjaaW.PrintLast
set_option linter.unusedVariables false
set_option linter.unusedSimpArgs false
theorem moved_l : ∀ a < 10, ∀ b < 10, impl_moved.f (txt ⟨⟨((a : Nat) : Int), ((b : Nat) : Int)⟩, true, false⟩) = some ((a : Int), (b : Int)) ∧ bt (txt ⟨⟨((a : Nat) : Int), ((b : Nat) : Int)⟩, true, false⟩) 2 = 108 := of_decide_eq_true (by kernel_rfl)
theorem moved_r : ∀ a < 10, ∀ b < 10, impl_moved.f (txt ⟨⟨((a : Nat) : Int), ((b : Nat) : Int)⟩, false, false⟩) = some ((a : Int), (b : Int)) ∧ bt (txt ⟨⟨((a : Nat) : Int), ((b : Nat) : Int)⟩, false, false⟩) 2 = 114 := of_decide_eq_true (by kernel_rfl)
theorem moved_eq {x : S_plLay} (h : x.f2 = false) (hg : goodT x.f0 = true) : impl_moved.f (txt x) = some (x.f0.f0, x.f0.f1) ∧ bt (txt x) 2 = (if x.f1 = true then 108 else 114) := by
  obtain ⟨⟨a, b⟩, c, d⟩ := x
  dsimp only at h hg ⊢
  subst h
  unfold goodT at hg
  simp only [Bool.and_eq_true, decide_eq_true_eq] at hg
  obtain ⟨a, rfl⟩ := Int.eq_ofNat_of_zero_le (show 0 ≤ a by omega)
  obtain ⟨b, rfl⟩ := Int.eq_ofNat_of_zero_le (show 0 ≤ b by omega)
  cases c with
  | true => exact moved_l a (by omega) b (by omega)
  | false => exact moved_r a (by omega) b (by omega)
end Go.Proofs.Ytkjaahmlnbgnjaa.Pure
namespace Go.Proofs.Ytkjaahmlnbgnjaa.Pure
open Go.RowKit Go.Proofs.Ytkjaahmlnbgnjaa.Hd Go.Proofs.YtkjaahmlnbgnjaaW.PrintWords Go.Proofs.YtkjaahmlnbgnjaaW.PrintLast
set_option linter.unusedVariables false
set_option linter.unusedSimpArgs false
theorem other_eq {t : S_Tile} {n : Int} (hg : goodT t = true) (h : hasT t n = true) : impl_Tile_other.f t.f0 t.f1 n = some (otherN t n) := by
  unfold goodT at hg
  unfold hasT at h
  simp only [Bool.and_eq_true, Bool.or_eq_true, beq_iff_eq, decide_eq_true_eq] at hg h
  unfold impl_Tile_other.f otherN
  rw [w64' (n := t.f0 + t.f1) rfl (by omega) (by omega), w64' (n := t.f0 + t.f1 - n) rfl (by omega) (by omega)]
theorem laid_ev (r : List Int) {x : S_plLay} (h : x.f2 = false) (hg : goodT x.f0 = true) (h0 : r.length = 0 → x.f1 = true) (hh : r.length ≠ 0 → hasT x.f0 (if x.f1 = true then endA r else endB r) = true) (hr : r.length ≤ 2000000) : Ev (fun k => impl_laid.f k r (txt x)) (rowP r x) := by
  obtain ⟨hm, hb⟩ := moved_eq h hg
  have h3 := txt_lay h
  unfold impl_laid.f rowP
  refine Ev.bs hm ?_
  by_cases hl : r.length = 0
  · exact Ev.pos (by omega) (Ev.ifp hl (Ev.ret rfl))
  · refine Ev.neg (by omega) (Ev.ifn hl (Ev.bs (ends_eq hl hr) (Ev.pos (by omega) ?_)))
    have hh1 := hh hl
    by_cases hc : x.f1 = true
    · rw [if_pos hc] at hb hh1
      refine Ev.pos hb (Ev.ifp hc (Ev.bs (other_eq hg hh1) (Ev.bd (concat_ev _ (by simp) ?_) (Ev.ret (by simp)))))
      simp only [List.flatten_cons, List.flatten_nil, List.append_nil, List.length_append, List.length_singleton]; omega
    · rw [if_neg hc] at hb hh1
      refine Ev.neg (by rw [hb]; decide) (Ev.ifn hc (Ev.bs (other_eq hg hh1) (Ev.bd (concat_ev _ (by simp) ?_) (Ev.ret (by simp)))))
      simp only [List.flatten_cons, List.flatten_nil, List.append_nil, List.length_append, List.length_singleton]; omega
end Go.Proofs.Ytkjaahmlnbgnjaa.Pure
