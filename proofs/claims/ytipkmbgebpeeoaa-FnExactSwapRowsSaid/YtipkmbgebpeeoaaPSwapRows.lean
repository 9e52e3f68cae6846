/- SwapRows: the reference's and the program's answer (plain Lean). -/
import Derived.Test.YtipkmbgebpeeoaaPSwapR
import Derived.Test.YtipkmbgebpeeoaaPLawIntSS
import Derived.Test.YtipkmbgebpeeoaaMSwapR
import Derived.Test.YtipkmbgebpeeoaaG2
namespace Go.Proofs.Ytipkmbgebpeeoaa.Pure
open Go.RowKit Go.Proofs.Ytipkmbgebpeeoaa.Hd Go.Proofs.YtipkmbgebpeeoaaW.PrintWords Go.Proofs.YtipkmbgebpeeoaaW.PrintLast
set_option linter.unusedVariables false
set_option linter.unusedSimpArgs false
theorem ownSw_eq (l : List Int) (h : l.length ≤ 2000000) : spec_l1Own.f l = some l := by
  unfold spec_l1Own.f
  rw [Option.bind_some, if_pos (by simp; omega), List.nil_append]
theorem inSw_eq (n a b : Int) : spec_l1In.f n a b = some (inB a b n) := by
  unfold spec_l1In.f inB
  by_cases h : n ≥ a
  · rw [if_pos h, decide_eq_true (show a ≤ n from h), Bool.true_and]
  · rw [if_neg h, decide_eq_false (show ¬ a ≤ n from h), Bool.false_and]
theorem swR_len (l : List (List Int)) (i j : Nat) : (swR l i j).length = l.length := by
  unfold swR
  split
  · exact swL_len _ _ _ _ _
  · rfl
theorem swR_at {l : List (List Int)} {i j : Nat} (hi : i < l.length) (hj : j < l.length) (m : Nat) (hm : m < l.length) : (swR l i j)[m]? = some (rd_i64s l (swI i j m : Nat)) := by
  unfold swR
  rw [dif_pos ⟨hi, hj⟩, swL_at l i j hi hj m hm, rdR_at (swI_lt hi hj hm)]
theorem swR_take {l : List (List Int)} {i j : Nat} (hi : i < l.length) (hj : j < l.length) (m : Nat) (hm : m < l.length) : (swR l i j).take m ++ [rd_i64s l (swI i j m : Nat)] = (swR l i j).take (m + 1) := by
  have h := swR_at hi hj m hm
  rw [List.take_add_one, h]
  rfl
theorem swapRows_l0 (l : List (List Int)) (hl : l.length ≤ 3) (hr : ∀ x ∈ l, x.length ≤ 4) (a b : Nat) (ha : a < l.length) (hb : b < l.length) : ∀ (d i : Nat), i + d = l.length →
    Ev (fun k => spec_SwapRows.l0 k l (a : Int) (b : Int) ((swR l a b).take i) (l.length : Int) (i : Int)) (swR l a b, true) := by
  intro d
  induction d with
  | zero =>
    intro i hi
    refine Ev.succ ?_
    simp only [spec_SwapRows.l0]
    refine Ev.neg (by omega) (Ev.ret ?_)
    rw [List.take_of_length_le (by rw [swR_len]; omega)]
  | succ d ih =>
    intro i hi
    have hlt : i < l.length := by omega
    have hx := rd_len hr
    have hn := ih (i + 1) (by omega)
    rw [← swR_take ha hb i hlt] at hn
    have hlen : ((swR l a b).take i).length < 5864062014805 := by rw [List.length_take, swR_len]; omega
    refine Ev.succ ?_
    simp only [spec_SwapRows.l0]
    rw [w64' (m := ((i + 1 : Nat) : Int)) (by omega) (by omega) (by omega)]
    refine Ev.pos (by omega) ?_
    by_cases h1 : i = a
    · have e : swI a b i = b := by unfold swI; rw [if_pos h1]
      rw [e] at hn
      have q := hx b hb
      exact Ev.pos (by omega) (Ev.pos (by omega) (Ev.pos (by omega) (Ev.bs (ownSw_eq _ (by omega)) (Ev.pos hlen hn))))
    · refine Ev.neg (by omega) ?_
      by_cases h2 : i = b
      · have e : swI a b i = a := by unfold swI; rw [if_neg h1, if_pos h2]
        rw [e] at hn
        have q := hx a ha
        exact Ev.pos (by omega) (Ev.pos (by omega) (Ev.pos (by omega) (Ev.bs (ownSw_eq _ (by omega)) (Ev.pos hlen hn))))
      · have e : swI a b i = i := by unfold swI; rw [if_neg h1, if_neg h2]
        rw [e] at hn
        have q := hx i hlt
        exact Ev.neg (by omega) (Ev.pos (by omega) (Ev.pos (by omega) (Ev.bs (ownSw_eq _ (by omega)) (Ev.pos hlen hn))))
theorem specSwapRows_ev (l : List (List Int)) (i j : Int) (hl : l.length ≤ 1048576) (hf : l.flatten.length ≤ 1048576) : Ev (fun k => spec_SwapRows.f k l i j) (resSwapRows l i j) := by
  unfold spec_SwapRows.f resSwapRows okSw
  refine Ev.bd (wiBlock_ev l (flat_row hf)) ?_
  rw [w64' (m := ((l.length : Int) - 1)) (by omega) (by omega) (by omega)]
  have hno : Ev (fun k => spec_SwapRows.j0 k l i j true) (([] : List (List Int)), false) := by
    refine Ev.succ ?_
    simp only [spec_SwapRows.j0]
    exact Ev.pos trivial (Ev.ret rfl)
  by_cases h : blockB l = true
  · refine Ev.pos h (Ev.bs (inSw_eq _ _ _) ?_)
    rw [h, Bool.true_and]
    by_cases h1 : inB 0 ((l.length : Int) - 1) i = true
    · refine Ev.pos h1 (Ev.bs (inSw_eq _ _ _) ?_)
      by_cases h2 : inB 0 ((l.length : Int) - 1) j = true
      · have hall : [i, j].all (inB 0 ((l.length : Int) - 1)) = true := by simp [h1, h2]
        obtain ⟨hi, hj⟩ := sw_in hall
        obtain ⟨hb1, hb2⟩ := block_rows h
        rw [if_pos hall, h2]
        refine Ev.succ ?_
        simp only [spec_SwapRows.j0]
        refine Ev.neg (by simp) ?_
        have q := swapRows_l0 l hb1 hb2 i.toNat j.toNat (by omega) (by omega) l.length 0 (by omega)
        rw [Int.toNat_of_nonneg hi.1, Int.toNat_of_nonneg hj.1] at q
        exact q
      · rw [if_neg (by simp [h1, h2]), Bool.eq_false_iff.2 h2]
        exact hno
    · rw [if_neg (by simp [h1])]
      exact Ev.neg h1 hno
  · rw [if_neg (by simp [h])]
    exact Ev.neg h hno
theorem implSwapRows_ev (l : List (List Int)) (i j : Int) (hl : l.length ≤ 1048576) (hf : l.flatten.length ≤ 1048576) : impl_SwapRows.f l i j = some (resSwapRows l i j) := by
  unfold impl_SwapRows.f
  rw [if_pos ⟨hl, hf⟩]
theorem resSwapRows_len (l : List (List Int)) (i j : Int) : (resSwapRows l i j).1.length ≤ 1048576 ∧ (resSwapRows l i j).1.flatten.length ≤ 1048576 := by
  unfold resSwapRows
  by_cases h : okSw l i j = true
  · rw [if_pos h]
    unfold okSw at h
    rw [Bool.and_eq_true] at h
    obtain ⟨hb1, hb2⟩ := block_rows h.1
    obtain ⟨hi, hj⟩ := sw_in h.2
    have hi' : i.toNat < l.length := by omega
    have hj' : j.toNat < l.length := by omega
    have hle : (swR l i.toNat j.toNat).length ≤ 3 := by rw [swR_len]; exact hb1
    have hm : ∀ x ∈ swR l i.toNat j.toNat, x.length ≤ 4 := by
      intro x hx
      obtain ⟨m, hm, rfl⟩ := List.getElem_of_mem hx
      have hm' := hm
      rw [swR_len] at hm'
      have q := swR_at hi' hj' m hm'
      rw [List.getElem?_eq_getElem hm] at q
      rw [Option.some.inj q]
      exact rd_len hb2 _ (swI_lt hi' hj' hm')
    have := flat_len _ 4 hm
    exact ⟨by show (swR l i.toNat j.toNat).length ≤ 1048576; omega, by show (swR l i.toNat j.toNat).flatten.length ≤ 1048576; omega⟩
  · rw [if_neg h]; simp
end Go.Proofs.Ytipkmbgebpeeoaa.Pure
