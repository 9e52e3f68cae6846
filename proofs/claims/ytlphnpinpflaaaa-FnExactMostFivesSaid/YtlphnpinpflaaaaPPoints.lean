/- Sums and points of a spread's state, the program's side. -/
import Derived.Test.YtlphnpinpflaaaaMLyEx
import Derived.Test.YtlphnpinpflaaaaPBoth
import Derived.Test.YtlphnpinpflaaaaG0
namespace Go.Proofs.Ytlphnpinpflaaaa.Pure
open Go.RowKit Go.Proofs.Ytlphnpinpflaaaa.Hd Go.Proofs.YtlphnpinpflaaaaW.PrintWords Go.Proofs.YtlphnpinpflaaaaW.PrintLast
set_option linter.unusedVariables false
set_option linter.unusedSimpArgs false
theorem pips_l0 (ti : List S_Tile) (hl : ti.length ≤ 1048576) (hb : ∀ t ∈ ti, 0 ≤ t.f0 ∧ t.f0 ≤ 9 ∧ 0 ≤ t.f1 ∧ t.f1 ≤ 9) : ∀ (d i : Nat) (a : Int), i + d = ti.length → 0 ≤ a → a ≤ 18 * (i : Int) → Ev (fun k => impl_pips.l0 k a ti (ti.length : Int) (i : Int)) (a + ((ti.drop i).map fun t => t.f0 + t.f1).sum) := by
  intro d
  induction d with
  | zero =>
    intro i a hi h0 h1
    refine Ev.succ ?_
    simp only [impl_pips.l0]
    rw [List.drop_eq_nil_of_le (by omega)]
    exact Ev.neg (by omega) (Ev.ret (by simp))
  | succ d ih =>
    intro i a hi h0 h1
    refine Ev.succ ?_
    simp only [impl_pips.l0]
    have hlt : i < ti.length := by omega
    have hr : rd_Tile ti (i : Int) = ti[i] := by unfold rd_Tile; simp [hlt]
    have hb1 := hb ti[i] (List.getElem_mem hlt)
    rw [w64' (n := (i : Int) + 1) (m := ((i + 1 : Nat) : Int)) (by omega) (by omega) (by omega), hr, w64' (n := ti[i].f0 + ti[i].f1) rfl (by omega) (by omega), w64' (n := a + (ti[i].f0 + ti[i].f1)) rfl (by omega) (by omega)]
    have h3 := ih (i + 1) (a + (ti[i].f0 + ti[i].f1)) (by omega) (by omega) (by omega)
    rw [List.drop_eq_getElem_cons hlt, List.map_cons, List.sum_cons]
    rw [Int.add_assoc a] at h3
    exact Ev.pos (by omega) (Ev.pos (by omega) (Ev.pos (by omega) h3))
theorem armsSum_drop (l : List S_Arm) (i : Nat) (h : i < l.length) : armsSum (l.drop i) = armVal l[i] + armsSum (l.drop (i + 1)) := by
  unfold armsSum
  rw [List.drop_eq_getElem_cons h, List.map_cons, List.sum_cons]
theorem sum_l0 (ar : List S_Arm) (hl : ar.length ≤ 1048576) (hb : ∀ a ∈ ar, -1 ≤ a.f0 ∧ a.f0 ≤ 9) : ∀ (d i : Nat) (a : Int), i + d = ar.length → -2 * (i : Int) ≤ a → a ≤ 18 * (i : Int) → Ev (fun k => impl_spread_sum.l0 k a ar (ar.length : Int) (i : Int)) (a + armsSum (ar.drop i)) := by
  intro d
  induction d with
  | zero =>
    intro i a hi h0 h1
    refine Ev.succ ?_
    simp only [impl_spread_sum.l0]
    rw [List.drop_eq_nil_of_le (by omega)]
    exact Ev.neg (by omega) (Ev.ret (by simp [armsSum]))
  | succ d ih =>
    intro i a hi h0 h1
    refine Ev.succ ?_
    simp only [impl_spread_sum.l0]
    have hlt : i < ar.length := by omega
    have hr : rd_Arm ar (i : Int) = ar[i] := by unfold rd_Arm; simp [hlt]
    have hb1 := hb ar[i] (List.getElem_mem hlt)
    rw [w64' (n := (i : Int) + 1) (m := ((i + 1 : Nat) : Int)) (by omega) (by omega) (by omega), hr, armsSum_drop ar i hlt, ← Int.add_assoc]
    refine Ev.pos (by omega) (Ev.pos (by omega) (Ev.pos (by omega) ?_))
    by_cases h2 : ar[i].f2 = true
    · have e : armVal ar[i] = 0 := by unfold armVal; rw [if_pos h2]
      rw [e]
      exact Ev.pos h2 (ih (i + 1) (a + 0) (by omega) (by omega) (by omega) |> fun h => by rw [Int.add_zero] at h ⊢; exact h)
    · refine Ev.neg h2 ?_
      cases h3 : ar[i].f1 with
      | true =>
        have e : armVal ar[i] = 2 * ar[i].f0 := by unfold armVal; rw [if_neg h2, if_pos h3]
        rw [e]
        refine Ev.bs (a := 1) (by unfold impl_bit.f; simp) ?_
        rw [w64' (n := 1 + 1) (m := 2) rfl (by omega) (by omega), w64' (n := ar[i].f0 * 2) (m := 2 * ar[i].f0) (by omega) (by omega) (by omega), w64' (n := a + 2 * ar[i].f0) rfl (by omega) (by omega)]
        exact ih (i + 1) (a + 2 * ar[i].f0) (by omega) (by omega) (by omega)
      | false =>
        have e : armVal ar[i] = ar[i].f0 := by unfold armVal; rw [if_neg h2, if_neg (by rw [h3]; simp)]
        rw [e]
        refine Ev.bs (a := 0) (by unfold impl_bit.f; simp) ?_
        rw [w64' (n := 1 + 0) (m := 1) rfl (by omega) (by omega), w64' (n := ar[i].f0 * 1) (m := ar[i].f0) (by omega) (by omega) (by omega), w64' (n := a + ar[i].f0) rfl (by omega) (by omega)]
        exact ih (i + 1) (a + ar[i].f0) (by omega) (by omega) (by omega)
theorem spSum_ev {l : LySt} {n : Nat} (hok : LyOk l n) (hn : n ≤ 28) (sp : Int) (w0 w1 : Bool) : Ev (fun k => impl_spread_sum.f k l.ar l.ti sp w0 w1) (lySumF l) := by
  have har := hok.ar
  unfold impl_spread_sum.f lySumF
  by_cases h : l.ti.length = 1
  · refine Ev.pos (by omega) (Ev.ifp h ?_)
    unfold impl_pips.f
    obtain ⟨t, ht⟩ : ∃ t, l.ti = [t] := by
      match l.ti, h with
      | [t], _ => exact ⟨t, rfl⟩
    have h2 := pips_l0 l.ti (by omega) hok.tiles l.ti.length 0 0 (by omega) (by omega) (by omega)
    have e : (0 : Int) + ((l.ti.drop 0).map fun t => t.f0 + t.f1).sum = (rd_Tile l.ti 0).f0 + (rd_Tile l.ti 0).f1 := by rw [ht]; simp [rd_Tile]
    rw [e] at h2
    exact Ev.bd h2 (Ev.ret rfl)
  · refine Ev.neg (by omega) (Ev.ifn h ?_)
    have h2 := sum_l0 l.ar (by omega) hok.ends l.ar.length 0 0 (by omega) (by omega) (by omega)
    rw [List.drop_zero, Int.zero_add] at h2
    exact h2
theorem spPoints_ev {l : LySt} {n : Nat} (hok : LyOk l n) (hn : n ≤ 28) (sp : Int) (w0 w1 : Bool) : Ev (fun k => impl_spread_points.f k l.ar l.ti sp w0 w1) (lyPointsF l) := by
  unfold impl_spread_points.f lyPointsF
  refine Ev.bd (spSum_ev hok hn sp w0 w1) ?_
  by_cases h : (lySumF l).tmod 5 = 0
  · exact Ev.pos h (Ev.ifp h (Ev.ret rfl))
  · exact Ev.neg h (Ev.ifn h (Ev.ret rfl))
end Go.Proofs.Ytlphnpinpflaaaa.Pure
