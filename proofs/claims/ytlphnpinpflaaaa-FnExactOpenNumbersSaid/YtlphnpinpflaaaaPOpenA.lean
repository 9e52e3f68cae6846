/- OpenNumbers: the numbers at the arms' ends, in plain words. -/
import Derived.Test.YtlphnpinpflaaaaPBoth
import Derived.Test.YtlphnpinpflaaaaG2
namespace Go.Proofs.Ytlphnpinpflaaaa.Pure
open Go.RowKit Go.Proofs.Ytlphnpinpflaaaa.Hd Go.Proofs.YtlphnpinpflaaaaW.PrintWords Go.Proofs.YtlphnpinpflaaaaW.PrintLast
set_option linter.unusedVariables false
set_option linter.unusedSimpArgs false
def opnB (ar : List S_Arm) (x : Int) : Bool := ar.any fun a => a.f0 == x
def opn (ar : List S_Arm) (n : Nat) : List Int := ((List.range n).map fun x : Nat => (x : Int)).filter (opnB ar)
def opnA (ar : List S_Arm) (i j : Nat) : List Int := opn ar i ++ if opnB (ar.take j) (i : Int) = true then [(i : Int)] else []
theorem opn_next (ar : List S_Arm) (i : Nat) : opn ar (i + 1) = opn ar i ++ if opnB ar (i : Int) = true then [(i : Int)] else [] := by
  unfold opn
  rw [List.range_succ, List.map_append, List.filter_append]
  congr 1
  simp only [List.map_cons, List.map_nil, List.filter_cons, List.filter_nil]
theorem opn_mem (ar : List S_Arm) (n : Nat) (x : Int) : x ∈ opn ar n ↔ 0 ≤ x ∧ x < n ∧ opnB ar x = true := by
  unfold opn
  rw [List.mem_filter, List.mem_map]
  constructor
  · rintro ⟨⟨a, h1, rfl⟩, h2⟩
    have := List.mem_range.1 h1
    exact ⟨by omega, by omega, h2⟩
  · rintro ⟨h1, h2, h3⟩
    exact ⟨⟨x.toNat, List.mem_range.2 (by omega), by omega⟩, h3⟩
theorem opn_len (ar : List S_Arm) (n : Nat) : (opn ar n).length ≤ n := by
  unfold opn
  refine Nat.le_trans (List.length_filter_le _ _) ?_
  simp
theorem opnA_len (ar : List S_Arm) (i j : Nat) : (opnA ar i j).length ≤ i + 1 := by
  have := opn_len ar i
  unfold opnA
  split <;> simp <;> omega
theorem opnA_0 (ar : List S_Arm) (i : Nat) : opnA ar i 0 = opn ar i := by simp [opnA, opnB]
theorem opnA_all (ar : List S_Arm) (i : Nat) : opnA ar i ar.length = opn ar (i + 1) := by rw [opn_next]; unfold opnA; rw [List.take_length]
theorem opnB_next (ar : List S_Arm) (j : Nat) (h : j < ar.length) (x : Int) : opnB (ar.take (j + 1)) x = (opnB (ar.take j) x || ((rd_Arm ar (j : Int)).f0 == x)) := by
  unfold opnB
  rw [List.take_succ_eq_append_getElem h, List.any_append]
  simp [rd_Arm, h]
theorem opnA_no (ar : List S_Arm) (i j : Nat) (h : j < ar.length) (hb : ((rd_Arm ar (j : Int)).f0 == (i : Int)) = false) : opnA ar i j = opnA ar i (j + 1) := by
  unfold opnA
  rw [opnB_next ar j h, hb, Bool.or_false]
theorem opnA_has (ar : List S_Arm) (i j : Nat) : decide ((i : Int) ∈ opnA ar i j) = opnB (ar.take j) (i : Int) := by
  unfold opnA
  cases hb : opnB (ar.take j) (i : Int) with
  | true => simp
  | false =>
    rw [if_neg (by simp), List.append_nil, decide_eq_false_iff_not, opn_mem]
    omega
theorem opnA_old (ar : List S_Arm) (i j : Nat) (h : j < ar.length) (hb : ((rd_Arm ar (j : Int)).f0 == (i : Int)) = true) (hm : decide ((i : Int) ∈ opnA ar i j) = true) : opnA ar i j = opnA ar i (j + 1) := by
  rw [opnA_has] at hm
  unfold opnA
  rw [opnB_next ar j h, hb, hm]; rfl
theorem opnA_new (ar : List S_Arm) (i j : Nat) (h : j < ar.length) (hb : ((rd_Arm ar (j : Int)).f0 == (i : Int)) = true) (hm : decide ((i : Int) ∈ opnA ar i j) = false) : opnA ar i j ++ [(i : Int)] = opnA ar i (j + 1) := by
  rw [opnA_has] at hm
  unfold opnA
  rw [opnB_next ar j h, hb, hm]; simp
theorem has_l0 (l : List Int) (hl : l.length ≤ 8388608) (x : Int) : ∀ (d i : Nat), i + d = l.length → Ev (fun k => spec_l1Has.l0 k x l (l.length : Int) (i : Int)) (decide (x ∈ l.drop i)) := by
  intro d
  induction d with
  | zero =>
    intro i hi
    refine Ev.succ ?_
    simp only [spec_l1Has.l0]
    rw [List.drop_eq_nil_of_le (by omega)]
    exact Ev.neg (by omega) (Ev.ret (by simp))
  | succ d ih =>
    intro i hi
    refine Ev.succ ?_
    simp only [spec_l1Has.l0]
    have hlt : i < l.length := by omega
    rw [w64' (m := ((i + 1 : Nat) : Int)) (by omega) (by omega) (by omega), rd_at hlt, List.drop_eq_getElem_cons hlt]
    refine Ev.pos (by omega) (Ev.pos (by omega) (Ev.pos (by omega) ?_))
    by_cases h : l[i] = x
    · exact Ev.pos h (Ev.ret (by simp [h]))
    · refine Ev.neg h ?_
      have h2 := ih (i + 1) (by omega)
      have h3 : decide (x ∈ l[i] :: l.drop (i + 1)) = decide (x ∈ l.drop (i + 1)) := by
        rw [decide_eq_decide, List.mem_cons]
        exact ⟨fun q => q.elim (fun q => absurd q.symm h) id, .inr⟩
      rw [h3]; exact h2
theorem has_ev (l : List Int) (hl : l.length ≤ 8388608) (x : Int) : Ev (fun k => spec_l1Has.f k l x) (decide (x ∈ l)) := by
  have := has_l0 l hl x l.length 0 (by omega)
  rw [List.drop_zero] at this
  exact this
end Go.Proofs.Ytlphnpinpflaaaa.Pure
