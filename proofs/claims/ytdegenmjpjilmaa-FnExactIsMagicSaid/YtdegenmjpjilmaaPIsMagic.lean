/- IsMagic: the reference's and the program's answer (plain Lean). -/
import Derived.Test.YtdegenmjpjilmaaPColumns
import Derived.Test.YtdegenmjpjilmaaMMagic
import Derived.Test.YtdegenmjpjilmaaPLawIntSS
import Derived.Test.YtdegenmjpjilmaaG1
import Derived.Test.YtdegenmjpjilmaaG3
import Derived.Test.YtdegenmjpjilmaaG1
namespace Go.Proofs.Ytdegenmjpjilmaa.Pure
open Go.RowKit Go.Proofs.Ytdegenmjpjilmaa.Hd Go.Proofs.YtdegenmjpjilmaaW.PrintWords Go.Proofs.YtdegenmjpjilmaaW.PrintLast
set_option linter.unusedVariables false
set_option linter.unusedSimpArgs false
def allEq (r : List Int) : Bool := r.all fun x => decide (x = rd r 0)
theorem equal_l0 (r : List Int) (hl : r.length ≤ 1048576) : ∀ (d i : Nat), i + d = r.length → (r.take i).all (fun x => decide (x = rd r 0)) = true →
    Ev (fun k => spec_wiEqual.l0 k r r (r.length : Int) (i : Int)) (allEq r) := by
  intro d
  induction d with
  | zero =>
    intro i hi ha
    refine Ev.succ ?_
    simp only [spec_wiEqual.l0]
    refine Ev.neg (by omega) (Ev.ret ?_)
    rw [List.take_of_length_le (by omega)] at ha
    exact ha.symm
  | succ d ih =>
    intro i hi ha
    refine Ev.succ ?_
    simp only [spec_wiEqual.l0]
    have hlt : i < r.length := by omega
    refine Ev.pos (by omega) (Ev.pos (by omega) (Ev.pos (by omega) (Ev.pos (by omega) ?_)))
    rw [rd_at hlt]
    by_cases c : r[i] = rd r 0
    · refine Ev.pos c ?_
      rw [w64' (m := ((i + 1 : Nat) : Int)) (by omega) (by omega) (by omega)]
      exact ih (i + 1) (by omega) (all_take_succ hlt ha (decide_eq_true c))
    · exact Ev.neg c (Ev.ret (all_not (p := fun x => decide (x = rd r 0)) hlt (decide_eq_false c)).symm)
theorem equal_ev (r : List Int) (hl : r.length ≤ 1048576) : Ev (fun k => spec_wiEqual.f k r) (allEq r) := by
  unfold spec_wiEqual.f
  exact equal_l0 r hl r.length 0 (by omega) (by simp)
theorem one_all (r : List Int) (h : 0 < r.length) : one r = allEq r := by
  obtain ⟨m, hm⟩ : ∃ m, r.length = m + 1 := ⟨r.length - 1, by omega⟩
  have kz : Lib.keeps r.toArray 0 = true := by simp [Lib.keeps]
  have e : (Lib.compact r).length = 1 + ((List.range m).filter fun j => Lib.keeps r.toArray (j + 1)).length := by
    unfold Lib.compact Lib.compactUpTo
    rw [List.length_map, hm, List.range_succ_eq_map, List.filter_cons, if_pos kz, List.length_cons, List.filter_map, List.length_map]
    exact Nat.add_comm _ _
  have ks : ∀ j, j < m → Lib.keeps r.toArray (j + 1) = !decide (rd r ((j + 1 : Nat) : Int) = rd r (j : Int)) := by
    intro j hj
    rw [rd_at (by omega), rd_at (by omega)]
    have h1 : j + 1 < r.length := by omega
    have h2 : j < r.length := by omega
    simp [Lib.keeps, h1, h2]
  rw [Bool.eq_iff_iff]
  unfold one allEq
  rw [beq_iff_eq, List.all_eq_true]
  constructor
  · intro q
    have q0 : ((List.range m).filter fun j => Lib.keeps r.toArray (j + 1)).length = 0 := by omega
    have q1 := List.eq_nil_of_length_eq_zero q0
    rw [List.filter_eq_nil_iff] at q1
    have st : ∀ j, j < m → rd r ((j + 1 : Nat) : Int) = rd r (j : Int) := by
      intro j hj
      have := q1 j (List.mem_range.2 hj)
      rw [ks j hj] at this
      simpa using this
    have all : ∀ j, j < m + 1 → rd r (j : Int) = rd r 0 := by
      intro j
      induction j with
      | zero => intro _; rfl
      | succ j ih => intro hj; rw [st j (by omega)]; exact ih (by omega)
    intro x hx
    obtain ⟨i, hi, rfl⟩ := List.mem_iff_getElem.1 hx
    rw [decide_eq_true_eq, ← rd_at hi]
    exact all i (by omega)
  · intro q
    have all : ∀ j, j < m + 1 → rd r (j : Int) = rd r 0 := by
      intro j hj
      have hj2 : j < r.length := by omega
      rw [rd_at hj2]
      simpa using q r[j] (List.getElem_mem hj2)
    have q1 : ((List.range m).filter fun j => Lib.keeps r.toArray (j + 1)) = [] := by
      rw [List.filter_eq_nil_iff]
      intro j hj
      have hj := List.mem_range.1 hj
      rw [ks j hj, all (j + 1) (by omega), all j (by omega)]
      simp
    rw [e, q1]; rfl
def magicB (l : List (List Int)) : Bool := allEq (rowsV l) && allEq (colsV l)
theorem isMagic_ev {l : List (List Int)} (h : blockB l = true) : Ev (fun k => impl_isMagic.f k l) (magicB l) := by
  have hb := block_le h
  have hr := block_row h
  have hrl := rowsV_len l
  have hcl := colsV_len l
  have h0 : rd_i64s l 0 ∈ l := by
    have e : rd_i64s l ((0 : Nat) : Int) = l[0] := rdR_at (by omega)
    have e2 : rd_i64s l 0 = l[0] := e
    rw [e2]; exact List.getElem_mem (by omega)
  have h02 := List.all_eq_true.1 hb.2.2 _ h0
  have hpos : 0 < (rd_i64s l 0).length := by
    simp only [rowOk, Bool.and_eq_true, Bool.or_eq_true, decide_eq_true_eq] at h02
    omega
  unfold impl_isMagic.f magicB
  refine Ev.bd (rowSums_ev l (by omega) (fun x hx => by have := hr x hx; omega)) ?_
  rw [one_all _ (by omega)]
  by_cases c : allEq (rowsV l) = true
  · refine Ev.pos c ?_
    rw [c, Bool.true_and]
    obtain ⟨k, hk⟩ := columnSums_ev h
    exact ⟨k, fun j hj => by simp only [hk j hj, Option.map_some, one_all _ (show 0 < (colsV l).length by omega)]⟩
  · refine Ev.neg c (Ev.ret ?_)
    rw [Bool.eq_false_iff.2 c, Bool.false_and]
def resIsMagic (l : List (List Int)) : Bool × Bool := if blockB l = true then (magicB l, true) else (false, false)
theorem specIsMagic_ev (l : List (List Int)) (hl : l.length ≤ 1048576) (hf : l.flatten.length ≤ 1048576) : Ev (fun k => spec_IsMagic.f k l) (resIsMagic l) := by
  unfold spec_IsMagic.f resIsMagic magicB
  refine Ev.bd (wiBlock_ev l (flat_row hf)) ?_
  by_cases h : blockB l = true
  · have hb := block_le h
    have hr := block_row h
    have hrl := rowsV_len l
    have hcl := colsV_len l
    have h0 : rd_i64s l 0 ∈ l := by
      have e : rd_i64s l ((0 : Nat) : Int) = l[0] := rdR_at (by omega)
      have e2 : rd_i64s l 0 = l[0] := e
      rw [e2]; exact List.getElem_mem (by omega)
    have h04 := (hr _ h0).1
    rw [if_pos h]
    refine Ev.pos h (Ev.bd (wiRows_ev l hl (flat_row hf)) (Ev.bd (equal_ev _ (by omega)) ?_))
    by_cases c : allEq (rowsV l) = true
    · refine Ev.pos c (Ev.bd (wiColumns_ev h) (Ev.bd (equal_ev _ (by omega)) (Ev.ret ?_)))
      rw [c, Bool.true_and]
    · refine Ev.neg c (Ev.ret ?_)
      rw [Bool.eq_false_iff.2 c, Bool.false_and]
  · rw [if_neg h]
    exact Ev.neg h (Ev.ret rfl)
theorem implIsMagic_ev (l : List (List Int)) (hl : l.length ≤ 1048576) (hf : l.flatten.length ≤ 1048576) : Ev (fun k => impl_IsMagic.f k l) (resIsMagic l) := by
  unfold impl_IsMagic.f resIsMagic
  refine Ev.bd (isBlock_ev l hl hf) ?_
  by_cases h : blockB l = true
  · rw [if_pos h]
    exact Ev.pos h (Ev.bd (isMagic_ev h) (Ev.ret rfl))
  · rw [if_neg h]
    exact Ev.neg h (Ev.ret rfl)
end Go.Proofs.Ytdegenmjpjilmaa.Pure
