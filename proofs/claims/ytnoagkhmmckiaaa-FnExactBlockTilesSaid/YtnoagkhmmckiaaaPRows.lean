/- The sums of the rows of a block: the reference's and the program's. -/
import Derived.Test.YtnoagkhmmckiaaaPBlock
import Derived.Test.YtnoagkhmmckiaaaG1
import Derived.Test.YtnoagkhmmckiaaaG1
namespace Go.Proofs.Ytnoagkhmmckiaaa.Pure
open Go.RowKit Go.Proofs.Ytnoagkhmmckiaaa.Hd Go.Proofs.YtnoagkhmmckiaaaW.PrintWords Go.Proofs.YtnoagkhmmckiaaaW.PrintLast
set_option linter.unusedVariables false
set_option linter.unusedSimpArgs false
def sumFrom (x : Int) (row : List Int) : Nat → Nat → Int
  | _, 0 => x
  | j, d + 1 => sumFrom (wrap64 (x + rd row (j : Int))) row (j + 1) d
def sumV (row : List Int) : Int := sumFrom 0 row 0 row.length
def rowsV (l : List (List Int)) : List Int := l.map sumV
theorem sum_l0 (row : List Int) (hr : row.length ≤ 1048576) : ∀ (d j : Nat) (x : Int), j + d = row.length → Ev (fun k => impl_sum.l0 k x row (row.length : Int) (j : Int)) (sumFrom x row j d) := by
  intro d
  induction d with
  | zero =>
    intro j x hj
    refine Ev.succ ?_
    simp only [impl_sum.l0]
    exact Ev.neg (by omega) (Ev.ret rfl)
  | succ d ih =>
    intro j x hj
    refine Ev.succ ?_
    simp only [impl_sum.l0]
    refine Ev.pos (by omega) (Ev.pos (by omega) (Ev.pos (by omega) ?_))
    rw [w64' (n := (j : Int) + 1) (m := ((j + 1 : Nat) : Int)) (by omega) (by omega) (by omega)]
    exact ih (j + 1) _ (by omega)
theorem sum_ev (row : List Int) (hr : row.length ≤ 1048576) : Ev (fun k => impl_sum.f k row) (sumV row) := by
  unfold impl_sum.f
  exact sum_l0 row hr row.length 0 0 (by omega)
theorem rowsV_take (l : List (List Int)) (i : Nat) (h : i < l.length) : rowsV (l.take (i + 1)) = rowsV (l.take i) ++ [sumV l[i]] := by
  unfold rowsV
  rw [List.take_succ_eq_append_getElem h, List.map_append]; rfl
theorem rowSums_l0 (l : List (List Int)) (hl : l.length ≤ 1048576) (hr : ∀ x ∈ l, x.length ≤ 1048576) : ∀ (d i : Nat), i + d = l.length →
    Ev (fun k => impl_rowSums.l0 k (rowsV (l.take i)) l (l.length : Int) (i : Int)) (rowsV l) := by
  intro d
  induction d with
  | zero =>
    intro i hi
    refine Ev.succ ?_
    simp only [impl_rowSums.l0]
    refine Ev.neg (by omega) (Ev.ret ?_)
    rw [List.take_of_length_le (by omega)]
  | succ d ih =>
    intro i hi
    refine Ev.succ ?_
    simp only [impl_rowSums.l0]
    have hlt : i < l.length := by omega
    refine Ev.pos (by omega) (Ev.pos (by omega) (Ev.pos (by omega) ?_))
    rw [rdR_at hlt]
    refine Ev.bd (sum_ev l[i] (hr _ (List.getElem_mem hlt))) (Ev.pos (by simp [rowsV]; omega) ?_)
    rw [w64' (m := ((i + 1 : Nat) : Int)) (by omega) (by omega) (by omega), ← rowsV_take l i hlt]
    exact ih (i + 1) (by omega)
theorem rowSums_ev (l : List (List Int)) (hl : l.length ≤ 1048576) (hr : ∀ x ∈ l, x.length ≤ 1048576) : Ev (fun k => impl_rowSums.f k l) (rowsV l) := by
  unfold impl_rowSums.f
  exact rowSums_l0 l hl hr l.length 0 (by omega)
theorem wiRows_l1 (l : List (List Int)) (i : Nat) (acc : List Int) (ha : acc.length ≤ 1048576) (hi : i < l.length) (hl : l.length ≤ 1048576) (row : List Int) (hr : row.length ≤ 1048576) (v : List Int)
    (K : ∀ x : Int, x = sumV row → Ev (fun k => spec_wiRows.l0 k (acc ++ [x]) l (l.length : Int) ((i + 1 : Nat) : Int)) v) : ∀ (d j : Nat) (x : Int), j + d = row.length → sumFrom x row j d = sumV row →
    Ev (fun k => spec_wiRows.l1 k acc x l (l.length : Int) (i : Int) row (row.length : Int) (j : Int)) v := by
  intro d
  induction d with
  | zero =>
    intro j x hj hx
    refine Ev.succ ?_
    simp only [spec_wiRows.l1]
    refine Ev.neg (by omega) (Ev.pos (by omega) ?_)
    rw [w64' (m := ((i + 1 : Nat) : Int)) (by omega) (by omega) (by omega)]
    exact K x hx
  | succ d ih =>
    intro j x hj hx
    refine Ev.succ ?_
    simp only [spec_wiRows.l1]
    refine Ev.pos (by omega) (Ev.pos (by omega) (Ev.pos (by omega) ?_))
    rw [w64' (n := (j : Int) + 1) (m := ((j + 1 : Nat) : Int)) (by omega) (by omega) (by omega)]
    exact ih (j + 1) _ (by omega) hx
theorem wiRows_l0 (l : List (List Int)) (hl : l.length ≤ 1048576) (hr : ∀ x ∈ l, x.length ≤ 1048576) : ∀ (d i : Nat), i + d = l.length →
    Ev (fun k => spec_wiRows.l0 k (rowsV (l.take i)) l (l.length : Int) (i : Int)) (rowsV l) := by
  intro d
  induction d with
  | zero =>
    intro i hi
    refine Ev.succ ?_
    simp only [spec_wiRows.l0]
    refine Ev.neg (by omega) (Ev.ret ?_)
    rw [List.take_of_length_le (by omega)]
  | succ d ih =>
    intro i hi
    refine Ev.succ ?_
    simp only [spec_wiRows.l0]
    have hlt : i < l.length := by omega
    refine Ev.pos (by omega) (Ev.pos (by omega) (Ev.pos (by omega) ?_))
    rw [rdR_at hlt]
    refine wiRows_l1 l i _ (by simp [rowsV]; omega) hlt hl l[i] (hr _ (List.getElem_mem hlt)) _ (fun x hx => ?_) l[i].length 0 0 (by omega) rfl
    rw [hx, ← rowsV_take l i hlt]
    exact ih (i + 1) (by omega)
theorem wiRows_ev (l : List (List Int)) (hl : l.length ≤ 1048576) (hr : ∀ x ∈ l, x.length ≤ 1048576) : Ev (fun k => spec_wiRows.f k l) (rowsV l) := by
  unfold spec_wiRows.f
  exact wiRows_l0 l hl hr l.length 0 (by omega)
theorem rowsV_len (l : List (List Int)) : (rowsV l).length = l.length := by simp [rowsV]
theorem block_le {l : List (List Int)} (h : blockB l = true) : 1 ≤ l.length ∧ l.length ≤ 3 ∧ l.all (rowOk ((rd_i64s l 0).length : Int)) = true := by
  simp only [blockB, Bool.and_eq_true, inB, decide_eq_true_eq] at h
  exact ⟨by omega, by omega, h.2.1⟩
theorem block_row {l : List (List Int)} (h : blockB l = true) : ∀ x ∈ l, x.length ≤ 4 ∧ x.length = (rd_i64s l 0).length := by
  intro x hx
  have := List.all_eq_true.1 (block_le h).2.2 x hx
  exact ⟨(rowOk_even this).2.1, by simp only [rowOk, Bool.and_eq_true, decide_eq_true_eq] at this; omega⟩
end Go.Proofs.Ytnoagkhmmckiaaa.Pure
