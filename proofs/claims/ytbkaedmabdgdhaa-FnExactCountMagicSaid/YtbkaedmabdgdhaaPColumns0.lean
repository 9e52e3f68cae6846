/- The sums of columns: the program's and the reference's. -/
import Derived.Test.YtbkaedmabdgdhaaG0
import Derived.Test.YtbkaedmabdgdhaaPEqIntSS
namespace Go.Proofs.Ytbkaedmabdgdhaa.Pure
open Go.RowKit Go.Proofs.Ytbkaedmabdgdhaa.Hd Go.Proofs.YtbkaedmabdgdhaaW.PrintWords Go.Proofs.YtbkaedmabdgdhaaW.PrintLast
set_option linter.unusedVariables false
set_option linter.unusedSimpArgs false
def sumFrom (x : Int) (row : List Int) : Nat → Nat → Int
  | _, 0 => x
  | j, d + 1 => sumFrom (wrap64 (x + rd row (j : Int))) row (j + 1) d
def sumV (row : List Int) : Int := sumFrom 0 row 0 row.length
def rowsV (l : List (List Int)) : List Int := l.map sumV
theorem sum_l0 (row : List Int) (hr : row.length ≤ 1048576) : ∀ (d j : Nat) (x : Int), j + d = row.length → Ev (fun k => impl_sum.l0 k x row (row.length : Int) (j : Int)) (sumFrom x row j d) := by
  intro d
  induction d with
  | zero =>
    intro j x hj
    refine Ev.succ ?_
    simp only [impl_sum.l0]
    exact Ev.neg (by omega) (Ev.ret rfl)
  | succ d ih =>
    intro j x hj
    refine Ev.succ ?_
    simp only [impl_sum.l0]
    refine Ev.pos (by omega) (Ev.pos (by omega) (Ev.pos (by omega) ?_))
    rw [w64' (n := (j : Int) + 1) (m := ((j + 1 : Nat) : Int)) (by omega) (by omega) (by omega)]
    exact ih (j + 1) _ (by omega)
theorem sum_ev (row : List Int) (hr : row.length ≤ 1048576) : Ev (fun k => impl_sum.f k row) (sumV row) := by
  unfold impl_sum.f
  exact sum_l0 row hr row.length 0 0 (by omega)
theorem rowsV_take (l : List (List Int)) (i : Nat) (h : i < l.length) : rowsV (l.take (i + 1)) = rowsV (l.take i) ++ [sumV l[i]] := by
  unfold rowsV
  rw [List.take_succ_eq_append_getElem h, List.map_append]; rfl
theorem rowSums_l0 (l : List (List Int)) (hl : l.length ≤ 1048576) (hr : ∀ x ∈ l, x.length ≤ 1048576) : ∀ (d i : Nat), i + d = l.length →
    Ev (fun k => impl_rowSums.l0 k (rowsV (l.take i)) l (l.length : Int) (i : Int)) (rowsV l) := by
  intro d
  induction d with
  | zero =>
    intro i hi
    refine Ev.succ ?_
    simp only [impl_rowSums.l0]
    refine Ev.neg (by omega) (Ev.ret ?_)
    rw [List.take_of_length_le (by omega)]
  | succ d ih =>
    intro i hi
    refine Ev.succ ?_
    simp only [impl_rowSums.l0]
    have hlt : i < l.length := by omega
    refine Ev.pos (by omega) (Ev.pos (by omega) (Ev.pos (by omega) ?_))
    rw [rdR_at hlt]
    refine Ev.bd (sum_ev l[i] (hr _ (List.getElem_mem hlt))) (Ev.pos (by simp [rowsV]; omega) ?_)
    rw [w64' (m := ((i + 1 : Nat) : Int)) (by omega) (by omega) (by omega), ← rowsV_take l i hlt]
    exact ih (i + 1) (by omega)
theorem rowSums_ev (l : List (List Int)) (hl : l.length ≤ 1048576) (hr : ∀ x ∈ l, x.length ≤ 1048576) : Ev (fun k => impl_rowSums.f k l) (rowsV l) := by
  unfold impl_rowSums.f
  exact rowSums_l0 l hl hr l.length 0 (by omega)
theorem wiRows_l1 (l : List (List Int)) (i : Nat) (acc : List Int) (ha : acc.length ≤ 1048576) (hi : i < l.length) (hl : l.length ≤ 1048576) (row : List Int) (hr : row.length ≤ 1048576) (v : List Int)
    (K : ∀ x : Int, x = sumV row → Ev (fun k => spec_wiRows.l0 k (acc ++ [x]) l (l.length : Int) ((i + 1 : Nat) : Int)) v) : ∀ (d j : Nat) (x : Int), j + d = row.length → sumFrom x row j d = sumV row →
    Ev (fun k => spec_wiRows.l1 k acc x l (l.length : Int) (i : Int) row (row.length : Int) (j : Int)) v := by
  intro d
  induction d with
  | zero =>
    intro j x hj hx
    refine Ev.succ ?_
    simp only [spec_wiRows.l1]
    refine Ev.neg (by omega) (Ev.pos (by omega) ?_)
    rw [w64' (m := ((i + 1 : Nat) : Int)) (by omega) (by omega) (by omega)]
    exact K x hx
  | succ d ih =>
    intro j x hj hx
    refine Ev.succ ?_
    simp only [spec_wiRows.l1]
    refine Ev.pos (by omega) (Ev.pos (by omega) (Ev.pos (by omega) ?_))
    rw [w64' (n := (j : Int) + 1) (m := ((j + 1 : Nat) : Int)) (by omega) (by omega) (by omega)]
    exact ih (j + 1) _ (by omega) hx
theorem wiRows_l0 (l : List (List Int)) (hl : l.length ≤ 1048576) (hr : ∀ x ∈ l, x.length ≤ 1048576) : ∀ (d i : Nat), i + d = l.length →
    Ev (fun k => spec_wiRows.l0 k (rowsV (l.take i)) l (l.length : Int) (i : Int)) (rowsV l) := by
  intro d
  induction d with
  | zero =>
    intro i hi
    refine Ev.succ ?_
    simp only [spec_wiRows.l0]
    refine Ev.neg (by omega) (Ev.ret ?_)
    rw [List.take_of_length_le (by omega)]
  | succ d ih =>
    intro i hi
    refine Ev.succ ?_
    simp only [spec_wiRows.l0]
    have hlt : i < l.length := by omega
    refine Ev.pos (by omega) (Ev.pos (by omega) (Ev.pos (by omega) ?_))
    rw [rdR_at hlt]
    refine wiRows_l1 l i _ (by simp [rowsV]; omega) hlt hl l[i] (hr _ (List.getElem_mem hlt)) _ (fun x hx => ?_) l[i].length 0 0 (by omega) rfl
    rw [hx, ← rowsV_take l i hlt]
    exact ih (i + 1) (by omega)
theorem wiRows_ev (l : List (List Int)) (hl : l.length ≤ 1048576) (hr : ∀ x ∈ l, x.length ≤ 1048576) : Ev (fun k => spec_wiRows.f k l) (rowsV l) := by
  unfold spec_wiRows.f
  exact wiRows_l0 l hl hr l.length 0 (by omega)
theorem rowsV_len (l : List (List Int)) : (rowsV l).length = l.length := by simp [rowsV]
end Go.Proofs.Ytbkaedmabdgdhaa.Pure
namespace Go.Proofs.Ytbkaedmabdgdhaa.Pure
open Go.RowKit Go.Proofs.Ytbkaedmabdgdhaa.Hd Go.Proofs.YtbkaedmabdgdhaaW.PrintWords Go.Proofs.YtbkaedmabdgdhaaW.PrintLast
set_option linter.unusedVariables false
set_option linter.unusedSimpArgs false
/-- Rows of one length. -/
def rectL (l : List (List Int)) : Prop := (1 ≤ l.length ∧ l.length ≤ 3) ∧ ∀ x ∈ l, x.length ≤ 4 ∧ x.length = (rd_i64s l 0).length
def addFrom (row : List Int) : List Int → Nat → Nat → List Int
  | acc, _, 0 => acc
  | acc, j, d + 1 => addFrom row (acc.set j (wrap64 (rd acc (j : Int) + rd row (j : Int)))) (j + 1) d
theorem addFrom_len (row : List Int) : ∀ (d j : Nat) (acc : List Int), (addFrom row acc j d).length = acc.length
  | 0, _, _ => rfl
  | d + 1, j, acc => by simp only [addFrom]; rw [addFrom_len row d]; simp
def colsFrom : List (List Int) → List Int → List Int
  | [], acc => acc
  | x :: r, acc => colsFrom r (addFrom x acc 0 x.length)
theorem colsFrom_len : ∀ (l : List (List Int)) (acc : List Int), (colsFrom l acc).length = acc.length
  | [], _ => rfl
  | x :: r, acc => by simp only [colsFrom]; rw [colsFrom_len r, addFrom_len]
def colsV (l : List (List Int)) : List Int := colsFrom l (List.replicate (rd_i64s l 0).length 0)
theorem colsV_len (l : List (List Int)) : (colsV l).length = (rd_i64s l 0).length := by rw [colsV, colsFrom_len, List.length_replicate]
theorem impl_cols_l1 (l : List (List Int)) (i : Nat) (hi : i < l.length) (hl : l.length ≤ 1048576) (m : Nat) (row : List Int) (hr : row.length = m) (hm : m ≤ 1048576) (v : List Int) (T : List Int)
    (K : ∀ acc : List Int, acc = T → Ev (fun k => impl_columnSums.l0 k acc l (l.length : Int) ((i + 1 : Nat) : Int)) v) : ∀ (d j : Nat) (acc : List Int), j + d = row.length → acc.length = m → addFrom row acc j d = T →
    Ev (fun k => impl_columnSums.l1 k acc l (l.length : Int) (i : Int) row (row.length : Int) (j : Int)) v := by
  intro d
  induction d with
  | zero =>
    intro j acc hj ha hx
    refine Ev.succ ?_
    simp only [impl_columnSums.l1]
    refine Ev.neg (by omega) ?_
    rw [w64' (m := ((i + 1 : Nat) : Int)) (by omega) (by omega) (by omega)]
    exact K acc hx
  | succ d ih =>
    intro j acc hj ha hx
    refine Ev.succ ?_
    simp only [impl_columnSums.l1]
    refine Ev.pos (by omega) (Ev.pos (by omega) (Ev.pos (by omega) (Ev.pos (by omega) ?_)))
    rw [w64' (n := (j : Int) + 1) (m := ((j + 1 : Nat) : Int)) (by omega) (by omega) (by omega), Int.toNat_natCast]
    exact ih (j + 1) _ (by omega) (by rw [List.length_set]; exact ha) hx
theorem impl_cols_l0 (l : List (List Int)) (hl : l.length ≤ 1048576) (m : Nat) (hr : ∀ x ∈ l, x.length = m ∧ m ≤ 1048576) : ∀ (d i : Nat) (acc : List Int), i + d = l.length → acc.length = m →
    Ev (fun k => impl_columnSums.l0 k acc l (l.length : Int) (i : Int)) (colsFrom (l.drop i) acc) := by
  intro d
  induction d with
  | zero =>
    intro i acc hi ha
    refine Ev.succ ?_
    simp only [impl_columnSums.l0]
    rw [List.drop_of_length_le (by omega)]
    exact Ev.neg (by omega) (Ev.ret rfl)
  | succ d ih =>
    intro i acc hi ha
    refine Ev.succ ?_
    simp only [impl_columnSums.l0]
    have hlt : i < l.length := by omega
    have hx := hr _ (List.getElem_mem hlt)
    rw [List.drop_eq_getElem_cons hlt]
    refine Ev.pos (by omega) (Ev.pos (by omega) (Ev.pos (by omega) ?_))
    rw [rdR_at hlt]
    refine impl_cols_l1 l i hlt hl m l[i] hx.1 hx.2 _ (addFrom l[i] acc 0 l[i].length) (fun a ea => ?_) l[i].length 0 acc (by omega) ha rfl
    subst ea
    exact ih (i + 1) _ (by omega) (by rw [addFrom_len]; exact ha)
theorem spec_cols_l1 (l : List (List Int)) (i : Nat) (hi : i < l.length) (hl : l.length ≤ 1048576) (m : Nat) (row : List Int) (hr : row.length = m) (hm : m ≤ 1048576) (v : List Int) (T : List Int)
    (K : ∀ acc : List Int, acc = T → Ev (fun k => spec_wiColumns.l0 k acc l (l.length : Int) ((i + 1 : Nat) : Int)) v) : ∀ (d j : Nat) (acc : List Int), j + d = row.length → acc.length = m → addFrom row acc j d = T →
    Ev (fun k => spec_wiColumns.l1 k acc l (l.length : Int) (i : Int) row (row.length : Int) (j : Int)) v := by
  intro d
  induction d with
  | zero =>
    intro j acc hj ha hx
    refine Ev.succ ?_
    simp only [spec_wiColumns.l1]
    refine Ev.neg (by omega) ?_
    rw [w64' (m := ((i + 1 : Nat) : Int)) (by omega) (by omega) (by omega)]
    exact K acc hx
  | succ d ih =>
    intro j acc hj ha hx
    refine Ev.succ ?_
    simp only [spec_wiColumns.l1]
    refine Ev.pos (by omega) (Ev.pos (by omega) (Ev.pos (by omega) (Ev.pos (by omega) ?_)))
    rw [w64' (n := (j : Int) + 1) (m := ((j + 1 : Nat) : Int)) (by omega) (by omega) (by omega), Int.toNat_natCast]
    exact ih (j + 1) _ (by omega) (by rw [List.length_set]; exact ha) hx
theorem spec_cols_l0 (l : List (List Int)) (hl : l.length ≤ 1048576) (m : Nat) (hr : ∀ x ∈ l, x.length = m ∧ m ≤ 1048576) : ∀ (d i : Nat) (acc : List Int), i + d = l.length → acc.length = m →
    Ev (fun k => spec_wiColumns.l0 k acc l (l.length : Int) (i : Int)) (colsFrom (l.drop i) acc) := by
  intro d
  induction d with
  | zero =>
    intro i acc hi ha
    refine Ev.succ ?_
    simp only [spec_wiColumns.l0]
    rw [List.drop_of_length_le (by omega)]
    exact Ev.neg (by omega) (Ev.ret rfl)
  | succ d ih =>
    intro i acc hi ha
    refine Ev.succ ?_
    simp only [spec_wiColumns.l0]
    have hlt : i < l.length := by omega
    have hx := hr _ (List.getElem_mem hlt)
    rw [List.drop_eq_getElem_cons hlt]
    refine Ev.pos (by omega) (Ev.pos (by omega) (Ev.pos (by omega) ?_))
    rw [rdR_at hlt]
    refine spec_cols_l1 l i hlt hl m l[i] hx.1 hx.2 _ (addFrom l[i] acc 0 l[i].length) (fun a ea => ?_) l[i].length 0 acc (by omega) ha rfl
    subst ea
    exact ih (i + 1) _ (by omega) (by rw [addFrom_len]; exact ha)
theorem rd0_len {l : List (List Int)} {m : Nat} (hp : 0 < l.length) (h : ∀ x ∈ l, x.length = m) : (rd_i64s l 0).length = m := by
  have e : rd_i64s l ((0 : Nat) : Int) = l[0] := rdR_at hp
  simp only [Int.ofNat_zero, Int.natCast_zero] at e
  have e2 : rd_i64s l 0 = l[0] := e
  rw [e2]; exact h _ (List.getElem_mem hp)
theorem columnSumsR_ev {l : List (List Int)} (h : rectL l) : Ev (fun k => impl_columnSums.f k l) (colsV l) := by
  have hb := h.1
  have hr := h.2
  unfold impl_columnSums.f
  refine Ev.pos (by omega) (Ev.pos (by omega) (Ev.pos ?_ ?_))
  · have := rd0_len (m := (rd_i64s l 0).length) (by omega) (fun x hx => (hr x hx).2)
    have h0 : rd_i64s l 0 ∈ l := by
      have e : rd_i64s l ((0 : Nat) : Int) = l[0] := rdR_at (by omega)
      have e2 : rd_i64s l 0 = l[0] := e
      rw [e2]; exact List.getElem_mem (by omega)
    have := (hr _ h0).1
    omega
  · have e : (((rd_i64s l 0).length : Int) : Int).toNat = (rd_i64s l 0).length := by omega
    rw [e]
    have := impl_cols_l0 l (by omega) (rd_i64s l 0).length (fun x hx => ⟨(hr x hx).2, by have := hr x hx; omega⟩) l.length 0 (List.replicate (rd_i64s l 0).length 0) (by omega) (by simp)
    rw [List.drop_zero] at this
    exact this
theorem wiColumnsR_ev {l : List (List Int)} (h : rectL l) : Ev (fun k => spec_wiColumns.f k l) (colsV l) := by
  have hb := h.1
  have hr := h.2
  unfold spec_wiColumns.f
  refine Ev.pos (by omega) (Ev.pos (by omega) (Ev.pos ?_ ?_))
  · have h0 : rd_i64s l 0 ∈ l := by
      have e : rd_i64s l ((0 : Nat) : Int) = l[0] := rdR_at (by omega)
      have e2 : rd_i64s l 0 = l[0] := e
      rw [e2]; exact List.getElem_mem (by omega)
    have := (hr _ h0).1
    omega
  · have e : (((rd_i64s l 0).length : Int) : Int).toNat = (rd_i64s l 0).length := by omega
    rw [e]
    have := spec_cols_l0 l (by omega) (rd_i64s l 0).length (fun x hx => ⟨(hr x hx).2, by have := hr x hx; omega⟩) l.length 0 (List.replicate (rd_i64s l 0).length 0) (by omega) (by simp)
    rw [List.drop_zero] at this
    exact this
end Go.Proofs.Ytbkaedmabdgdhaa.Pure
