/- Magic lists (plain). -/
import Derived.Test.YtbkaedmabdgdhaaPWinC
import Derived.Test.YtbkaedmabdgdhaaMMgA
import Derived.Test.YtbkaedmabdgdhaaPWin0
import Derived.Test.YtbkaedmabdgdhaaG0
import Derived.Test.YtbkaedmabdgdhaaPEv
import Derived.Test.YtbkaedmabdgdhaaMCompactInt
import Derived.Test.YtbkaedmabdgdhaaPEqIntSS
namespace Go.Proofs.Ytbkaedmabdgdhaa.Pure
open Go.RowKit Go.Proofs.Ytbkaedmabdgdhaa.Hd Go.Proofs.YtbkaedmabdgdhaaW.PrintWords Go.Proofs.YtbkaedmabdgdhaaW.PrintLast
set_option linter.unusedVariables false
set_option linter.unusedSimpArgs false
def sumFrom (x : Int) (row : List Int) : Nat → Nat → Int
  | _, 0 => x
  | j, d + 1 => sumFrom (wrap64 (x + rd row (j : Int))) row (j + 1) d
def sumV (row : List Int) : Int := sumFrom 0 row 0 row.length
def rowsV (l : List (List Int)) : List Int := l.map sumV
theorem sum_l0 (row : List Int) (hr : row.length ≤ 1048576) : ∀ (d j : Nat) (x : Int), j + d = row.length → Ev (fun k => impl_sum.l0 k x row (row.length : Int) (j : Int)) (sumFrom x row j d) := by
  intro d
  induction d with
  | zero =>
    intro j x hj
    refine Ev.succ ?_
    simp only [impl_sum.l0]
    exact Ev.neg (by omega) (Ev.ret rfl)
  | succ d ih =>
    intro j x hj
    refine Ev.succ ?_
    simp only [impl_sum.l0]
    refine Ev.pos (by omega) (Ev.pos (by omega) (Ev.pos (by omega) ?_))
    rw [w64' (n := (j : Int) + 1) (m := ((j + 1 : Nat) : Int)) (by omega) (by omega) (by omega)]
    exact ih (j + 1) _ (by omega)
theorem sum_ev (row : List Int) (hr : row.length ≤ 1048576) : Ev (fun k => impl_sum.f k row) (sumV row) := by
  unfold impl_sum.f
  exact sum_l0 row hr row.length 0 0 (by omega)
theorem rowsV_take (l : List (List Int)) (i : Nat) (h : i < l.length) : rowsV (l.take (i + 1)) = rowsV (l.take i) ++ [sumV l[i]] := by
  unfold rowsV
  rw [List.take_succ_eq_append_getElem h, List.map_append]; rfl
theorem rowSums_l0 (l : List (List Int)) (hl : l.length ≤ 1048576) (hr : ∀ x ∈ l, x.length ≤ 1048576) : ∀ (d i : Nat), i + d = l.length →
    Ev (fun k => impl_rowSums.l0 k (rowsV (l.take i)) l (l.length : Int) (i : Int)) (rowsV l) := by
  intro d
  induction d with
  | zero =>
    intro i hi
    refine Ev.succ ?_
    simp only [impl_rowSums.l0]
    refine Ev.neg (by omega) (Ev.ret ?_)
    rw [List.take_of_length_le (by omega)]
  | succ d ih =>
    intro i hi
    refine Ev.succ ?_
    simp only [impl_rowSums.l0]
    have hlt : i < l.length := by omega
    refine Ev.pos (by omega) (Ev.pos (by omega) (Ev.pos (by omega) ?_))
    rw [rdR_at hlt]
    refine Ev.bd (sum_ev l[i] (hr _ (List.getElem_mem hlt))) (Ev.pos (by simp [rowsV]; omega) ?_)
    rw [w64' (m := ((i + 1 : Nat) : Int)) (by omega) (by omega) (by omega), ← rowsV_take l i hlt]
    exact ih (i + 1) (by omega)
theorem rowSums_ev (l : List (List Int)) (hl : l.length ≤ 1048576) (hr : ∀ x ∈ l, x.length ≤ 1048576) : Ev (fun k => impl_rowSums.f k l) (rowsV l) := by
  unfold impl_rowSums.f
  exact rowSums_l0 l hl hr l.length 0 (by omega)
theorem wiRows_l1 (l : List (List Int)) (i : Nat) (acc : List Int) (ha : acc.length ≤ 1048576) (hi : i < l.length) (hl : l.length ≤ 1048576) (row : List Int) (hr : row.length ≤ 1048576) (v : List Int)
    (K : ∀ x : Int, x = sumV row → Ev (fun k => spec_wiRows.l0 k (acc ++ [x]) l (l.length : Int) ((i + 1 : Nat) : Int)) v) : ∀ (d j : Nat) (x : Int), j + d = row.length → sumFrom x row j d = sumV row →
    Ev (fun k => spec_wiRows.l1 k acc x l (l.length : Int) (i : Int) row (row.length : Int) (j : Int)) v := by
  intro d
  induction d with
  | zero =>
    intro j x hj hx
    refine Ev.succ ?_
    simp only [spec_wiRows.l1]
    refine Ev.neg (by omega) (Ev.pos (by omega) ?_)
    rw [w64' (m := ((i + 1 : Nat) : Int)) (by omega) (by omega) (by omega)]
    exact K x hx
  | succ d ih =>
    intro j x hj hx
    refine Ev.succ ?_
    simp only [spec_wiRows.l1]
    refine Ev.pos (by omega) (Ev.pos (by omega) (Ev.pos (by omega) ?_))
    rw [w64' (n := (j : Int) + 1) (m := ((j + 1 : Nat) : Int)) (by omega) (by omega) (by omega)]
    exact ih (j + 1) _ (by omega) hx
theorem wiRows_l0 (l : List (List Int)) (hl : l.length ≤ 1048576) (hr : ∀ x ∈ l, x.length ≤ 1048576) : ∀ (d i : Nat), i + d = l.length →
    Ev (fun k => spec_wiRows.l0 k (rowsV (l.take i)) l (l.length : Int) (i : Int)) (rowsV l) := by
  intro d
  induction d with
  | zero =>
    intro i hi
    refine Ev.succ ?_
    simp only [spec_wiRows.l0]
    refine Ev.neg (by omega) (Ev.ret ?_)
    rw [List.take_of_length_le (by omega)]
  | succ d ih =>
    intro i hi
    refine Ev.succ ?_
    simp only [spec_wiRows.l0]
    have hlt : i < l.length := by omega
    refine Ev.pos (by omega) (Ev.pos (by omega) (Ev.pos (by omega) ?_))
    rw [rdR_at hlt]
    refine wiRows_l1 l i _ (by simp [rowsV]; omega) hlt hl l[i] (hr _ (List.getElem_mem hlt)) _ (fun x hx => ?_) l[i].length 0 0 (by omega) rfl
    rw [hx, ← rowsV_take l i hlt]
    exact ih (i + 1) (by omega)
theorem wiRows_ev (l : List (List Int)) (hl : l.length ≤ 1048576) (hr : ∀ x ∈ l, x.length ≤ 1048576) : Ev (fun k => spec_wiRows.f k l) (rowsV l) := by
  unfold spec_wiRows.f
  exact wiRows_l0 l hl hr l.length 0 (by omega)
theorem rowsV_len (l : List (List Int)) : (rowsV l).length = l.length := by simp [rowsV]
end Go.Proofs.Ytbkaedmabdgdhaa.Pure
namespace Go.Proofs.Ytbkaedmabdgdhaa.Pure
open Go.RowKit Go.Proofs.Ytbkaedmabdgdhaa.Hd Go.Proofs.YtbkaedmabdgdhaaW.PrintWords Go.Proofs.YtbkaedmabdgdhaaW.PrintLast
set_option linter.unusedVariables false
set_option linter.unusedSimpArgs false
/-- Rows of one length. -/
def rectL (l : List (List Int)) : Prop := (1 ≤ l.length ∧ l.length ≤ 3) ∧ ∀ x ∈ l, x.length ≤ 4 ∧ x.length = (rd_i64s l 0).length
def addFrom (row : List Int) : List Int → Nat → Nat → List Int
  | acc, _, 0 => acc
  | acc, j, d + 1 => addFrom row (acc.set j (wrap64 (rd acc (j : Int) + rd row (j : Int)))) (j + 1) d
theorem addFrom_len (row : List Int) : ∀ (d j : Nat) (acc : List Int), (addFrom row acc j d).length = acc.length
  | 0, _, _ => rfl
  | d + 1, j, acc => by simp only [addFrom]; rw [addFrom_len row d]; simp
def colsFrom : List (List Int) → List Int → List Int
  | [], acc => acc
  | x :: r, acc => colsFrom r (addFrom x acc 0 x.length)
theorem colsFrom_len : ∀ (l : List (List Int)) (acc : List Int), (colsFrom l acc).length = acc.length
  | [], _ => rfl
  | x :: r, acc => by simp only [colsFrom]; rw [colsFrom_len r, addFrom_len]
def colsV (l : List (List Int)) : List Int := colsFrom l (List.replicate (rd_i64s l 0).length 0)
theorem colsV_len (l : List (List Int)) : (colsV l).length = (rd_i64s l 0).length := by rw [colsV, colsFrom_len, List.length_replicate]
theorem impl_cols_l1 (l : List (List Int)) (i : Nat) (hi : i < l.length) (hl : l.length ≤ 1048576) (m : Nat) (row : List Int) (hr : row.length = m) (hm : m ≤ 1048576) (v : List Int) (T : List Int)
    (K : ∀ acc : List Int, acc = T → Ev (fun k => impl_columnSums.l0 k acc l (l.length : Int) ((i + 1 : Nat) : Int)) v) : ∀ (d j : Nat) (acc : List Int), j + d = row.length → acc.length = m → addFrom row acc j d = T →
    Ev (fun k => impl_columnSums.l1 k acc l (l.length : Int) (i : Int) row (row.length : Int) (j : Int)) v := by
  intro d
  induction d with
  | zero =>
    intro j acc hj ha hx
    refine Ev.succ ?_
    simp only [impl_columnSums.l1]
    refine Ev.neg (by omega) ?_
    rw [w64' (m := ((i + 1 : Nat) : Int)) (by omega) (by omega) (by omega)]
    exact K acc hx
  | succ d ih =>
    intro j acc hj ha hx
    refine Ev.succ ?_
    simp only [impl_columnSums.l1]
    refine Ev.pos (by omega) (Ev.pos (by omega) (Ev.pos (by omega) (Ev.pos (by omega) ?_)))
    rw [w64' (n := (j : Int) + 1) (m := ((j + 1 : Nat) : Int)) (by omega) (by omega) (by omega), Int.toNat_natCast]
    exact ih (j + 1) _ (by omega) (by rw [List.length_set]; exact ha) hx
theorem impl_cols_l0 (l : List (List Int)) (hl : l.length ≤ 1048576) (m : Nat) (hr : ∀ x ∈ l, x.length = m ∧ m ≤ 1048576) : ∀ (d i : Nat) (acc : List Int), i + d = l.length → acc.length = m →
    Ev (fun k => impl_columnSums.l0 k acc l (l.length : Int) (i : Int)) (colsFrom (l.drop i) acc) := by
  intro d
  induction d with
  | zero =>
    intro i acc hi ha
    refine Ev.succ ?_
    simp only [impl_columnSums.l0]
    rw [List.drop_of_length_le (by omega)]
    exact Ev.neg (by omega) (Ev.ret rfl)
  | succ d ih =>
    intro i acc hi ha
    refine Ev.succ ?_
    simp only [impl_columnSums.l0]
    have hlt : i < l.length := by omega
    have hx := hr _ (List.getElem_mem hlt)
    rw [List.drop_eq_getElem_cons hlt]
    refine Ev.pos (by omega) (Ev.pos (by omega) (Ev.pos (by omega) ?_))
    rw [rdR_at hlt]
    refine impl_cols_l1 l i hlt hl m l[i] hx.1 hx.2 _ (addFrom l[i] acc 0 l[i].length) (fun a ea => ?_) l[i].length 0 acc (by omega) ha rfl
    subst ea
    exact ih (i + 1) _ (by omega) (by rw [addFrom_len]; exact ha)
theorem spec_cols_l1 (l : List (List Int)) (i : Nat) (hi : i < l.length) (hl : l.length ≤ 1048576) (m : Nat) (row : List Int) (hr : row.length = m) (hm : m ≤ 1048576) (v : List Int) (T : List Int)
    (K : ∀ acc : List Int, acc = T → Ev (fun k => spec_wiColumns.l0 k acc l (l.length : Int) ((i + 1 : Nat) : Int)) v) : ∀ (d j : Nat) (acc : List Int), j + d = row.length → acc.length = m → addFrom row acc j d = T →
    Ev (fun k => spec_wiColumns.l1 k acc l (l.length : Int) (i : Int) row (row.length : Int) (j : Int)) v := by
  intro d
  induction d with
  | zero =>
    intro j acc hj ha hx
    refine Ev.succ ?_
    simp only [spec_wiColumns.l1]
    refine Ev.neg (by omega) ?_
    rw [w64' (m := ((i + 1 : Nat) : Int)) (by omega) (by omega) (by omega)]
    exact K acc hx
  | succ d ih =>
    intro j acc hj ha hx
    refine Ev.succ ?_
    simp only [spec_wiColumns.l1]
    refine Ev.pos (by omega) (Ev.pos (by omega) (Ev.pos (by omega) (Ev.pos (by omega) ?_)))
    rw [w64' (n := (j : Int) + 1) (m := ((j + 1 : Nat) : Int)) (by omega) (by omega) (by omega), Int.toNat_natCast]
    exact ih (j + 1) _ (by omega) (by rw [List.length_set]; exact ha) hx
theorem spec_cols_l0 (l : List (List Int)) (hl : l.length ≤ 1048576) (m : Nat) (hr : ∀ x ∈ l, x.length = m ∧ m ≤ 1048576) : ∀ (d i : Nat) (acc : List Int), i + d = l.length → acc.length = m →
    Ev (fun k => spec_wiColumns.l0 k acc l (l.length : Int) (i : Int)) (colsFrom (l.drop i) acc) := by
  intro d
  induction d with
  | zero =>
    intro i acc hi ha
    refine Ev.succ ?_
    simp only [spec_wiColumns.l0]
    rw [List.drop_of_length_le (by omega)]
    exact Ev.neg (by omega) (Ev.ret rfl)
  | succ d ih =>
    intro i acc hi ha
    refine Ev.succ ?_
    simp only [spec_wiColumns.l0]
    have hlt : i < l.length := by omega
    have hx := hr _ (List.getElem_mem hlt)
    rw [List.drop_eq_getElem_cons hlt]
    refine Ev.pos (by omega) (Ev.pos (by omega) (Ev.pos (by omega) ?_))
    rw [rdR_at hlt]
    refine spec_cols_l1 l i hlt hl m l[i] hx.1 hx.2 _ (addFrom l[i] acc 0 l[i].length) (fun a ea => ?_) l[i].length 0 acc (by omega) ha rfl
    subst ea
    exact ih (i + 1) _ (by omega) (by rw [addFrom_len]; exact ha)
theorem rd0_len {l : List (List Int)} {m : Nat} (hp : 0 < l.length) (h : ∀ x ∈ l, x.length = m) : (rd_i64s l 0).length = m := by
  have e : rd_i64s l ((0 : Nat) : Int) = l[0] := rdR_at hp
  simp only [Int.ofNat_zero, Int.natCast_zero] at e
  have e2 : rd_i64s l 0 = l[0] := e
  rw [e2]; exact h _ (List.getElem_mem hp)
theorem columnSumsR_ev {l : List (List Int)} (h : rectL l) : Ev (fun k => impl_columnSums.f k l) (colsV l) := by
  have hb := h.1
  have hr := h.2
  unfold impl_columnSums.f
  refine Ev.pos (by omega) (Ev.pos (by omega) (Ev.pos ?_ ?_))
  · have := rd0_len (m := (rd_i64s l 0).length) (by omega) (fun x hx => (hr x hx).2)
    have h0 : rd_i64s l 0 ∈ l := by
      have e : rd_i64s l ((0 : Nat) : Int) = l[0] := rdR_at (by omega)
      have e2 : rd_i64s l 0 = l[0] := e
      rw [e2]; exact List.getElem_mem (by omega)
    have := (hr _ h0).1
    omega
  · have e : (((rd_i64s l 0).length : Int) : Int).toNat = (rd_i64s l 0).length := by omega
    rw [e]
    have := impl_cols_l0 l (by omega) (rd_i64s l 0).length (fun x hx => ⟨(hr x hx).2, by have := hr x hx; omega⟩) l.length 0 (List.replicate (rd_i64s l 0).length 0) (by omega) (by simp)
    rw [List.drop_zero] at this
    exact this
theorem wiColumnsR_ev {l : List (List Int)} (h : rectL l) : Ev (fun k => spec_wiColumns.f k l) (colsV l) := by
  have hb := h.1
  have hr := h.2
  unfold spec_wiColumns.f
  refine Ev.pos (by omega) (Ev.pos (by omega) (Ev.pos ?_ ?_))
  · have h0 : rd_i64s l 0 ∈ l := by
      have e : rd_i64s l ((0 : Nat) : Int) = l[0] := rdR_at (by omega)
      have e2 : rd_i64s l 0 = l[0] := e
      rw [e2]; exact List.getElem_mem (by omega)
    have := (hr _ h0).1
    omega
  · have e : (((rd_i64s l 0).length : Int) : Int).toNat = (rd_i64s l 0).length := by omega
    rw [e]
    have := spec_cols_l0 l (by omega) (rd_i64s l 0).length (fun x hx => ⟨(hr x hx).2, by have := hr x hx; omega⟩) l.length 0 (List.replicate (rd_i64s l 0).length 0) (by omega) (by simp)
    rw [List.drop_zero] at this
    exact this
end Go.Proofs.Ytbkaedmabdgdhaa.Pure
namespace Go.Proofs.Ytbkaedmabdgdhaa.Hd
open Go.RowKit Go.Proofs.YtbkaedmabdgdhaaW.PrintWords Go.Proofs.YtbkaedmabdgdhaaW.PrintLast Go.Proofs.YtbkaedmabdgdhaaW.PrintMore
set_option linter.unusedVariables false
set_option linter.unusedSimpArgs false
def impl_isMagic.f (k : Nat) (l0 : List (List Int)) : Option Bool := (impl_rowSums.f k l0).bind fun a => if one a = true then (impl_columnSums.f k l0).map one else some false
set_option maxHeartbeats 2000000 in
theorem impl_isMagic.calls (k : Nat) (A0 : Option Addr) (c0 : Nat) (l0 : List (List Int)) (r : Bool) (w : World) (hr0 : Kd.C (Kd.slice 3 (Kd.int .i64)) w A0 l0.length l0) (hc0 : l0.length ≤ c0) (h : impl_isMagic.f k l0 = some r) :
    Calls Try.prog 51 #[.slice A0 l0.length c0] w fun e w' => e = .returned (.bool r) ∧ Below w.heap.size w w' := by
  have HR : Aside0 (∀ W, Below w.heap.size w W → Kd.C (Kd.slice 3 (Kd.int .i64)) W A0 l0.length l0) := ⟨fun W hb => Kd.C_below hr0 hb⟩
  obtain ⟨s, hs, h2⟩ := Option.bind_eq_some_iff.1 h
  have hcs := impl_rowSums.calls k A0 c0 l0 s w hr0 hc0 hs
  clear h hs hr0
  obtain ⟨b, hb⟩ : ∃ b, one s = b := ⟨_, rfl⟩
  rw [hb] at h2
  have hd : (((Lib.compact s).length : Int) == 1) = b := hb
  clear hb
  cases b with
  | false =>
    rw [if_neg (by simp)] at h2
    obtain rfl := Option.some.inj h2
    clear h2
    go_enter Try.func51, Try.ntmps51
    go_wp2_with (first | (go_at_call 81; refine hcs.mono ?_; rintro e w1 ⟨v, rfl, hR, hb1⟩; replace hR := Aside0.mk hR; replace hb1 := Aside0.mk hb1) | (go_at_call 39; refine (compact_own hR.out).mono ?_; rintro e w2 ⟨⟨a, c, rfl⟩, hb2⟩; replace hb2 := Aside0.mk hb2))
    all_goals first | (go_ret; exact ⟨by first | rfl | simp_all, hb1.out.trans hb2.out⟩) | (exfalso; simp_all; done)
  | true =>
    rw [if_pos rfl] at h2
    obtain ⟨s2, hs2, rfl⟩ := Option.map_eq_some_iff.1 h2
    clear h2
    replace hs2 := Aside0.mk hs2
    obtain ⟨b, hb⟩ : ∃ b, one s2 = b := ⟨_, rfl⟩
    have hd2 : (((Lib.compact s2).length : Int) == 1) = b := hb
    rw [hb]
    clear hb
    go_enter Try.func51, Try.ntmps51
    go_wp2_with (first | (go_at_call 81; refine hcs.mono ?_; rintro e w1 ⟨v, rfl, hR, hb1⟩; replace hR := Aside0.mk hR; replace hb1 := Aside0.mk hb1) | (go_at_call 39; refine (compact_own hR.out).mono ?_; rintro e w2 ⟨⟨a, c, rfl⟩, hb2⟩; replace hb2 := Aside0.mk (hb1.out.trans hb2); clear hR) | (go_at_call 82; refine (impl_columnSums.calls k A0 c0 l0 s2 _ (HR.out _ hb2.out) hc0 hs2.out).mono ?_; rintro e w3 ⟨v3, rfl, hR3, hb3⟩; replace hR3 := Aside0.mk hR3; replace hb3 := Aside0.mk (hb2.out.trans (hb3.mono hb2.out.size))) | (go_at_call 39; refine (compact_own hR3.out).mono ?_; rintro e w4 ⟨⟨a4, c4, rfl⟩, hb4⟩; replace hb4 := Aside0.mk (hb3.out.trans (hb4.mono hb2.out.size))))
    all_goals first | (go_ret; exact ⟨by first | rfl | simp_all, hb4.out⟩) | (exfalso; simp_all; done)
end Go.Proofs.Ytbkaedmabdgdhaa.Hd
namespace Go.Proofs.Ytbkaedmabdgdhaa.Pure
open Go.RowKit Go.Proofs.Ytbkaedmabdgdhaa.Hd Go.Proofs.YtbkaedmabdgdhaaW.PrintWords Go.Proofs.YtbkaedmabdgdhaaW.PrintLast
set_option linter.unusedVariables false
set_option linter.unusedSimpArgs false
theorem all_take_succ {α : Type} {p : α → Bool} {l : List α} {i : Nat} (h : i < l.length) (ha : (l.take i).all p = true) (hp : p l[i] = true) : (l.take (i + 1)).all p = true := by
  rw [List.take_succ_eq_append_getElem h, List.all_append, ha]; simp [hp]
theorem all_not {α : Type} {p : α → Bool} {l : List α} {i : Nat} (h : i < l.length) (hp : p l[i] = false) : l.all p = false := by
  rw [List.all_eq_false]; exact ⟨_, List.getElem_mem h, by simp [hp]⟩
end Go.Proofs.Ytbkaedmabdgdhaa.Pure
namespace Go.Proofs.Ytbkaedmabdgdhaa.Pure
open Go.RowKit Go.Proofs.Ytbkaedmabdgdhaa.Hd Go.Proofs.YtbkaedmabdgdhaaW.PrintWords Go.Proofs.YtbkaedmabdgdhaaW.PrintLast
set_option linter.unusedVariables false
set_option linter.unusedSimpArgs false
def allEq (r : List Int) : Bool := r.all fun x => decide (x = rd r 0)
theorem equal_l0 (r : List Int) (hl : r.length ≤ 1048576) : ∀ (d i : Nat), i + d = r.length → (r.take i).all (fun x => decide (x = rd r 0)) = true →
    Ev (fun k => spec_wiEqual.l0 k r r (r.length : Int) (i : Int)) (allEq r) := by
  intro d
  induction d with
  | zero =>
    intro i hi ha
    refine Ev.succ ?_
    simp only [spec_wiEqual.l0]
    refine Ev.neg (by omega) (Ev.ret ?_)
    rw [List.take_of_length_le (by omega)] at ha
    exact ha.symm
  | succ d ih =>
    intro i hi ha
    refine Ev.succ ?_
    simp only [spec_wiEqual.l0]
    have hlt : i < r.length := by omega
    refine Ev.pos (by omega) (Ev.pos (by omega) (Ev.pos (by omega) (Ev.pos (by omega) ?_)))
    rw [rd_at hlt]
    by_cases c : r[i] = rd r 0
    · refine Ev.pos c ?_
      rw [w64' (m := ((i + 1 : Nat) : Int)) (by omega) (by omega) (by omega)]
      exact ih (i + 1) (by omega) (all_take_succ hlt ha (decide_eq_true c))
    · exact Ev.neg c (Ev.ret (all_not (p := fun x => decide (x = rd r 0)) hlt (decide_eq_false c)).symm)
theorem equal_ev (r : List Int) (hl : r.length ≤ 1048576) : Ev (fun k => spec_wiEqual.f k r) (allEq r) := by
  unfold spec_wiEqual.f
  exact equal_l0 r hl r.length 0 (by omega) (by simp)
theorem one_all (r : List Int) (h : 0 < r.length) : Hd.one r = allEq r := by
  obtain ⟨m, hm⟩ : ∃ m, r.length = m + 1 := ⟨r.length - 1, by omega⟩
  have kz : Lib.keeps r.toArray 0 = true := by simp [Lib.keeps]
  have e : (Lib.compact r).length = 1 + ((List.range m).filter fun j => Lib.keeps r.toArray (j + 1)).length := by
    unfold Lib.compact Lib.compactUpTo
    rw [List.length_map, hm, List.range_succ_eq_map, List.filter_cons, if_pos kz, List.length_cons, List.filter_map, List.length_map]
    exact Nat.add_comm _ _
  have ks : ∀ j, j < m → Lib.keeps r.toArray (j + 1) = !decide (rd r ((j + 1 : Nat) : Int) = rd r (j : Int)) := by
    intro j hj
    rw [rd_at (by omega), rd_at (by omega)]
    have h1 : j + 1 < r.length := by omega
    have h2 : j < r.length := by omega
    simp [Lib.keeps, h1, h2]
  rw [Bool.eq_iff_iff]
  unfold Hd.one allEq
  rw [beq_iff_eq, List.all_eq_true]
  constructor
  · intro q
    have q0 : ((List.range m).filter fun j => Lib.keeps r.toArray (j + 1)).length = 0 := by omega
    have q1 := List.eq_nil_of_length_eq_zero q0
    rw [List.filter_eq_nil_iff] at q1
    have st : ∀ j, j < m → rd r ((j + 1 : Nat) : Int) = rd r (j : Int) := by
      intro j hj
      have := q1 j (List.mem_range.2 hj)
      rw [ks j hj] at this
      simpa using this
    have all : ∀ j, j < m + 1 → rd r (j : Int) = rd r 0 := by
      intro j
      induction j with
      | zero => intro _; rfl
      | succ j ih => intro hj; rw [st j (by omega)]; exact ih (by omega)
    intro x hx
    obtain ⟨i, hi, rfl⟩ := List.mem_iff_getElem.1 hx
    rw [decide_eq_true_eq, ← rd_at hi]
    exact all i (by omega)
  · intro q
    have all : ∀ j, j < m + 1 → rd r (j : Int) = rd r 0 := by
      intro j hj
      have hj2 : j < r.length := by omega
      rw [rd_at hj2]
      simpa using q r[j] (List.getElem_mem hj2)
    have q1 : ((List.range m).filter fun j => Lib.keeps r.toArray (j + 1)) = [] := by
      rw [List.filter_eq_nil_iff]
      intro j hj
      have hj := List.mem_range.1 hj
      rw [ks j hj, all (j + 1) (by omega), all j (by omega)]
      simp
    rw [e, q1]; rfl
def magicB (l : List (List Int)) : Bool := allEq (rowsV l) && allEq (colsV l)
theorem isMagicR_ev {l : List (List Int)} (h : rectL l) (hpos : 0 < (rd_i64s l 0).length) : Ev (fun k => impl_isMagic.f k l) (magicB l) := by
  have hb := h.1
  have hr := h.2
  have hrl := rowsV_len l
  have hcl := colsV_len l
  unfold impl_isMagic.f magicB
  refine Ev.bd (rowSums_ev l (by omega) (fun x hx => by have := hr x hx; omega)) ?_
  rw [one_all _ (by omega)]
  by_cases c : allEq (rowsV l) = true
  · refine Ev.pos c ?_
    rw [c, Bool.true_and]
    obtain ⟨k, hk⟩ := columnSumsR_ev h
    exact ⟨k, fun j hj => by simp only [hk j hj, Option.map_some, one_all _ (show 0 < (colsV l).length by omega)]⟩
  · refine Ev.neg c (Ev.ret ?_)
    rw [Bool.eq_false_iff.2 c, Bool.false_and]
end Go.Proofs.Ytbkaedmabdgdhaa.Pure
namespace Go.Proofs.Ytbkaedmabdgdhaa.Pure
open Go.RowKit Go.Proofs.Ytbkaedmabdgdhaa.Hd Go.Proofs.YtbkaedmabdgdhaaW.PrintWords Go.Proofs.YtbkaedmabdgdhaaW.PrintLast
set_option linter.unusedVariables false
set_option linter.unusedSimpArgs false
theorem chunks_at0 {R wd : Nat} {l : List Int} (hR : 1 ≤ R) : rd_i64s (chunksL R wd l) 0 = (l.take ((0 + 1) * wd)).drop (0 * wd) := by
  have h : rd_i64s (chunksL R wd l) ((0 : Nat) : Int) = (chunksL R wd l)[0]'(by rw [chunksL_len]; omega) := rdR_at (by rw [chunksL_len]; omega)
  have e : rd_i64s (chunksL R wd l) 0 = (chunksL R wd l)[0]'(by rw [chunksL_len]; omega) := h
  rw [e]
  simp [chunksL]
theorem chunks_all {R wd : Nat} {l : List Int} (hN : R * wd = l.length) : ∀ x ∈ chunksL R wd l, x.length = wd := by
  intro x hx
  unfold chunksL at hx
  obtain ⟨j, hj, rfl⟩ := List.mem_map.1 hx
  exact chunk_len hN (List.mem_range.1 hj)
theorem chunks_rect {R wd : Nat} {l : List Int} (hR : 1 ≤ R) (hR3 : R ≤ 3) (hw4 : wd ≤ 4) (hN : R * wd = l.length) : rectL (chunksL R wd l) := by
  have h0 : (rd_i64s (chunksL R wd l) 0).length = wd := by rw [chunks_at0 hR]; exact chunk_len hN (by omega)
  refine ⟨by rw [chunksL_len]; omega, fun x hx => ?_⟩
  have := chunks_all hN x hx
  omega
theorem chunks_pos {R wd : Nat} {l : List Int} (hR : 1 ≤ R) (hw : 1 ≤ wd) (hN : R * wd = l.length) : 0 < (rd_i64s (chunksL R wd l) 0).length := by
  have h0 : (rd_i64s (chunksL R wd l) 0).length = wd := by rw [chunks_at0 hR]; exact chunk_len hN (by omega)
  omega
def stepM (R wd : Nat) (s : List Int × Nat) (l : List Int) : List Int × Nat :=
  if magicB (chunksL R wd l) = true then (if s.1 = [] ∨ cmpL l s.1 < 0 then (l, s.2 + 1) else (s.1, s.2 + 1)) else s
theorem stepM_q (R wd : Nat) (s : List Int × Nat) (l : List Int) : s.2 ≤ (stepM R wd s l).2 ∧ (stepM R wd s l).2 ≤ s.2 + 1 := by
  unfold stepM
  split
  · split <;> simp
  · simp
theorem stepM_len {R wd m : Nat} {s : List Int × Nat} {l : List Int} (hs : s.1 ≠ [] → s.1.length = 2 * m) (hl : l.length = 2 * m) : (stepM R wd s l).1 ≠ [] → (stepM R wd s l).1.length = 2 * m := by
  unfold stepM
  split
  · split
    · intro _; exact hl
    · exact hs
  · exact hs
theorem foldM_len {R wd m : Nat} : ∀ (L : List (List Int)) (s : List Int × Nat), (∀ w ∈ L, w.length = 2 * m) → (s.1 ≠ [] → s.1.length = 2 * m) → (L.foldl (stepM R wd) s).1 ≠ [] → (L.foldl (stepM R wd) s).1.length = 2 * m
  | [], s, _, hs => hs
  | w :: L, s, hL, hs => foldM_len L (stepM R wd s w) (fun x hx => hL x (List.mem_cons_of_mem _ hx)) (stepM_len hs (hL w List.mem_cons_self))
theorem walkM_len {R wd m n : Nat} {l : List Int} {H : List S_Tile} {s : List Int × Nat} (hs : s.1 ≠ [] → s.1.length = 2 * m) : (walkL (stepM R wd) m n l H s).1 ≠ [] → (walkL (stepM R wd) m n l H s).1.length = 2 * m :=
  foldM_len _ s (layN_mem m n l H) hs
theorem walkMTo_len {R wd m n : Nat} {l : List Int} {H : List S_Tile} {s : List Int × Nat} (hs : s.1 ≠ [] → s.1.length = 2 * m) (i : Nat) : (walkLTo (stepM R wd) m n l H s i).1 ≠ [] → (walkLTo (stepM R wd) m n l H s i).1.length = 2 * m := by
  refine foldM_len _ s (fun w hw => ?_) hs
  obtain ⟨k, _, h⟩ := List.mem_flatMap.1 hw
  unfold bothW at h
  rw [List.mem_append] at h
  rcases h with h | h
  · exact layN_mem m n _ _ w h
  · split at h
    · cases h
    · exact layN_mem m n _ _ w h
theorem stepM_ne {R wd : Nat} {s : List Int × Nat} {l : List Int} (hs : s.1 = [] → s.2 = 0) (hl : l ≠ []) : (stepM R wd s l).1 = [] → (stepM R wd s l).2 = 0 := by
  unfold stepM
  split
  · split
    · intro q; exact (hl q).elim
    · rename_i h
      intro q; exact (h (.inl q)).elim
  · exact hs
theorem foldM_ne {R wd : Nat} : ∀ (L : List (List Int)) (s : List Int × Nat), (∀ w ∈ L, w ≠ []) → (s.1 = [] → s.2 = 0) → (L.foldl (stepM R wd) s).1 = [] → (L.foldl (stepM R wd) s).2 = 0
  | [], s, _, hs => hs
  | w :: L, s, hL, hs => foldM_ne L (stepM R wd s w) (fun x hx => hL x (List.mem_cons_of_mem _ hx)) (stepM_ne hs (hL w List.mem_cons_self))
theorem walkM_ne {R wd m n : Nat} {l : List Int} {H : List S_Tile} (hm : 1 ≤ m) (h : (walkL (stepM R wd) m n l H ([], 0)).2 ≠ 0) : (walkL (stepM R wd) m n l H ([], 0)).1 ≠ [] := fun q =>
  h (foldM_ne _ ([], 0) (fun w hw e => by have := layN_mem m n l H w hw; subst e; simp at this; omega) (fun _ => rfl) q)
def okMg (l : List S_Tile) (a : Int) : Prop := handB l = true ∧ 1 ≤ a ∧ a ≤ 3 ∧ l.length ≤ 6 ∧ ((l.length : Int) = a ∨ (l.length : Int) = 2 * a)
instance (l : List S_Tile) (a : Int) : Decidable (okMg l a) := by unfold okMg; infer_instance
def wdM (l : List S_Tile) (a : Int) : Nat := 2 * l.length / a.toNat
def stMg (l : List S_Tile) (a : Int) : List Int × Nat := walkL (stepM a.toNat (wdM l a)) l.length l.length [] l ([], 0)
theorem okMg_at {l : List S_Tile} {a : Int} (h : okMg l a) : ∃ R wd : Nat, a = (R : Int) ∧ wdM l a = wd ∧ 1 ≤ R ∧ R ≤ 3 ∧ 1 ≤ wd ∧ wd ≤ 4 ∧ R * wd = 2 * l.length ∧ 1 ≤ l.length ∧ l.length ≤ 6 := by
  obtain ⟨_, h1, h3, h6, hl⟩ := h
  obtain ⟨R, rfl⟩ : ∃ R : Nat, a = (R : Int) := ⟨a.toNat, by omega⟩
  rcases hl with hl | hl
  · have e : l.length = R := by omega
    refine ⟨R, 2, rfl, ?_, by omega, by omega, by omega, by omega, by omega, by omega, by omega⟩
    unfold wdM
    rw [e, Int.toNat_natCast, Nat.mul_comm]
    exact Nat.mul_div_cancel_left 2 (by omega)
  · have e : l.length = 2 * R := by omega
    refine ⟨R, 4, rfl, ?_, by omega, by omega, by omega, by omega, by omega, by omega, by omega⟩
    unfold wdM
    rw [e, Int.toNat_natCast, show 2 * (2 * R) = R * 4 by omega]
    exact Nat.mul_div_cancel_left 4 (by omega)
end Go.Proofs.Ytbkaedmabdgdhaa.Pure
