/- The statements' own marker over rows of rows of ints, with what it leaves. -/
import Derived.Test.YtbkaedmabdgdhaaPEqIntSS
import Derived.Test.YtbkaedmabdgdhaaMMarkIntSS
import Derived.Test.YtbkaedmabdgdhaaG0
import Derived.Test.YtbkaedmabdgdhaaPEqInt
namespace Go.Proofs.Ytbkaedmabdgdhaa.Pure
open Go.RowKit Go.Proofs.Ytbkaedmabdgdhaa.Hd Go.Proofs.YtbkaedmabdgdhaaW.PrintWords Go.Proofs.YtbkaedmabdgdhaaW.PrintLast
set_option linter.unusedVariables false
set_option linter.unusedSimpArgs false
theorem marks_at (n : Nat) (a : Int) (i : Nat) (h : i < (marks n a).length) : (marks n a)[i] = a + i := by
  have := marks_get n a i (by rw [marks_length] at h; exact h)
  rw [List.getElem?_eq_getElem h] at this
  exact Option.some.inj this
theorem markIntS_l0 (n : Nat) (a : Int) (hn : n ≤ 35184372088832) (ha0 : 0 ≤ a) (ha : a ≤ 35184372088832) : ∀ (d i : Nat) (acc : List Int), i + d = n → acc.length = n → acc.take i = (marks n a).take i →
    Ev (fun k => laws_markIntS.l0 k acc (a + i) (i : Int)) (a + n, marks n a) := by
  intro d
  induction d with
  | zero =>
    intro i acc hi hl ht
    refine Ev.succ ?_
    simp only [laws_markIntS.l0]
    refine Ev.neg (by omega) (Ev.ret ?_)
    rw [take_all (by rw [marks_length]; exact hl) ht (by rw [marks_length]; omega), show i = n by omega]
  | succ d ih =>
    intro i acc hi hl ht
    refine Ev.succ ?_
    simp only [laws_markIntS.l0]
    have hlt : i < (marks n a).length := by rw [marks_length]; omega
    refine Ev.pos (by omega) (Ev.pos (by omega) ?_)
    rw [w64' (n := (i : Int) + 1) (m := ((i + 1 : Nat) : Int)) (by omega) (by omega) (by omega), w64' (n := a + (i : Int) + 1) (m := a + ((i + 1 : Nat) : Int)) (by omega) (by omega) (by omega), Int.toNat_natCast]
    refine ih (i + 1) _ (by omega) (by rw [List.length_set]; exact hl) ?_
    rw [← marks_at n a i hlt]
    exact set_take acc _ i (by rw [marks_length]; exact hl) ht hlt
theorem markIntS_ev (l : List Int) (a : Int) (hn : l.length ≤ 35184372088832) (ha0 : 0 ≤ a) (ha : a ≤ 35184372088832) : Ev (fun k => laws_markIntS.f k l a) (a + (l.length : Int), marks l.length a) := by
  unfold laws_markIntS.f
  have h := markIntS_l0 l.length a hn ha0 ha l.length 0 l (by omega) rfl (by simp)
  rw [show a + ((0 : Nat) : Int) = a by omega] at h
  exact h
theorem heldIntS_l0 (n : Nat) (a : Int) (hn : n ≤ 35184372088832) (ha0 : 0 ≤ a) (ha : a ≤ 35184372088832) : ∀ (d i : Nat), i + d = n →
    Ev (fun k => laws_heldIntS.l0 k (marks n a) (a + i) (i : Int)) (a + (n : Int)) := by
  intro d
  induction d with
  | zero =>
    intro i hi
    refine Ev.succ ?_
    simp only [laws_heldIntS.l0]
    exact Ev.neg (by rw [marks_length]; omega) (Ev.ret (by omega))
  | succ d ih =>
    intro i hi
    refine Ev.succ ?_
    simp only [laws_heldIntS.l0]
    refine Ev.pos (by rw [marks_length]; omega) (Ev.pos (by omega) (Ev.pos (rd_marks n a i (by omega)) ?_))
    rw [w64' (n := (i : Int) + 1) (m := ((i + 1 : Nat) : Int)) (by omega) (by omega) (by omega), w64' (n := a + (i : Int) + 1) (m := a + ((i + 1 : Nat) : Int)) (by omega) (by omega) (by omega)]
    exact ih (i + 1) (by omega)
theorem heldIntS_ev (n : Nat) (a : Int) (hn : n ≤ 35184372088832) (ha0 : 0 ≤ a) (ha : a ≤ 35184372088832) : Ev (fun k => laws_heldIntS.f k (marks n a) a) (a + (n : Int)) := by
  unfold laws_heldIntS.f
  have h := heldIntS_l0 n a hn ha0 ha n 0 (by omega)
  rw [show a + ((0 : Nat) : Int) = a by omega] at h
  exact h
end Go.Proofs.Ytbkaedmabdgdhaa.Pure
namespace Go.Proofs.Ytbkaedmabdgdhaa.Pure
open Go.RowKit Go.Proofs.Ytbkaedmabdgdhaa.Hd Go.Proofs.YtbkaedmabdgdhaaW.PrintWords Go.Proofs.YtbkaedmabdgdhaaW.PrintLast
set_option linter.unusedVariables false
set_option linter.unusedSimpArgs false
def marksSS : List (List Int) → Int → List (List Int)
  | [], _ => []
  | r :: t, a => marks r.length a :: marksSS t (a + (r.length : Int))
theorem marksSS_len : ∀ (l : List (List Int)) (a : Int), (marksSS l a).length = l.length := by
  intro l
  induction l with
  | nil => intro a; rfl
  | cons r t ih => intro a; simp [marksSS, ih]
theorem markSS_l0 (l : List (List Int)) (hl : l.length ≤ 1048576) (hr : ∀ x ∈ l, x.length ≤ 1048576) (B : Int) (hB : B ≤ 35184372088832) : ∀ (d i : Nat) (a : Int) (acc : List (List Int)), i + d = l.length → acc.length = l.length → acc.drop i = l.drop i → 0 ≤ a → a + ((l.drop i).flatten.length : Int) ≤ B →
    Ev (fun k => laws_markIntSS.l0 k acc a (i : Int)) (a + ((l.drop i).flatten.length : Int), acc.take i ++ marksSS (l.drop i) a) := by
  intro d
  induction d with
  | zero =>
    intro i a acc hi ha he h0 h1
    refine Ev.succ ?_
    simp only [laws_markIntSS.l0]
    rw [List.drop_of_length_le (by omega), List.take_of_length_le (by omega)]
    exact Ev.neg (by omega) (Ev.ret (by simp [marksSS]))
  | succ d ih =>
    intro i a acc hi ha he h0 h1
    have hlt : i < l.length := by omega
    have hlt2 : i < acc.length := by omega
    have hx : l[i].length ≤ 1048576 := hr _ (List.getElem_mem hlt)
    have e1 := he
    rw [List.drop_eq_getElem_cons hlt, List.drop_eq_getElem_cons hlt2] at e1
    have ex : acc[i] = l[i] := (List.cons.inj e1).1
    have et : acc.drop (i + 1) = l.drop (i + 1) := (List.cons.inj e1).2
    have ef : ((l.drop i).flatten.length : Int) = l[i].length + ((l.drop (i + 1)).flatten.length : Int) := by rw [List.drop_eq_getElem_cons hlt, List.flatten_cons, List.length_append]; omega
    have hg : acc.getD i [] = l[i] := by rw [List.getD_eq_getElem?_getD, List.getElem?_eq_getElem hlt2, Option.getD_some, ex]
    have hR := ih (i + 1) (a + (l[i].length : Int)) (acc.set i (marks l[i].length a)) (by omega) (by rw [List.length_set]; exact ha) (by rw [List.drop_set_of_lt (by omega)]; exact et) (by omega) (by omega)
    refine Ev.succ ?_
    simp only [laws_markIntSS.l0]
    refine Ev.pos (by omega) (Ev.pos (by omega) ?_)
    rw [Int.toNat_natCast, hg]
    refine Ev.bd (markIntS_ev l[i] a (by omega) h0 (by omega)) ?_
    have e3 : (acc.set i (marks l[i].length a)).take (i + 1) = acc.take i ++ [marks l[i].length a] := by
      rw [List.take_succ_eq_append_getElem (by rw [List.length_set]; exact hlt2), List.take_set_of_le (by omega), List.getElem_set_self]
    have e4 : marksSS (l.drop i) a = marks l[i].length a :: marksSS (l.drop (i + 1)) (a + (l[i].length : Int)) := by rw [List.drop_eq_getElem_cons hlt]; rfl
    rw [w64' (m := ((i + 1 : Nat) : Int)) (by omega) (by omega) (by omega), ef, ← Int.add_assoc, e4]
    rw [e3, List.append_assoc] at hR
    exact hR
theorem markSS_ev (l : List (List Int)) (a : Int) (hl : l.length ≤ 1048576) (hf : l.flatten.length ≤ 1048576) (h0 : 0 ≤ a) (h1 : a ≤ 1048576) : Ev (fun k => laws_markIntSS.f k l a) (a + (l.flatten.length : Int), marksSS l a) := by
  have hR := markSS_l0 l hl (flat_row hf) 35184372088832 (by omega) l.length 0 a l (by omega) rfl rfl h0 (by rw [List.drop_zero]; omega)
  simpa [laws_markIntSS.f] using hR
theorem heldSS_l0 (M : List (List Int)) (hM : M.length ≤ 1048576) : ∀ (l : List (List Int)) (i : Nat) (a : Int), i + l.length = M.length → M.drop i = marksSS l a → (∀ x ∈ l, x.length ≤ 1048576) → 0 ≤ a → a + (l.flatten.length : Int) ≤ 35184372088832 →
    Ev (fun k => laws_heldIntSS.l0 k M a (i : Int)) (a + (l.flatten.length : Int)) := by
  intro l
  induction l with
  | nil =>
    intro i a hi he hr h0 h1
    refine Ev.succ ?_
    simp only [laws_heldIntSS.l0]
    simp only [List.length_nil] at hi
    exact Ev.neg (by omega) (Ev.ret (by simp))
  | cons r t ih =>
    intro i a hi he hr h0 h1
    simp only [List.length_cons] at hi
    have hlt : i < M.length := by omega
    have hx : r.length ≤ 1048576 := hr r (by simp)
    have e1 := he
    rw [List.drop_eq_getElem_cons hlt] at e1
    simp only [marksSS] at e1
    have ex : M[i] = marks r.length a := (List.cons.inj e1).1
    have et : M.drop (i + 1) = marksSS t (a + (r.length : Int)) := (List.cons.inj e1).2
    have hg : rd_i64s M (i : Int) = marks r.length a := by rw [← ex]; simp [rd_i64s, hlt]
    rw [List.flatten_cons, List.length_append] at h1 ⊢
    refine Ev.succ ?_
    simp only [laws_heldIntSS.l0]
    rw [w64' (m := ((i + 1 : Nat) : Int)) (by omega) (by omega) (by omega), hg]
    refine Ev.pos (by omega) (Ev.pos (by omega) (Ev.bd (heldIntS_ev r.length a (by omega) h0 (by omega)) (Ev.neg (by omega) ?_)))
    have hh := ih (i + 1) (a + (r.length : Int)) (by omega) et (fun x hx' => hr x (List.mem_cons_of_mem _ hx')) (by omega) (by omega)
    have e5 : a + (((r.length + t.flatten.length : Nat)) : Int) = a + (r.length : Int) + (t.flatten.length : Int) := by omega
    rw [e5]
    exact hh
theorem heldSS_ev (l : List (List Int)) (a : Int) (hl : l.length ≤ 1048576) (hf : l.flatten.length ≤ 1048576) (h0 : 0 ≤ a) (h1 : a ≤ 1048576) : Ev (fun k => laws_heldIntSS.f k (marksSS l a) a) (a + (l.flatten.length : Int)) := by
  have hh := heldSS_l0 (marksSS l a) (by rw [marksSS_len]; exact hl) l 0 a (by rw [marksSS_len]; omega) rfl (flat_row hf) h0 (by omega)
  simpa [laws_heldIntSS.f] using hh
end Go.Proofs.Ytbkaedmabdgdhaa.Pure
