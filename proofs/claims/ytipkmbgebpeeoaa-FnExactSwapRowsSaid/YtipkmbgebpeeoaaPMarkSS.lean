/- The statements' own marker over rows of rows of ints, with what it leaves. -/
import Derived.Test.YtipkmbgebpeeoaaPEqIntSS
import Derived.Test.YtipkmbgebpeeoaaPMarkInt
import Derived.Test.YtipkmbgebpeeoaaMMarkIntSS
import Derived.Test.YtipkmbgebpeeoaaG0
namespace Go.Proofs.Ytipkmbgebpeeoaa.Pure
open Go.RowKit Go.Proofs.Ytipkmbgebpeeoaa.Hd Go.Proofs.YtipkmbgebpeeoaaW.PrintWords Go.Proofs.YtipkmbgebpeeoaaW.PrintLast
set_option linter.unusedVariables false
set_option linter.unusedSimpArgs false
def marksSS : List (List Int) → Int → List (List Int)
  | [], _ => []
  | r :: t, a => marks r.length a :: marksSS t (a + (r.length : Int))
theorem marksSS_len : ∀ (l : List (List Int)) (a : Int), (marksSS l a).length = l.length := by
  intro l
  induction l with
  | nil => intro a; rfl
  | cons r t ih => intro a; simp [marksSS, ih]
theorem markSS_l0 (l : List (List Int)) (hl : l.length ≤ 1048576) (hr : ∀ x ∈ l, x.length ≤ 1048576) (B : Int) (hB : B ≤ 35184372088832) : ∀ (d i : Nat) (a : Int) (acc : List (List Int)), i + d = l.length → acc.length = l.length → acc.drop i = l.drop i → 0 ≤ a → a + ((l.drop i).flatten.length : Int) ≤ B →
    Ev (fun k => laws_markIntSS.l0 k acc a (i : Int)) (a + ((l.drop i).flatten.length : Int), acc.take i ++ marksSS (l.drop i) a) := by
  intro d
  induction d with
  | zero =>
    intro i a acc hi ha he h0 h1
    refine Ev.succ ?_
    simp only [laws_markIntSS.l0]
    rw [List.drop_of_length_le (by omega), List.take_of_length_le (by omega)]
    exact Ev.neg (by omega) (Ev.ret (by simp [marksSS]))
  | succ d ih =>
    intro i a acc hi ha he h0 h1
    have hlt : i < l.length := by omega
    have hlt2 : i < acc.length := by omega
    have hx : l[i].length ≤ 1048576 := hr _ (List.getElem_mem hlt)
    have e1 := he
    rw [List.drop_eq_getElem_cons hlt, List.drop_eq_getElem_cons hlt2] at e1
    have ex : acc[i] = l[i] := (List.cons.inj e1).1
    have et : acc.drop (i + 1) = l.drop (i + 1) := (List.cons.inj e1).2
    have ef : ((l.drop i).flatten.length : Int) = l[i].length + ((l.drop (i + 1)).flatten.length : Int) := by rw [List.drop_eq_getElem_cons hlt, List.flatten_cons, List.length_append]; omega
    have hg : acc.getD i [] = l[i] := by rw [List.getD_eq_getElem?_getD, List.getElem?_eq_getElem hlt2, Option.getD_some, ex]
    have hR := ih (i + 1) (a + (l[i].length : Int)) (acc.set i (marks l[i].length a)) (by omega) (by rw [List.length_set]; exact ha) (by rw [List.drop_set_of_lt (by omega)]; exact et) (by omega) (by omega)
    refine Ev.succ ?_
    simp only [laws_markIntSS.l0]
    refine Ev.pos (by omega) (Ev.pos (by omega) ?_)
    rw [Int.toNat_natCast, hg]
    refine Ev.bd (markIntS_ev l[i] a (by omega) h0 (by omega)) ?_
    have e3 : (acc.set i (marks l[i].length a)).take (i + 1) = acc.take i ++ [marks l[i].length a] := by
      rw [List.take_succ_eq_append_getElem (by rw [List.length_set]; exact hlt2), List.take_set_of_le (by omega), List.getElem_set_self]
    have e4 : marksSS (l.drop i) a = marks l[i].length a :: marksSS (l.drop (i + 1)) (a + (l[i].length : Int)) := by rw [List.drop_eq_getElem_cons hlt]; rfl
    rw [w64' (m := ((i + 1 : Nat) : Int)) (by omega) (by omega) (by omega), ef, ← Int.add_assoc, e4]
    rw [e3, List.append_assoc] at hR
    exact hR
theorem markSS_ev (l : List (List Int)) (a : Int) (hl : l.length ≤ 1048576) (hf : l.flatten.length ≤ 1048576) (h0 : 0 ≤ a) (h1 : a ≤ 1048576) : Ev (fun k => laws_markIntSS.f k l a) (a + (l.flatten.length : Int), marksSS l a) := by
  have hR := markSS_l0 l hl (flat_row hf) 35184372088832 (by omega) l.length 0 a l (by omega) rfl rfl h0 (by rw [List.drop_zero]; omega)
  simpa [laws_markIntSS.f] using hR
theorem heldSS_l0 (M : List (List Int)) (hM : M.length ≤ 1048576) : ∀ (l : List (List Int)) (i : Nat) (a : Int), i + l.length = M.length → M.drop i = marksSS l a → (∀ x ∈ l, x.length ≤ 1048576) → 0 ≤ a → a + (l.flatten.length : Int) ≤ 35184372088832 →
    Ev (fun k => laws_heldIntSS.l0 k M a (i : Int)) (a + (l.flatten.length : Int)) := by
  intro l
  induction l with
  | nil =>
    intro i a hi he hr h0 h1
    refine Ev.succ ?_
    simp only [laws_heldIntSS.l0]
    simp only [List.length_nil] at hi
    exact Ev.neg (by omega) (Ev.ret (by simp))
  | cons r t ih =>
    intro i a hi he hr h0 h1
    simp only [List.length_cons] at hi
    have hlt : i < M.length := by omega
    have hx : r.length ≤ 1048576 := hr r (by simp)
    have e1 := he
    rw [List.drop_eq_getElem_cons hlt] at e1
    simp only [marksSS] at e1
    have ex : M[i] = marks r.length a := (List.cons.inj e1).1
    have et : M.drop (i + 1) = marksSS t (a + (r.length : Int)) := (List.cons.inj e1).2
    have hg : rd_i64s M (i : Int) = marks r.length a := by rw [← ex]; simp [rd_i64s, hlt]
    rw [List.flatten_cons, List.length_append] at h1 ⊢
    refine Ev.succ ?_
    simp only [laws_heldIntSS.l0]
    rw [w64' (m := ((i + 1 : Nat) : Int)) (by omega) (by omega) (by omega), hg]
    refine Ev.pos (by omega) (Ev.pos (by omega) (Ev.bd (heldIntS_ev r.length a (by omega) h0 (by omega)) (Ev.neg (by omega) ?_)))
    have hh := ih (i + 1) (a + (r.length : Int)) (by omega) et (fun x hx' => hr x (List.mem_cons_of_mem _ hx')) (by omega) (by omega)
    have e5 : a + (((r.length + t.flatten.length : Nat)) : Int) = a + (r.length : Int) + (t.flatten.length : Int) := by omega
    rw [e5]
    exact hh
theorem heldSS_ev (l : List (List Int)) (a : Int) (hl : l.length ≤ 1048576) (hf : l.flatten.length ≤ 1048576) (h0 : 0 ≤ a) (h1 : a ≤ 1048576) : Ev (fun k => laws_heldIntSS.f k (marksSS l a) a) (a + (l.flatten.length : Int)) := by
  have hh := heldSS_l0 (marksSS l a) (by rw [marksSS_len]; exact hl) l 0 a (by rw [marksSS_len]; omega) rfl (flat_row hf) h0 (by omega)
  simpa [laws_heldIntSS.f] using hh
end Go.Proofs.Ytipkmbgebpeeoaa.Pure
