/- Plain laws of the statements' own markers over slices of ints. -/
import Derived.Test.YtbkaedmabdgdhaaPEqInt
import Derived.Test.YtbkaedmabdgdhaaG0
import Derived.Test.YtbkaedmabdgdhaaG0
namespace Go.Proofs.Ytbkaedmabdgdhaa.Pure
open Go.RowKit Go.Proofs.Ytbkaedmabdgdhaa.Hd Go.Proofs.YtbkaedmabdgdhaaW.PrintWords Go.Proofs.YtbkaedmabdgdhaaW.PrintLast
set_option linter.unusedVariables false
set_option linter.unusedSimpArgs false
theorem marks_at (n : Nat) (a : Int) (i : Nat) (h : i < (marks n a).length) : (marks n a)[i] = a + i := by
  have := marks_get n a i (by rw [marks_length] at h; exact h)
  rw [List.getElem?_eq_getElem h] at this
  exact Option.some.inj this
theorem markIntS_l0 (n : Nat) (a : Int) (hn : n ≤ 35184372088832) (ha0 : 0 ≤ a) (ha : a ≤ 35184372088832) : ∀ (d i : Nat) (acc : List Int), i + d = n → acc.length = n → acc.take i = (marks n a).take i →
    Ev (fun k => laws_markIntS.l0 k acc (a + i) (i : Int)) (a + n, marks n a) := by
  intro d
  induction d with
  | zero =>
    intro i acc hi hl ht
    refine Ev.succ ?_
    simp only [laws_markIntS.l0]
    refine Ev.neg (by omega) (Ev.ret ?_)
    rw [take_all (by rw [marks_length]; exact hl) ht (by rw [marks_length]; omega), show i = n by omega]
  | succ d ih =>
    intro i acc hi hl ht
    refine Ev.succ ?_
    simp only [laws_markIntS.l0]
    have hlt : i < (marks n a).length := by rw [marks_length]; omega
    refine Ev.pos (by omega) (Ev.pos (by omega) ?_)
    rw [w64' (n := (i : Int) + 1) (m := ((i + 1 : Nat) : Int)) (by omega) (by omega) (by omega), w64' (n := a + (i : Int) + 1) (m := a + ((i + 1 : Nat) : Int)) (by omega) (by omega) (by omega), Int.toNat_natCast]
    refine ih (i + 1) _ (by omega) (by rw [List.length_set]; exact hl) ?_
    rw [← marks_at n a i hlt]
    exact set_take acc _ i (by rw [marks_length]; exact hl) ht hlt
theorem markIntS_ev (l : List Int) (a : Int) (hn : l.length ≤ 35184372088832) (ha0 : 0 ≤ a) (ha : a ≤ 35184372088832) : Ev (fun k => laws_markIntS.f k l a) (a + (l.length : Int), marks l.length a) := by
  unfold laws_markIntS.f
  have h := markIntS_l0 l.length a hn ha0 ha l.length 0 l (by omega) rfl (by simp)
  rw [show a + ((0 : Nat) : Int) = a by omega] at h
  exact h
theorem heldIntS_l0 (n : Nat) (a : Int) (hn : n ≤ 35184372088832) (ha0 : 0 ≤ a) (ha : a ≤ 35184372088832) : ∀ (d i : Nat), i + d = n →
    Ev (fun k => laws_heldIntS.l0 k (marks n a) (a + i) (i : Int)) (a + (n : Int)) := by
  intro d
  induction d with
  | zero =>
    intro i hi
    refine Ev.succ ?_
    simp only [laws_heldIntS.l0]
    exact Ev.neg (by rw [marks_length]; omega) (Ev.ret (by omega))
  | succ d ih =>
    intro i hi
    refine Ev.succ ?_
    simp only [laws_heldIntS.l0]
    refine Ev.pos (by rw [marks_length]; omega) (Ev.pos (by omega) (Ev.pos (rd_marks n a i (by omega)) ?_))
    rw [w64' (n := (i : Int) + 1) (m := ((i + 1 : Nat) : Int)) (by omega) (by omega) (by omega), w64' (n := a + (i : Int) + 1) (m := a + ((i + 1 : Nat) : Int)) (by omega) (by omega) (by omega)]
    exact ih (i + 1) (by omega)
theorem heldIntS_ev (n : Nat) (a : Int) (hn : n ≤ 35184372088832) (ha0 : 0 ≤ a) (ha : a ≤ 35184372088832) : Ev (fun k => laws_heldIntS.f k (marks n a) a) (a + (n : Int)) := by
  unfold laws_heldIntS.f
  have h := heldIntS_l0 n a hn ha0 ha n 0 (by omega)
  rw [show a + ((0 : Nat) : Int) = a by omega] at h
  exact h
end Go.Proofs.Ytbkaedmabdgdhaa.Pure
