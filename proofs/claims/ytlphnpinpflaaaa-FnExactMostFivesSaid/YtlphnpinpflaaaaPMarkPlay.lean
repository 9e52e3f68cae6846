/- Plain laws of the statements' own markers over slices of plays. -/
import Derived.Test.YtlphnpinpflaaaaPLawPlay
import Derived.Test.YtlphnpinpflaaaaG1
import Derived.Test.YtlphnpinpflaaaaG1
namespace Go.Proofs.Ytlphnpinpflaaaa.Pure
open Go.RowKit Go.Proofs.Ytlphnpinpflaaaa.Hd Go.Proofs.YtlphnpinpflaaaaW.PrintWords Go.Proofs.YtlphnpinpflaaaaW.PrintLast
set_option linter.unusedVariables false
set_option linter.unusedSimpArgs false
def marksP : Nat → Int → List S_Play
  | 0, _ => []
  | n + 1, a => ⟨⟨a, a + 1⟩, a + 2⟩ :: marksP n (a + 3)
theorem marksP_length (n : Nat) (a : Int) : (marksP n a).length = n := by
  induction n generalizing a with
  | zero => rfl
  | succ n ih => simp [marksP, ih]
theorem marksP_get (n : Nat) (a : Int) (i : Nat) (h : i < n) : (marksP n a)[i]? = some ⟨⟨a + 3 * i, a + 3 * i + 1⟩, a + 3 * i + 2⟩ := by
  induction n generalizing a i with
  | zero => omega
  | succ n ih =>
    cases i with
    | zero => simp [marksP]
    | succ i =>
      simp only [marksP, List.getElem?_cons_succ]; rw [ih _ _ (by omega)]
      have e : a + 3 + 3 * (i : Int) = a + 3 * ((i + 1 : Nat) : Int) := by omega
      rw [e]
theorem marksP_at (n : Nat) (a : Int) (i : Nat) (h : i < (marksP n a).length) : (marksP n a)[i] = ⟨⟨a + 3 * i, a + 3 * i + 1⟩, a + 3 * i + 2⟩ := by
  have := marksP_get n a i (by rw [marksP_length] at h; exact h)
  rw [List.getElem?_eq_getElem h] at this
  exact Option.some.inj this
theorem rdPl_at {l : List S_Play} {i : Nat} (h : i < l.length) : rd_Play l (i : Int) = l[i] := by simp [rd_Play, h]
theorem markPlayS_l0 (n : Nat) (a : Int) (hn : n ≤ 35184372088832) (ha0 : 0 ≤ a) (ha : a ≤ 35184372088832) : ∀ (d i : Nat) (acc : List S_Play), i + d = n → acc.length = n → acc.take i = (marksP n a).take i →
    Ev (fun k => laws_markPlayS.l0 k acc (a + 3 * i) (i : Int)) (a + 3 * (n : Int), marksP n a) := by
  intro d
  induction d with
  | zero =>
    intro i acc hi hl ht
    refine Ev.succ ?_
    simp only [laws_markPlayS.l0]
    refine Ev.neg (by omega) (Ev.ret ?_)
    rw [take_all (by rw [marksP_length]; exact hl) ht (by rw [marksP_length]; omega), show i = n by omega]
  | succ d ih =>
    intro i acc hi hl ht
    refine Ev.succ ?_
    simp only [laws_markPlayS.l0]
    have hlt : i < (marksP n a).length := by rw [marksP_length]; omega
    refine Ev.pos (by omega) (Ev.pos (by omega) (Ev.bs rfl (Ev.bs rfl ?_)))
    rw [w64' (n := (i : Int) + 1) (m := ((i + 1 : Nat) : Int)) (by omega) (by omega) (by omega), w64' (n := a + 3 * (i : Int) + 1) (m := a + 3 * (i : Int) + 1) (by omega) (by omega) (by omega), w64' (n := a + 3 * (i : Int) + 1 + 1) (m := a + 3 * (i : Int) + 2) (by omega) (by omega) (by omega), w64' (n := a + 3 * (i : Int) + 2 + 1) (m := a + 3 * ((i + 1 : Nat) : Int)) (by omega) (by omega) (by omega)]
    simp only [Int.toNat_natCast]
    have e1 : ∀ (x : S_Play), rd_Play (acc.set i x) (i : Int) = x := fun x => by rw [rdPl_at (by rw [List.length_set]; omega)]; simp
    simp only [List.set_set, e1]
    refine ih (i + 1) _ (by omega) (by rw [List.length_set]; exact hl) ?_
    rw [← marksP_at n a i hlt]
    exact set_take acc _ i (by rw [marksP_length]; exact hl) ht hlt
theorem markPlayS_ev (l : List S_Play) (a : Int) (hn : l.length ≤ 35184372088832) (ha0 : 0 ≤ a) (ha : a ≤ 35184372088832) : Ev (fun k => laws_markPlayS.f k l a) (a + 3 * (l.length : Int), marksP l.length a) := by
  unfold laws_markPlayS.f
  have h := markPlayS_l0 l.length a hn ha0 ha l.length 0 l (by omega) rfl (by simp)
  rw [show a + 3 * ((0 : Nat) : Int) = a by omega] at h
  exact h
theorem heldPlayS_l0 (n : Nat) (a : Int) (hn : n ≤ 35184372088832) (ha0 : 0 ≤ a) (ha : a ≤ 35184372088832) : ∀ (d i : Nat), i + d = n →
    Ev (fun k => laws_heldPlayS.l0 k (marksP n a) (a + 3 * i) (i : Int)) (a + 3 * (n : Int)) := by
  intro d
  induction d with
  | zero =>
    intro i hi
    refine Ev.succ ?_
    simp only [laws_heldPlayS.l0]
    exact Ev.neg (by rw [marksP_length]; omega) (Ev.ret (by omega))
  | succ d ih =>
    intro i hi
    refine Ev.succ ?_
    simp only [laws_heldPlayS.l0]
    have hlt : i < (marksP n a).length := by rw [marksP_length]; omega
    rw [rdPl_at hlt, marksP_at n a i hlt, w64' (n := (i : Int) + 1) (m := ((i + 1 : Nat) : Int)) (by omega) (by omega) (by omega), w64' (n := a + 3 * (i : Int) + 1) (m := a + 3 * (i : Int) + 1) (by omega) (by omega) (by omega), w64' (n := a + 3 * (i : Int) + 1 + 1) (m := a + 3 * (i : Int) + 2) (by omega) (by omega) (by omega), w64' (n := a + 3 * (i : Int) + 2 + 1) (m := a + 3 * ((i + 1 : Nat) : Int)) (by omega) (by omega) (by omega)]
    exact Ev.pos (by rw [marksP_length]; omega) (Ev.pos (by omega) (Ev.pos rfl (Ev.pos rfl (Ev.pos rfl (ih (i + 1) (by omega))))))
theorem heldPlayS_ev (n : Nat) (a : Int) (hn : n ≤ 35184372088832) (ha0 : 0 ≤ a) (ha : a ≤ 35184372088832) : Ev (fun k => laws_heldPlayS.f k (marksP n a) a) (a + 3 * (n : Int)) := by
  unfold laws_heldPlayS.f
  have h := heldPlayS_l0 n a hn ha0 ha n 0 (by omega)
  rw [show a + 3 * ((0 : Nat) : Int) = a by omega] at h
  exact h
end Go.Proofs.Ytlphnpinpflaaaa.Pure
