/- Plain laws of the statements' own helpers over rows of rows of ints. -/
import Derived.Test.YtipkmbgebpeeoaaPEqIntSS
import Derived.Test.YtipkmbgebpeeoaaPLawInt
import Derived.Test.YtipkmbgebpeeoaaPSzInt
import Derived.Test.YtipkmbgebpeeoaaPConcat
import Derived.Test.YtipkmbgebpeeoaaG0
import Derived.Test.YtipkmbgebpeeoaaG0
import Derived.Test.YtipkmbgebpeeoaaG0
namespace Go.Proofs.Ytipkmbgebpeeoaa.Pure
open Go.RowKit Go.Proofs.Ytipkmbgebpeeoaa.Hd Go.Proofs.YtipkmbgebpeeoaaW.PrintWords Go.Proofs.YtipkmbgebpeeoaaW.PrintLast
set_option linter.unusedVariables false
set_option linter.unusedSimpArgs false
/-- What is left behind the rows. -/
def leftSS : List (List Int) → Int → Int
  | [], a => a
  | x :: r, a => if a < (x.length : Int) then -1 else leftSS r (a - (x.length : Int))
theorem leftSS_ge : ∀ (l : List (List Int)) (a : Int), 0 ≤ a → 0 ≤ leftSS l a → leftSS l a = a - (l.flatten.length : Int)
  | [], a, _, _ => by simp [leftSS]
  | x :: r, a, h0, h => by
    simp only [leftSS] at h ⊢
    by_cases c : a < (x.length : Int)
    · rw [if_pos c] at h; omega
    · rw [if_neg c] at h ⊢
      rw [leftSS_ge r _ (by omega) h]
      simp; omega
theorem leftSS_low : ∀ (l : List (List Int)) (a : Int), 0 ≤ a → leftSS l a ≤ a
  | [], a, _ => by simp [leftSS]
  | x :: r, a, h0 => by
    simp only [leftSS]
    by_cases c : a < (x.length : Int)
    · rw [if_pos c]; omega
    · rw [if_neg c]; have := leftSS_low r (a - (x.length : Int)) (by omega); omega
theorem szIntSS_l0 (l : List (List Int)) (hl : l.length ≤ 1048576) (hr : ∀ x ∈ l, x.length ≤ 9223372036854775807) : ∀ (d i : Nat) (a : Int), i + d = l.length → 0 ≤ a → a ≤ 1048576 →
    Ev (fun k => laws_szIntSS.l0 k l a (i : Int)) (leftSS (l.drop i) a) := by
  intro d
  induction d with
  | zero =>
    intro i a hi h0 h1
    refine Ev.succ ?_
    simp only [laws_szIntSS.l0]
    rw [List.drop_of_length_le (by omega)]
    exact Ev.neg (by omega) (Ev.ret rfl)
  | succ d ih =>
    intro i a hi h0 h1
    refine Ev.succ ?_
    simp only [laws_szIntSS.l0]
    have hlt : i < l.length := by omega
    have hx : l[i].length ≤ 9223372036854775807 := hr _ (List.getElem_mem hlt)
    rw [List.drop_eq_getElem_cons hlt]
    refine Ev.pos (by omega) (Ev.pos (by omega) ?_)
    rw [rdR_at hlt]
    refine Ev.bs (szIntS_eq l[i] a h0 h1 hx) ?_
    simp only [leftSS]
    by_cases c : a < (l[i].length : Int)
    · rw [if_pos c, if_pos c]; exact Ev.pos (by omega) (Ev.ret rfl)
    · rw [if_neg c, if_neg c]
      refine Ev.neg (by omega) ?_
      rw [w64' (m := ((i + 1 : Nat) : Int)) (by omega) (by omega) (by omega)]
      exact ih (i + 1) _ (by omega) (by omega) (by omega)
theorem szIntSS_c (l : List (List Int)) (a : Int) (h0 : 0 ≤ a) (h1 : a ≤ 1048576) (hl : l.length ≤ 9223372036854775807) (hr : ∀ x ∈ l, x.length ≤ 9223372036854775807) :
    ∃ z : Int, Ev (fun k => laws_szIntSS.f k l a) z ∧ (0 ≤ z → l.length ≤ 1048576 ∧ l.flatten.length ≤ 1048576 ∧ z ≤ a) := by
  unfold laws_szIntSS.f
  rw [w64' (n := a - (l.length : Int)) rfl (by omega) (by omega)]
  by_cases c : a < (l.length : Int)
  · exact ⟨-1, Ev.pos (by omega) (Ev.ret rfl), fun h => by omega⟩
  · refine ⟨leftSS l (a - (l.length : Int)), Ev.neg (by omega) ?_, fun h => ?_⟩
    · have := szIntSS_l0 l (by omega) hr l.length 0 (a - (l.length : Int)) (by omega) (by omega) (by omega)
      simpa using this
    · have e := leftSS_ge l _ (by omega) h
      have e2 := leftSS_low l (a - (l.length : Int)) (by omega)
      refine ⟨by omega, by omega, by omega⟩
theorem set_takeR (acc l : List (List Int)) (i : Nat) (ht : acc.take i = l.take i) (ha : acc.length = l.length) (h : i < l.length) : (acc.set i l[i]).take (i + 1) = l.take (i + 1) := by
  apply List.ext_getElem?
  intro j
  rw [List.getElem?_take, List.getElem?_take]
  by_cases c : j < i + 1
  · rw [if_pos c, if_pos c, List.getElem?_set]
    by_cases e : i = j
    · subst e; simp [ha, h]
    · rw [if_neg e]
      have := congrArg (·[j]?) ht
      simp only [List.getElem?_take] at this
      rwa [if_pos (by omega), if_pos (by omega)] at this
  · rw [if_neg c, if_neg c]
theorem toIntSS_l0 (l : List (List Int)) (hl : l.length ≤ 1048576) (hr : ∀ x ∈ l, x.length ≤ 1048576) : ∀ (d i : Nat) (acc : List (List Int)), i + d = l.length → acc.length = l.length → acc.take i = l.take i →
    Ev (fun k => laws_toIntSS.l0 k l acc (i : Int)) l := by
  intro d
  induction d with
  | zero =>
    intro i acc hi ha ht
    refine Ev.succ ?_
    simp only [laws_toIntSS.l0]
    refine Ev.neg (by omega) (Ev.ret ?_)
    rw [List.take_of_length_le (by omega), List.take_of_length_le (by omega)] at ht
    exact ht
  | succ d ih =>
    intro i acc hi ha ht
    refine Ev.succ ?_
    simp only [laws_toIntSS.l0]
    have hlt : i < l.length := by omega
    have hx : l[i].length ≤ 1048576 := hr _ (List.getElem_mem hlt)
    refine Ev.pos (by omega) (Ev.pos (by omega) ?_)
    rw [rdR_at hlt]
    refine Ev.bd (toIntS_ev l[i] (by omega)) (Ev.pos (by omega) ?_)
    rw [w64' (m := ((i + 1 : Nat) : Int)) (by omega) (by omega) (by omega), Int.toNat_natCast]
    exact ih (i + 1) _ (by omega) (by rw [List.length_set]; exact ha) (set_takeR acc l i ht ha hlt)
theorem toIntSS_ev (l : List (List Int)) (hl : l.length ≤ 1048576) (hf : l.flatten.length ≤ 1048576) : Ev (fun k => laws_toIntSS.f k l) l := by
  unfold laws_toIntSS.f
  refine Ev.pos (by omega) (Ev.pos (by omega) ?_)
  exact toIntSS_l0 l hl (flat_row hf) l.length 0 _ (by omega) (by simp) (by simp)
end Go.Proofs.Ytipkmbgebpeeoaa.Pure
