/- SwapRows, the plain words: two rows of a block exchanged. -/
import Derived.Test.YtipkmbgebpeeoaaPBlock
import Derived.Test.YtipkmbgebpeeoaaPEqIntSS
import Derived.Test.YtipkmbgebpeeoaaPCloneI
import Derived.Test.YtipkmbgebpeeoaaMSxW
namespace Go.Proofs.Ytipkmbgebpeeoaa.Pure
open Go.RowKit Go.Proofs.Ytipkmbgebpeeoaa.Hd Go.Proofs.YtipkmbgebpeeoaaW.PrintWords Go.Proofs.YtipkmbgebpeeoaaW.PrintLast
set_option linter.unusedVariables false
set_option linter.unusedSimpArgs false
def okSw (l : List (List Int)) (i j : Int) : Bool := blockB l && [i, j].all (inB 0 ((l.length : Int) - 1))
def swR (l : List (List Int)) (i j : Nat) : List (List Int) := if h : i < l.length ∧ j < l.length then swL l i j h.1 h.2 else l
def resSwapRows (l : List (List Int)) (i j : Int) : List (List Int) × Bool := if okSw l i j = true then (swR l i.toNat j.toNat, true) else ([], false)
theorem inB_iffS {a b x : Int} : inB a b x = true ↔ a ≤ x ∧ x ≤ b := by simp [inB]
theorem block_rows {l : List (List Int)} (h : blockB l = true) : l.length ≤ 3 ∧ ∀ x ∈ l, x.length ≤ 4 := by
  unfold blockB at h
  simp only [Bool.and_eq_true] at h
  obtain ⟨h1, h2, h3⟩ := h
  have h4 := inB_iffS.1 h1
  exact ⟨by omega, fun x hx => (rowOk_even (List.all_eq_true.1 h2 x hx)).2.1⟩
theorem sw_in {l : List (List Int)} {i j : Int} (h : [i, j].all (inB 0 ((l.length : Int) - 1)) = true) : (0 ≤ i ∧ i < (l.length : Int)) ∧ 0 ≤ j ∧ j < (l.length : Int) := by
  simp only [List.all_cons, List.all_nil, Bool.and_true, Bool.and_eq_true] at h
  have h1 := inB_iffS.1 h.1
  have h2 := inB_iffS.1 h.2
  omega
theorem rd_len {l : List (List Int)} {B : Nat} (h : ∀ x ∈ l, x.length ≤ B) (i : Nat) (hi : i < l.length) : (rd_i64s l (i : Int)).length ≤ B := by
  rw [rdR_at hi]; exact h _ (List.getElem_mem hi)
theorem take_push (l : List (List Int)) (i : Nat) (hi : i < l.length) : l.take i ++ [rd_i64s l (i : Int)] = l.take (i + 1) := by
  rw [rdR_at hi, List.take_succ_eq_append_getElem hi]
end Go.Proofs.Ytipkmbgebpeeoaa.Pure
