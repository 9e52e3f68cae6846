/- Plain facts on tiles: the places in a list, good tiles. -/
import Derived.Test.YtkjaahmlnbgnjaaPEv
import Derived.Test.YtkjaahmlnbgnjaaMWithin
import Derived.Test.YtkjaahmlnbgnjaaG1
import Derived.Test.YtkjaahmlnbgnjaaG1
import Derived.Test.YtkjaahmlnbgnjaaG1
import Derived.Test.YtkjaahmlnbgnjaaG0
import Derived.Test.YtkjaahmlnbgnjaaG1
import Derived.Test.YtkjaahmlnbgnjaaG1
namespace Go.Proofs.Ytkjaahmlnbgnjaa.Pure
open Go.RowKit Go.Proofs.Ytkjaahmlnbgnjaa.Hd Go.Proofs.YtkjaahmlnbgnjaaW.PrintWords Go.Proofs.YtkjaahmlnbgnjaaW.PrintLast
set_option linter.unusedVariables false
set_option linter.unusedSimpArgs false
def eqT (a b : S_Tile) : Bool := a.f0 == b.f0 && (a.f1 == b.f1)
theorem eqT_iff {a b : S_Tile} : eqT a b = true ↔ a = b := by
  cases a; cases b; simp [eqT]
instance instDecT : DecidableEq S_Tile := fun a b => decidable_of_iff (eqT a b = true) eqT_iff
theorem l1In_eq (n a b : Int) : spec_l1In.f n a b = some (inB a b n) := by
  unfold spec_l1In.f inB
  by_cases h : n ≥ a
  · rw [if_pos h, decide_eq_true (show a ≤ n from h), Bool.true_and]
  · rw [if_neg h, decide_eq_false (show ¬ a ≤ n from h), Bool.false_and]
end Go.Proofs.Ytkjaahmlnbgnjaa.Pure
