/- What within answers. -/
import Derived.Test.YtkjaahmlnbgnjaaPEv
import Derived.Test.YtkjaahmlnbgnjaaMWithin
import Derived.Test.YtkjaahmlnbgnjaaG0
namespace Go.Proofs.Ytkjaahmlnbgnjaa.Pure
open Go.RowKit Go.Proofs.Ytkjaahmlnbgnjaa.Hd Go.Proofs.YtkjaahmlnbgnjaaW.PrintWords Go.Proofs.YtkjaahmlnbgnjaaW.PrintLast
set_option linter.unusedVariables false
set_option linter.unusedSimpArgs false
theorem within_eq (n a b : Int) : impl_within.f n a b = some (inB a b n) := by
  unfold impl_within.f inB
  by_cases h : a ≤ n
  · rw [if_pos h, decide_eq_true h, Bool.true_and]
  · rw [if_neg h, decide_eq_false h, Bool.false_and]
end Go.Proofs.Ytkjaahmlnbgnjaa.Pure
