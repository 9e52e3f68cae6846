/- What within answers. -/
import Derived.Test.YtbkaedmabdgdhaaPEv
import Derived.Test.YtbkaedmabdgdhaaMInB
import Derived.Test.YtbkaedmabdgdhaaG0
namespace Go.Proofs.Ytbkaedmabdgdhaa.Pure
open Go.RowKit Go.Proofs.Ytbkaedmabdgdhaa.Hd Go.Proofs.YtbkaedmabdgdhaaW.PrintWords Go.Proofs.YtbkaedmabdgdhaaW.PrintLast
set_option linter.unusedVariables false
set_option linter.unusedSimpArgs false
theorem within_eq (n a b : Int) : impl_within.f n a b = some (inB a b n) := by
  unfold impl_within.f inB
  by_cases h : a ≤ n
  · rw [if_pos h, decide_eq_true h, Bool.true_and]
  · rw [if_neg h, decide_eq_false h, Bool.false_and]
end Go.Proofs.Ytbkaedmabdgdhaa.Pure
