/- What within answers. -/
import Derived.Test.YtdcjapdkbocgmaaPEv
import Derived.Test.YtdcjapdkbocgmaaMWithin
import Derived.Test.YtdcjapdkbocgmaaG0
namespace Go.Proofs.Ytdcjapdkbocgmaa.Pure
open Go.RowKit Go.Proofs.Ytdcjapdkbocgmaa.Hd Go.Proofs.YtdcjapdkbocgmaaW.PrintWords Go.Proofs.YtdcjapdkbocgmaaW.PrintLast
set_option linter.unusedVariables false
set_option linter.unusedSimpArgs false
theorem within_eq (n a b : Int) : impl_within.f n a b = some (inB a b n) := by
  unfold impl_within.f inB
  by_cases h : a ≤ n
  · rw [if_pos h, decide_eq_true h, Bool.true_and]
  · rw [if_neg h, decide_eq_false h, Bool.false_and]
end Go.Proofs.Ytdcjapdkbocgmaa.Pure
