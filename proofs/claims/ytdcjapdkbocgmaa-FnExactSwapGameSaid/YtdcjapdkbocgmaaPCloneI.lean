/- Copies of slices of ints. -/
import Derived.Test.YtdcjapdkbocgmaaPEv
import Derived.Test.YtdcjapdkbocgmaaG0
namespace Go.Proofs.Ytdcjapdkbocgmaa.Pure
open Go.RowKit Go.Proofs.Ytdcjapdkbocgmaa.Hd Go.Proofs.YtdcjapdkbocgmaaW.PrintWords Go.Proofs.YtdcjapdkbocgmaaW.PrintLast
set_option linter.unusedVariables false
set_option linter.unusedSimpArgs false
theorem cloneI_eq (l : List Int) (h : l.length ≤ 1048576) : slices_Clone_int_int.f l = some l := by
  unfold slices_Clone_int_int.f
  rw [Option.bind_some, if_pos (by simp; omega), List.nil_append]
end Go.Proofs.Ytdcjapdkbocgmaa.Pure
