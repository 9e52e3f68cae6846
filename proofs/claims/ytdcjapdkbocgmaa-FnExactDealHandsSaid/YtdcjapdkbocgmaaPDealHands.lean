/- What DealHands answers. -/
import Derived.Test.YtdcjapdkbocgmaaMDealI
import Derived.Test.YtdcjapdkbocgmaaMDealS
namespace Go.Proofs.Ytdcjapdkbocgmaa.Pure
open Go.RowKit Go.Proofs.Ytdcjapdkbocgmaa.Hd Go.Proofs.YtdcjapdkbocgmaaW.PrintWords Go.Proofs.YtdcjapdkbocgmaaW.PrintLast
set_option linter.unusedVariables false
theorem specDealHands_ev (n e z : Int) : Ev (fun k => spec_DealHands.f n e z) (resDealHands n e z) := Ev.ret rfl
theorem implDealHands_ev (n e z : Int) : Ev (fun k => impl_DealHands.f n e z) (resDealHands n e z) := Ev.ret rfl
theorem resDealHands_len (n e z : Int) : (resDealHands n e z).1.length ≤ 1048576 ∧ (resDealHands n e z).2.1.length ≤ 1048576 := by
  unfold resDealHands
  split
  · exact ⟨Nat.le_trans (sortT_len _) (by omega), Nat.le_trans (sortT_len _) (by omega)⟩
  · simp
end Go.Proofs.Ytdcjapdkbocgmaa.Pure
