/- The statements' counting of slices of ints. -/
import Derived.Test.YtipkmbgebpeeoaaPEv
import Derived.Test.YtipkmbgebpeeoaaG0
namespace Go.Proofs.Ytipkmbgebpeeoaa.Pure
open Go.RowKit Go.Proofs.Ytipkmbgebpeeoaa.Hd Go.Proofs.YtipkmbgebpeeoaaW.PrintWords Go.Proofs.YtipkmbgebpeeoaaW.PrintLast
set_option linter.unusedVariables false
set_option linter.unusedSimpArgs false
theorem szIntS_eq (l : List Int) (a : Int) (h0 : 0 ≤ a) (h1 : a ≤ 1048576) (hl : l.length ≤ 9223372036854775807) : laws_szIntS.f l a = some (if a < l.length then -1 else a - l.length) := by
  unfold laws_szIntS.f
  rw [w64' (n := a - (l.length : Int)) rfl (by omega) (by omega)]
  by_cases h : a < (l.length : Int)
  · rw [if_pos (by omega), if_pos h]
  · rw [if_neg (by omega), if_neg h]
end Go.Proofs.Ytipkmbgebpeeoaa.Pure
