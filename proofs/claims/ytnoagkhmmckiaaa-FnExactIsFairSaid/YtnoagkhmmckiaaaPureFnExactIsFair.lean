/- The program's IsFair answers what the reference's answers, for every list of ints. -/
import Derived.Test.YtnoagkhmmckiaaaPLawInt
import Derived.Test.YtnoagkhmmckiaaaPIsFair
import Derived.Test.YtnoagkhmmckiaaaG3
namespace Go.Proofs.Ytnoagkhmmckiaaa.Pure
open Go.RowKit Go.Proofs.Ytnoagkhmmckiaaa.Hd Go.Proofs.YtnoagkhmmckiaaaW.PrintWords Go.Proofs.YtnoagkhmmckiaaaW.PrintLast
set_option linter.unusedVariables false
set_option linter.unusedSimpArgs false
theorem FnExactIsFair : laws_FnExactIsFair.Pure := by
  intro l hl hr hw
  refine Ev.fin ?_
  unfold laws_FnExactIsFair.f
  by_cases h : l.length ≤ 1048576
  · refine Ev.neg (by omega) (Ev.bd (toIntS_ev l (by omega)) (Ev.bd (specIsFair_ev l) (Ev.bd (toIntS_ev l (by omega)) (Ev.bd (implIsFair_ev l) (Ev.neg (by simp) (Ev.neg (by simp) (Ev.bd (toIntS_ev l (by omega)) (Ev.bd (eqIntS_ev l (by omega)) (Ev.pos rfl (Ev.ret rfl))))))))))
  · exact Ev.pos (by omega) (Ev.ret rfl)
end Go.Proofs.Ytnoagkhmmckiaaa.Pure
