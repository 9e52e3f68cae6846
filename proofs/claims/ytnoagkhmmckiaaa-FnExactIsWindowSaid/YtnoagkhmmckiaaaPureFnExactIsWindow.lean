/- The program's IsWindow answers what the reference's answers, for every list of ints. -/
import Derived.Test.YtnoagkhmmckiaaaPLawInt
import Derived.Test.YtnoagkhmmckiaaaPIsWindow
import Derived.Test.YtnoagkhmmckiaaaG10
namespace Go.Proofs.Ytnoagkhmmckiaaa.Pure
open Go.RowKit Go.Proofs.Ytnoagkhmmckiaaa.Hd Go.Proofs.YtnoagkhmmckiaaaW.PrintWords Go.Proofs.YtnoagkhmmckiaaaW.PrintLast
set_option linter.unusedVariables false
set_option linter.unusedSimpArgs false
theorem specIsWindow_ev (l : List Int) : Ev (fun k => spec_IsWindow.f k l) (winB l) := by
  unfold spec_IsWindow.f
  exact Ev.bd (wiGood_ev l) (Ev.ret rfl)
theorem FnExactIsWindow : laws_FnExactIsWindow.Pure := by
  intro l hl hr hw
  refine Ev.fin ?_
  unfold laws_FnExactIsWindow.f
  by_cases h : l.length ≤ 1048576
  · refine Ev.neg (by omega) (Ev.bd (toIntS_ev l (by omega)) (Ev.bd (specIsWindow_ev l) (Ev.bd (toIntS_ev l (by omega)) (Ev.bd (isWindow_ev l) (Ev.neg (by simp) (Ev.bd (toIntS_ev l (by omega)) (Ev.bd (eqIntS_ev l (by omega)) (Ev.pos rfl (Ev.ret rfl)))))))))
  · exact Ev.pos (by omega) (Ev.ret rfl)
end Go.Proofs.Ytnoagkhmmckiaaa.Pure
