/- The program's LeastWindow answers what the reference's answers, for every list of ints. -/
import Derived.Test.YtnoagkhmmckiaaaPMarkInt
import Derived.Test.YtnoagkhmmckiaaaPLeast
import Derived.Test.YtnoagkhmmckiaaaG4
namespace Go.Proofs.Ytnoagkhmmckiaaa.Pure
open Go.RowKit Go.Proofs.Ytnoagkhmmckiaaa.Hd Go.Proofs.YtnoagkhmmckiaaaW.PrintWords Go.Proofs.YtnoagkhmmckiaaaW.PrintLast
set_option linter.unusedVariables false
set_option linter.unusedSimpArgs false
theorem FnExactLeastWindow : laws_FnExactLeastWindow.Pure := by
  intro l hl_l hr_l hw_l
  refine Ev.fin ?_
  unfold laws_FnExactLeastWindow.f
  by_cases h : l.length ≤ 1048576
  · have hb := resLeastWindow_len l
    refine Ev.neg (by omega) (Ev.bd (toIntS_ev l (by omega)) (Ev.bd (specLeastWindow_ev l) (Ev.bd (toIntS_ev l (by omega)) (Ev.bd (implLeastWindow_ev l) ?_))))
    refine Ev.bd (eqIntS_ev (resLeastWindow l).1 (by omega)) (Ev.pos rfl ?_)
    refine Ev.succ ?_
    simp only [laws_FnExactLeastWindow.j0]
    refine Ev.neg (by simp) (Ev.bd (toIntS_ev l (by omega)) (Ev.bd (eqIntS_ev l (by omega)) (Ev.pos rfl (Ev.bd (markIntS_ev l 1 (by omega) (by omega) (by omega)) ?_))))
    refine Ev.neg (by simp only []; omega) (Ev.bd (eqIntS_ev (resLeastWindow l).1 (by omega)) (Ev.pos rfl ?_))
    refine Ev.succ ?_
    simp only [laws_FnExactLeastWindow.j1]
    refine Ev.neg (by simp) (Ev.bd (markIntS_ev (resLeastWindow l).1 1 (by omega) (by omega) (by omega)) (Ev.bd (heldIntS_ev (resLeastWindow l).1.length 1 (by omega) (by omega) (by omega)) (Ev.neg (by omega) (Ev.pos rfl ?_))))
    refine Ev.bd (toIntS_ev l (by omega)) (Ev.bd (implLeastWindow_ev l) (Ev.bd (eqIntS_ev (resLeastWindow l).1 (by omega)) (Ev.pos rfl ?_)))
    refine Ev.succ ?_
    simp only [laws_FnExactLeastWindow.j2]
    exact Ev.neg (by simp) (Ev.bd (heldIntS_ev (resLeastWindow l).1.length 1 (by omega) (by omega) (by omega)) (Ev.neg (by omega) (Ev.pos rfl (Ev.ret rfl))))
  · exact Ev.pos (by omega) (Ev.ret rfl)
end Go.Proofs.Ytnoagkhmmckiaaa.Pure
