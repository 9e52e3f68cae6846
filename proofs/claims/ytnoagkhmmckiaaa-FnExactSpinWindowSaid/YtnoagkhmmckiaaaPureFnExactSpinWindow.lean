/- The program's SpinWindow answers what the reference's answers, for every list of ints and every number. -/
import Derived.Test.YtnoagkhmmckiaaaPMarkInt
import Derived.Test.YtnoagkhmmckiaaaPSpinOf
import Derived.Test.YtnoagkhmmckiaaaG5
namespace Go.Proofs.Ytnoagkhmmckiaaa.Pure
open Go.RowKit Go.Proofs.Ytnoagkhmmckiaaa.Hd Go.Proofs.YtnoagkhmmckiaaaW.PrintWords Go.Proofs.YtnoagkhmmckiaaaW.PrintLast
set_option linter.unusedVariables false
set_option linter.unusedSimpArgs false
theorem FnExactSpinWindow : laws_FnExactSpinWindow.Pure := by
  intro l n hl_l hr_l hw_l hw_n
  refine Ev.fin ?_
  unfold laws_FnExactSpinWindow.f
  by_cases h : l.length ≤ 1048576
  · have hb := resSpinWindow_len l n
    refine Ev.neg (by omega) (Ev.bd (toIntS_ev l (by omega)) (Ev.bd (specSpinWindow_ev l n) (Ev.bd (toIntS_ev l (by omega)) (Ev.bd (implSpinWindow_ev l n) ?_))))
    refine Ev.bd (eqIntS_ev (resSpinWindow l n).1 (by omega)) (Ev.pos rfl ?_)
    refine Ev.succ ?_
    simp only [laws_FnExactSpinWindow.j0]
    refine Ev.neg (by simp) (Ev.bd (toIntS_ev l (by omega)) (Ev.bd (eqIntS_ev l (by omega)) (Ev.pos rfl (Ev.bd (markIntS_ev l 1 (by omega) (by omega) (by omega)) ?_))))
    refine Ev.neg (by simp only []; omega) (Ev.bd (eqIntS_ev (resSpinWindow l n).1 (by omega)) (Ev.pos rfl ?_))
    refine Ev.succ ?_
    simp only [laws_FnExactSpinWindow.j1]
    refine Ev.neg (by simp) (Ev.bd (markIntS_ev (resSpinWindow l n).1 1 (by omega) (by omega) (by omega)) (Ev.bd (heldIntS_ev (resSpinWindow l n).1.length 1 (by omega) (by omega) (by omega)) (Ev.neg (by omega) (Ev.pos rfl ?_))))
    refine Ev.bd (toIntS_ev l (by omega)) (Ev.bd (implSpinWindow_ev l n) (Ev.bd (eqIntS_ev (resSpinWindow l n).1 (by omega)) (Ev.pos rfl ?_)))
    refine Ev.succ ?_
    simp only [laws_FnExactSpinWindow.j2]
    exact Ev.neg (by simp) (Ev.bd (heldIntS_ev (resSpinWindow l n).1.length 1 (by omega) (by omega) (by omega)) (Ev.neg (by omega) (Ev.pos rfl (Ev.ret rfl))))
  · exact Ev.pos (by omega) (Ev.ret rfl)
end Go.Proofs.Ytnoagkhmmckiaaa.Pure
