/- The program's IsOver answers what the reference's answers, for every game, whatever its parts. -/
import Derived.Test.YthcccpgjnplmcaaPLawGame
import Derived.Test.YthcccpgjnplmcaaPOver
import Derived.Test.YthcccpgjnplmcaaG10
namespace Go.Proofs.Ythcccpgjnplmcaa.Pure
open Go.RowKit Go.Proofs.Ythcccpgjnplmcaa.Hd Go.Proofs.YthcccpgjnplmcaaW.PrintWords Go.Proofs.YthcccpgjnplmcaaW.PrintLast
set_option linter.unusedVariables false
set_option linter.unusedSimpArgs false
def resIsOver (f s : List S_Tile) (r : List Int) (t p : Int) : Bool × Bool := if gameB f s r t p = true then (overB f s p, true) else (false, false)
theorem specIsOver_ev (f s : List S_Tile) (r : List Int) (t p : Int) (hf : f.length ≤ 1048576) (hs : s.length ≤ 1048576) (hr : r.length ≤ 1048576) : Ev (fun k => spec_IsOver.f k f s r t p) (resIsOver f s r t p) := by
  unfold spec_IsOver.f resIsOver
  refine Ev.bd (plGood_ev f s r t p hf hs hr) ?_
  by_cases h : gameB f s r t p = true
  · exact Ev.pos h (Ev.ifp h (Ev.bs (plOver_eq _ _ _ _ _) (Ev.ret rfl)))
  · exact Ev.neg h (Ev.ifn h (Ev.ret rfl))
theorem implIsOver_ev (f s : List S_Tile) (r : List Int) (t p : Int) (hf : f.length ≤ 1048576) (hs : s.length ≤ 1048576) (hr : r.length ≤ 1048576) : Ev (fun k => impl_IsOver.f k f s r t p) (resIsOver f s r t p) := by
  unfold impl_IsOver.f resIsOver
  refine Ev.bd (isGame_ev f s r t p hf hs hr) ?_
  by_cases h : gameB f s r t p = true
  · exact Ev.pos h (Ev.ifp h (Ev.bs (isOver_eq _ _ _ _ _) (Ev.ret rfl)))
  · exact Ev.neg h (Ev.ifn h (Ev.ret rfl))
theorem FnExactIsOver (f s : List S_LTile) (r : List Int) (t p : Int) (hf : f.length ≤ 9223372036854775807) (hs : s.length ≤ 9223372036854775807) (hr : r.length ≤ 9223372036854775807)
    (ht : (Lit.int .i64 t).wf = true) (hp : (Lit.int .i64 p).wf = true) : ∃ k, laws_FnExactIsOver.f k f s r t p = some true := by
  refine Ev.fin ?_
  obtain ⟨z, hz, hb⟩ := szGame_eq f s r t p hf hs hr
  unfold laws_FnExactIsOver.f
  refine Ev.bs hz ?_
  by_cases h : z < 0
  · exact Ev.pos h (Ev.ret rfl)
  · obtain ⟨b1, b2, b3⟩ := hb (by omega)
    have c1 := cpT_len f
    have c2 := cpT_len s
    refine Ev.neg h (Ev.bd (toGame_ev f s r t p b1 b2 b3) (Ev.bd (specIsOver_ev (cpT f) (cpT s) r t p (by omega) (by omega) (by omega)) (Ev.bd (toGame_ev f s r t p b1 b2 b3) (Ev.bd (implIsOver_ev (cpT f) (cpT s) r t p (by omega) (by omega) (by omega)) ?_))))
    refine Ev.neg (by simp) (Ev.succ ?_)
    simp only [laws_FnExactIsOver.j0]
    exact Ev.neg (by simp) (Ev.bd (toGame_ev f s r t p b1 b2 b3) (Ev.bd (eqGame_ev (cpT f) (cpT s) r t p (by omega) (by omega) (by omega)) (Ev.pos rfl (Ev.ret rfl))))
end Go.Proofs.Ythcccpgjnplmcaa.Pure
