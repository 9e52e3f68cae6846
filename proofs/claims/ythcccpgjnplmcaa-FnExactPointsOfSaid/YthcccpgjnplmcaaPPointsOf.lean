/- What PointsOf answers. -/
import Derived.Test.YthcccpgjnplmcaaPOver
import Derived.Test.YthcccpgjnplmcaaPPips
import Derived.Test.YthcccpgjnplmcaaG4
import Derived.Test.YthcccpgjnplmcaaG8
namespace Go.Proofs.Ythcccpgjnplmcaa.Pure
open Go.RowKit Go.Proofs.Ythcccpgjnplmcaa.Hd Go.Proofs.YthcccpgjnplmcaaW.PrintWords Go.Proofs.YthcccpgjnplmcaaW.PrintLast
set_option linter.unusedVariables false
set_option linter.unusedSimpArgs false
def pointsW (f s : List S_Tile) : Int := wrap64 (pipsW s 0 - pipsW f 0)
def resPointsOf (f s : List S_Tile) (r : List Int) (t p : Int) : Int × Bool := if gameB f s r t p = true then (if overB f s p = true then (pointsW f s, true) else (0, false)) else (0, false)
theorem specPointsOf_ev (f s : List S_Tile) (r : List Int) (t p : Int) (hf : f.length ≤ 1048576) (hs : s.length ≤ 1048576) (hr : r.length ≤ 1048576) : Ev (fun k => spec_PointsOf.f k f s r t p) (resPointsOf f s r t p) := by
  unfold spec_PointsOf.f resPointsOf
  refine Ev.bd (plGood_ev f s r t p hf hs hr) ?_
  by_cases h : gameB f s r t p = true
  · refine Ev.pos h (Ev.ifp h (Ev.bs (plOver_eq _ _ _ _ _) ?_))
    by_cases g : overB f s p = true
    · refine Ev.pos g (Ev.ifp g (Ev.bd (a := pointsW f s) ?_ (Ev.ret rfl)))
      unfold spec_plPoints.f
      exact Ev.bd (tiPips_ev s (by omega)) (Ev.bd (tiPips_ev f (by omega)) (Ev.ret rfl))
    · exact Ev.neg g (Ev.ifn g (Ev.ret rfl))
  · exact Ev.neg h (Ev.ifn h (Ev.ret rfl))
theorem implPointsOf_ev (f s : List S_Tile) (r : List Int) (t p : Int) (hf : f.length ≤ 1048576) (hs : s.length ≤ 1048576) (hr : r.length ≤ 1048576) : Ev (fun k => impl_PointsOf.f k f s r t p) (resPointsOf f s r t p) := by
  unfold impl_PointsOf.f resPointsOf
  refine Ev.bd (isGame_ev f s r t p hf hs hr) ?_
  by_cases h : gameB f s r t p = true
  · refine Ev.pos h (Ev.ifp h (Ev.bs (isOver_eq _ _ _ _ _) ?_))
    by_cases g : overB f s p = true
    · refine Ev.pos g (Ev.ifp g (Ev.bd (a := pointsW f s) ?_ (Ev.ret rfl)))
      unfold impl_Game_points.f
      exact Ev.bd (pips_ev s (by omega)) (Ev.bd (pips_ev f (by omega)) (Ev.ret rfl))
    · exact Ev.neg g (Ev.ifn g (Ev.ret rfl))
  · exact Ev.neg h (Ev.ifn h (Ev.ret rfl))
end Go.Proofs.Ythcccpgjnplmcaa.Pure
