/- What GameOf answers. -/
import Derived.Test.YthcccpgjnplmcaaPGame
import Derived.Test.YthcccpgjnplmcaaPCloneT
import Derived.Test.YthcccpgjnplmcaaPPlOwn
import Derived.Test.YthcccpgjnplmcaaG3
import Derived.Test.YthcccpgjnplmcaaG7
namespace Go.Proofs.Ythcccpgjnplmcaa.Pure
open Go.RowKit Go.Proofs.Ythcccpgjnplmcaa.Hd Go.Proofs.YthcccpgjnplmcaaW.PrintWords Go.Proofs.YthcccpgjnplmcaaW.PrintLast
set_option linter.unusedVariables false
set_option linter.unusedSimpArgs false
def resGameOf (f s : List S_Tile) : List S_Tile × List S_Tile × List Int × Int × Int × Bool := if gameB f s [] 0 0 = true then (f, s, [], 0, 0, true) else ([], [], [], 0, 0, false)
theorem specGameOf_ev (f s : List S_Tile) (hf : f.length ≤ 1048576) (hs : s.length ≤ 1048576) : Ev (fun k => spec_GameOf.f k f s) (resGameOf f s) := by
  unfold spec_GameOf.f resGameOf
  refine Ev.bs (plOwn_eq f s [] 0 0 hf hs (by simp)) (Ev.bd (plGood_ev f s [] 0 0 hf hs (by simp)) ?_)
  by_cases h : gameB f s [] 0 0 = true
  · exact Ev.pos h (Ev.ifp h (Ev.ret rfl))
  · exact Ev.neg h (Ev.ifn h (Ev.ret rfl))
theorem implGameOf_ev (f s : List S_Tile) (hf : f.length ≤ 1048576) (hs : s.length ≤ 1048576) : Ev (fun k => impl_GameOf.f k f s) (resGameOf f s) := by
  unfold impl_GameOf.f resGameOf
  refine Ev.bs (cloneT_eq f hf) (Ev.bs (cloneT_eq s hs) (Ev.bd (isGame_ev f s [] 0 0 hf hs (by simp)) ?_))
  by_cases h : gameB f s [] 0 0 = true
  · exact Ev.pos h (Ev.ifp h (Ev.ret rfl))
  · exact Ev.neg h (Ev.ifn h (Ev.ret rfl))
theorem resGameOf_len (f s : List S_Tile) (hf : f.length ≤ 1048576) (hs : s.length ≤ 1048576) : (resGameOf f s).1.length ≤ 1048576 ∧ (resGameOf f s).2.1.length ≤ 1048576 ∧ (resGameOf f s).2.2.1.length ≤ 1048576 := by
  unfold resGameOf
  split
  · exact ⟨hf, hs, by simp⟩
  · exact ⟨by simp, by simp, by simp⟩
end Go.Proofs.Ythcccpgjnplmcaa.Pure
