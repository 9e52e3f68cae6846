/- What SwapGame answers. -/
import Derived.Test.YtdcjapdkbocgmaaPGame
import Derived.Test.YtdcjapdkbocgmaaPCloneT
import Derived.Test.YtdcjapdkbocgmaaPCloneI
import Derived.Test.YtdcjapdkbocgmaaPPlOwn
import Derived.Test.YtdcjapdkbocgmaaMSwapSpec
import Derived.Test.YtdcjapdkbocgmaaG4
namespace Go.Proofs.Ytdcjapdkbocgmaa.Pure
open Go.RowKit Go.Proofs.Ytdcjapdkbocgmaa.Hd Go.Proofs.YtdcjapdkbocgmaaW.PrintWords Go.Proofs.YtdcjapdkbocgmaaW.PrintLast
set_option linter.unusedVariables false
set_option linter.unusedSimpArgs false
def resSwapGame (f s : List S_Tile) (r : List Int) (t p : Int) : List S_Tile × List S_Tile × List Int × Int × Int × Bool := if gameB f s r t p = true then (s, f, r, wrap64 (1 - t), p, true) else ([], [], [], 0, 0, false)
theorem specSwapGame_ev (f s : List S_Tile) (r : List Int) (t p : Int) (hf : f.length ≤ 1048576) (hs : s.length ≤ 1048576) (hr : r.length ≤ 1048576) : Ev (fun k => spec_SwapGame.f f s r t p) (resSwapGame f s r t p) := by
  unfold spec_SwapGame.f resSwapGame
  refine Ev.pos ⟨hf, hs, hr⟩ ?_
  by_cases h : gameB f s r t p = true
  · have ht := game_turn h
    have e : wrap64 (1 - t) = 1 - t := w64' rfl (by omega) (by omega)
    rw [e]
    exact Ev.pos h (Ev.ret (by simp [h]))
  · exact Ev.neg h (Ev.ret (by simp [h]))
theorem implSwapGame_ev (f s : List S_Tile) (r : List Int) (t p : Int) (hf : f.length ≤ 1048576) (hs : s.length ≤ 1048576) (hr : r.length ≤ 1048576) : Ev (fun k => impl_SwapGame.f k f s r t p) (resSwapGame f s r t p) := by
  unfold impl_SwapGame.f resSwapGame
  refine Ev.bd (isGame_ev f s r t p hf hs hr) ?_
  by_cases h : gameB f s r t p = true
  · exact Ev.pos h (Ev.ifp h (Ev.bs (cloneT_eq s hs) (Ev.bs (cloneT_eq f hf) (Ev.bs (cloneI_eq r hr) (Ev.ret rfl)))))
  · exact Ev.neg h (Ev.ifn h (Ev.ret rfl))
theorem resSwapGame_len (f s : List S_Tile) (r : List Int) (t p : Int) (hf : f.length ≤ 1048576) (hs : s.length ≤ 1048576) (hr : r.length ≤ 1048576) : (resSwapGame f s r t p).1.length ≤ 1048576 ∧ (resSwapGame f s r t p).2.1.length ≤ 1048576 ∧ (resSwapGame f s r t p).2.2.1.length ≤ 1048576 := by
  unfold resSwapGame
  split
  · exact ⟨hs, hf, hr⟩
  · exact ⟨by simp, by simp, by simp⟩
end Go.Proofs.Ytdcjapdkbocgmaa.Pure
