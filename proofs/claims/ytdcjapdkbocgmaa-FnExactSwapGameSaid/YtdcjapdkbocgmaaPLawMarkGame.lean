/- The statements' markers over games. -/
import Derived.Test.YtdcjapdkbocgmaaPLawGame
import Derived.Test.YtdcjapdkbocgmaaPMarkTile
import Derived.Test.YtdcjapdkbocgmaaPMarkInt
import Derived.Test.YtdcjapdkbocgmaaG2
import Derived.Test.YtdcjapdkbocgmaaG2
namespace Go.Proofs.Ytdcjapdkbocgmaa.Pure
open Go.RowKit Go.Proofs.Ytdcjapdkbocgmaa.Hd Go.Proofs.YtdcjapdkbocgmaaW.PrintWords Go.Proofs.YtdcjapdkbocgmaaW.PrintLast
set_option linter.unusedVariables false
set_option linter.unusedSimpArgs false
theorem markGame_ev (f s : List S_Tile) (r : List Int) (t p a : Int) (hf : f.length ≤ 1048576) (hs : s.length ≤ 1048576) (hr : r.length ≤ 1048576) (h0 : 0 ≤ a) (h1 : a ≤ 1048576) :
    Ev (fun k => laws_markGame.f k f s r t p a) (a + 2 * (f.length : Int) + 2 * (s.length : Int) + (r.length : Int), marksT f.length a, marksT s.length (a + 2 * (f.length : Int)), marks r.length (a + 2 * (f.length : Int) + 2 * (s.length : Int))) := by
  unfold laws_markGame.f
  exact Ev.bd (markTileS_ev f a (by omega) (by omega) (by omega)) (Ev.bd (markTileS_ev s (a + 2 * (f.length : Int)) (by omega) (by omega) (by omega)) (Ev.bd (markIntS_ev r (a + 2 * (f.length : Int) + 2 * (s.length : Int)) (by omega) (by omega) (by omega)) (Ev.ret rfl)))
theorem heldGame_ev (n m q : Nat) (t p a : Int) (hf : n ≤ 1048576) (hs : m ≤ 1048576) (hr : q ≤ 1048576) (h0 : 0 ≤ a) (h1 : a ≤ 1048576) :
    Ev (fun k => laws_heldGame.f k (marksT n a) (marksT m (a + 2 * (n : Int))) (marks q (a + 2 * (n : Int) + 2 * (m : Int))) t p a) (a + 2 * (n : Int) + 2 * (m : Int) + (q : Int)) := by
  unfold laws_heldGame.f
  exact Ev.bd (heldTileS_ev n a (by omega) (by omega) (by omega)) (Ev.neg (by omega) (Ev.bd (heldTileS_ev m (a + 2 * (n : Int)) (by omega) (by omega) (by omega)) (Ev.neg (by omega) (Ev.bd (heldIntS_ev q (a + 2 * (n : Int) + 2 * (m : Int)) (by omega) (by omega) (by omega)) (Ev.neg (by omega) (Ev.ret rfl))))))
end Go.Proofs.Ytdcjapdkbocgmaa.Pure
