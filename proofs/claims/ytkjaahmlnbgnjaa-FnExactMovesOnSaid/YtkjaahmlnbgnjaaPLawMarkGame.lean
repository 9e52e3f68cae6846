/- The statements' markers over games. -/
import Derived.Test.YtkjaahmlnbgnjaaPLawGame
import Derived.Test.YtkjaahmlnbgnjaaPMarkTile0
import Derived.Test.YtkjaahmlnbgnjaaPMarkInt
import Derived.Test.YtkjaahmlnbgnjaaG2
namespace Go.Proofs.Ytkjaahmlnbgnjaa.Pure
open Go.RowKit Go.Proofs.Ytkjaahmlnbgnjaa.Hd Go.Proofs.YtkjaahmlnbgnjaaW.PrintWords Go.Proofs.YtkjaahmlnbgnjaaW.PrintLast
set_option linter.unusedVariables false
set_option linter.unusedSimpArgs false
theorem markGame_ev (f s : List S_Tile) (r : List Int) (t p a : Int) (hf : f.length ≤ 4000000) (hs : s.length ≤ 4000000) (hr : r.length ≤ 4000000) (h0 : 0 ≤ a) (h1 : a ≤ 1048576) :
    Ev (fun k => laws_markGame.f k f s r t p a) (a + 2 * (f.length : Int) + 2 * (s.length : Int) + (r.length : Int), marksT f.length a, marksT s.length (a + 2 * (f.length : Int)), marks r.length (a + 2 * (f.length : Int) + 2 * (s.length : Int))) := by
  unfold laws_markGame.f
  exact Ev.bd (markTileS_ev f a (by omega) (by omega) (by omega)) (Ev.bd (markTileS_ev s (a + 2 * (f.length : Int)) (by omega) (by omega) (by omega)) (Ev.bd (markIntS_ev r (a + 2 * (f.length : Int) + 2 * (s.length : Int)) (by omega) (by omega) (by omega)) (Ev.ret rfl)))
end Go.Proofs.Ytkjaahmlnbgnjaa.Pure
