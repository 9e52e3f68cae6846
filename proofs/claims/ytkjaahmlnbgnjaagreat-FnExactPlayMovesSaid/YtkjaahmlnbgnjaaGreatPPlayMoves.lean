/- What PlayMoves answers. -/
import Derived.Test.YtkjaahmlnbgnjaaGreatMPlayS
import Derived.Test.YtkjaahmlnbgnjaaGreatMPlayI
namespace Go.Proofs.YtkjaahmlnbgnjaaGreat.Pure
open Go.RowKit Go.Proofs.YtkjaahmlnbgnjaaGreat.Hd Go.Proofs.YtkjaahmlnbgnjaaGreatW.PrintWords Go.Proofs.YtkjaahmlnbgnjaaGreatW.PrintLast
set_option linter.unusedVariables false
set_option linter.unusedSimpArgs false
theorem specPlayMoves_ev (f s : List S_Tile) (r : List Int) (t p : Int) (l : List ByteArray) (hf : f.length ≤ 1048576) (hs : s.length ≤ 1048576) (hr : r.length ≤ 1048576) : Ev (fun k => spec_PlayMoves.f f s r t p l) (resPlayMoves f s r t p l) := by
  unfold spec_PlayMoves.f
  exact Ev.pos ⟨hf, hs, hr⟩ (Ev.ret rfl)
theorem implPlayMoves_ev (f s : List S_Tile) (r : List Int) (t p : Int) (l : List ByteArray) (hf : f.length ≤ 1048576) (hs : s.length ≤ 1048576) (hr : r.length ≤ 1048576) : Ev (fun k => impl_PlayMoves.f f s r t p l) (resPlayMoves f s r t p l) := by
  unfold impl_PlayMoves.f
  exact Ev.pos ⟨hf, hs, hr⟩ (Ev.ret rfl)
end Go.Proofs.YtkjaahmlnbgnjaaGreat.Pure
