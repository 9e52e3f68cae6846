/- What HeavyLine answers. -/
import Derived.Test.YtkjaahmlnbgnjaaGreatMHeavyS
import Derived.Test.YtkjaahmlnbgnjaaGreatMHeavyI
namespace Go.Proofs.YtkjaahmlnbgnjaaGreat.Pure
open Go.RowKit Go.Proofs.YtkjaahmlnbgnjaaGreat.Hd Go.Proofs.YtkjaahmlnbgnjaaGreatW.PrintWords Go.Proofs.YtkjaahmlnbgnjaaGreatW.PrintLast
set_option linter.unusedVariables false
set_option linter.unusedSimpArgs false
theorem specHeavyLine_ev (f s : List S_Tile) (r : List Int) (t p : Int) (hf : f.length ≤ 1048576) (hs : s.length ≤ 1048576) (hr : r.length ≤ 1048576) : Ev (fun k => spec_HeavyLine.f f s r t p) (resHeavyLine f s r t p) := by
  unfold spec_HeavyLine.f
  exact Ev.pos ⟨hf, hs, hr⟩ (Ev.ret rfl)
theorem implHeavyLine_ev (f s : List S_Tile) (r : List Int) (t p : Int) (hf : f.length ≤ 1048576) (hs : s.length ≤ 1048576) (hr : r.length ≤ 1048576) : Ev (fun k => impl_HeavyLine.f f s r t p) (resHeavyLine f s r t p) := by
  unfold impl_HeavyLine.f
  exact Ev.pos ⟨hf, hs, hr⟩ (Ev.ret rfl)
end Go.Proofs.YtkjaahmlnbgnjaaGreat.Pure
