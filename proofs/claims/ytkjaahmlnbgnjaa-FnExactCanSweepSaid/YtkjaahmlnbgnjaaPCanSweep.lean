/- What CanSweep answers. -/
import Derived.Test.YtkjaahmlnbgnjaaMSweepSx
import Derived.Test.YtkjaahmlnbgnjaaMSweepIx
namespace Go.Proofs.Ytkjaahmlnbgnjaa.Pure
open Go.RowKit Go.Proofs.Ytkjaahmlnbgnjaa.Hd Go.Proofs.YtkjaahmlnbgnjaaW.PrintWords Go.Proofs.YtkjaahmlnbgnjaaW.PrintLast
set_option linter.unusedVariables false
set_option linter.unusedSimpArgs false
theorem specCanSweep_ev (f s : List S_Tile) (r : List Int) (t p : Int) (hf : f.length ≤ 1048576) (hs : s.length ≤ 1048576) (hr : r.length ≤ 1048576) : Ev (fun k => spec_CanSweep.f f s r t p) (resCanSweep f s r t p) := by
  unfold spec_CanSweep.f
  exact Ev.pos ⟨hf, hs, hr⟩ (Ev.ret rfl)
theorem implCanSweep_ev (f s : List S_Tile) (r : List Int) (t p : Int) (hf : f.length ≤ 1048576) (hs : s.length ≤ 1048576) (hr : r.length ≤ 1048576) : Ev (fun k => impl_CanSweep.f f s r t p) (resCanSweep f s r t p) := by
  unfold impl_CanSweep.f
  exact Ev.pos ⟨hf, hs, hr⟩ (Ev.ret rfl)
end Go.Proofs.Ytkjaahmlnbgnjaa.Pure
