/- Copies of slices of tiles. -/
import Derived.Test.YthcccpgjnplmcaaPTile
import Derived.Test.YthcccpgjnplmcaaG3
namespace Go.Proofs.Ythcccpgjnplmcaa.Pure
open Go.RowKit Go.Proofs.Ythcccpgjnplmcaa.Hd Go.Proofs.YthcccpgjnplmcaaW.PrintWords Go.Proofs.YthcccpgjnplmcaaW.PrintLast
set_option linter.unusedVariables false
set_option linter.unusedSimpArgs false
theorem cloneT_eq (l : List S_Tile) (h : l.length ≤ 1048576) : slices_Clone_impl_Tile_impl_Tile.f l = some l := by
  unfold slices_Clone_impl_Tile_impl_Tile.f
  rw [Option.bind_some, if_pos (by simp; omega), List.nil_append]
end Go.Proofs.Ythcccpgjnplmcaa.Pure
