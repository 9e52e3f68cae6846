/- Copies of slices of tiles. -/
import Derived.Test.YtdcjapdkbocgmaaPTile
import Derived.Test.YtdcjapdkbocgmaaG1
namespace Go.Proofs.Ytdcjapdkbocgmaa.Pure
open Go.RowKit Go.Proofs.Ytdcjapdkbocgmaa.Hd Go.Proofs.YtdcjapdkbocgmaaW.PrintWords Go.Proofs.YtdcjapdkbocgmaaW.PrintLast
set_option linter.unusedVariables false
set_option linter.unusedSimpArgs false
theorem cloneT_eq (l : List S_Tile) (h : l.length ≤ 1048576) : slices_Clone_impl_Tile_impl_Tile.f l = some l := by
  unfold slices_Clone_impl_Tile_impl_Tile.f
  rw [Option.bind_some, if_pos (by simp; omega), List.nil_append]
end Go.Proofs.Ytdcjapdkbocgmaa.Pure
