/- Rows of tiles: their cells (beside MLyS in seats without spreads). -/
import Derived.Test.YtokkiiepddhkiaaDoorMSx3
namespace Go.Proofs.YtokkiiepddhkiaaDoor.Hd
open Go.RowKit Go.Proofs.YtokkiiepddhkiaaDoorW.PrintWords Go.Proofs.YtokkiiepddhkiaaDoorW.PrintLast Go.Proofs.YtokkiiepddhkiaaDoorW.PrintMore
set_option linter.unusedVariables false
theorem tile_kp {W : World} {base : Nat} (x : S_Tile) (cs : List Value) (h : k54.K W x cs) : k54.M W base (fun _ => False) x cs := by rw [k54_open h]; exact k54_mkM _ _ _ _
end Go.Proofs.YtokkiiepddhkiaaDoor.Hd
