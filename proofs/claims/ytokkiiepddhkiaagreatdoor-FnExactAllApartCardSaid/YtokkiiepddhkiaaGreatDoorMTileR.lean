/- Rows of tiles: their cells (beside MLyS in seats without spreads). -/
import Derived.Test.YtokkiiepddhkiaaGreatDoorMSx3
namespace Go.Proofs.YtokkiiepddhkiaaGreatDoor.Hd
open Go.RowKit Go.Proofs.YtokkiiepddhkiaaGreatDoorW.PrintWords Go.Proofs.YtokkiiepddhkiaaGreatDoorW.PrintLast Go.Proofs.YtokkiiepddhkiaaGreatDoorW.PrintMore
set_option linter.unusedVariables false
theorem tile_kp {W : World} {base : Nat} (x : S_Tile) (cs : List Value) (h : k55.K W x cs) : k55.M W base (fun _ => False) x cs := by rw [k55_open h]; exact k55_mkM _ _ _ _
end Go.Proofs.YtokkiiepddhkiaaGreatDoor.Hd
