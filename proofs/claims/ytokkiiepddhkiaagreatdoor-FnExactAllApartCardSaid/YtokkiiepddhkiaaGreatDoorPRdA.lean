/- Reading a tile of a list. -/
import Derived.Test.YtokkiiepddhkiaaGreatDoorPEv
namespace Go.Proofs.YtokkiiepddhkiaaGreatDoor.Pure
open Go.RowKit Go.Proofs.YtokkiiepddhkiaaGreatDoor.Hd Go.Proofs.YtokkiiepddhkiaaGreatDoorW.PrintWords Go.Proofs.YtokkiiepddhkiaaGreatDoorW.PrintLast
set_option linter.unusedVariables false
set_option linter.unusedSimpArgs false
theorem rdT_at {l : List S_Tile} {i : Nat} (h : i < l.length) : rd_Tile l (i : Int) = l[i] := by simp [rd_Tile, h]
end Go.Proofs.YtokkiiepddhkiaaGreatDoor.Pure
