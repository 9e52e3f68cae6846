/- Reading a tile of a list. -/
import Derived.Test.YtokkiiepddhkiaaDoorPEv
namespace Go.Proofs.YtokkiiepddhkiaaDoor.Pure
open Go.RowKit Go.Proofs.YtokkiiepddhkiaaDoor.Hd Go.Proofs.YtokkiiepddhkiaaDoorW.PrintWords Go.Proofs.YtokkiiepddhkiaaDoorW.PrintLast
set_option linter.unusedVariables false
set_option linter.unusedSimpArgs false
theorem rdT_at {l : List S_Tile} {i : Nat} (h : i < l.length) : rd_Tile l (i : Int) = l[i] := by simp [rd_Tile, h]
end Go.Proofs.YtokkiiepddhkiaaDoor.Pure
