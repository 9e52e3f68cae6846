/- Reading a tile of a list. -/
import Derived.Test.YtjhbnkplpaffoaaGreatDoorPTile0
namespace Go.Proofs.YtjhbnkplpaffoaaGreatDoor.Pure
open Go.RowKit Go.Proofs.YtjhbnkplpaffoaaGreatDoor.Hd Go.Proofs.YtjhbnkplpaffoaaGreatDoorW.PrintWords Go.Proofs.YtjhbnkplpaffoaaGreatDoorW.PrintLast
set_option linter.unusedVariables false
set_option linter.unusedSimpArgs false
theorem rdT_lt {l : List S_Tile} {i : Nat} (h : i < l.length) : rd_Tile l (i : Int) = l[i] := by unfold rd_Tile; rw [Int.toNat_natCast]; simp [h]
end Go.Proofs.YtjhbnkplpaffoaaGreatDoor.Pure
