/- Reading a tile of a list. -/
import Derived.Test.YtddgfphbbkjmpaaDoorPEv
namespace Go.Proofs.YtddgfphbbkjmpaaDoor.Pure
open Go.RowKit Go.Proofs.YtddgfphbbkjmpaaDoor.Hd Go.Proofs.YtddgfphbbkjmpaaDoorW.PrintWords Go.Proofs.YtddgfphbbkjmpaaDoorW.PrintLast
set_option linter.unusedVariables false
set_option linter.unusedSimpArgs false
theorem rdT_at {l : List S_Tile} {i : Nat} (h : i < l.length) : rd_Tile l (i : Int) = l[i] := by simp [rd_Tile, h]
end Go.Proofs.YtddgfphbbkjmpaaDoor.Pure
