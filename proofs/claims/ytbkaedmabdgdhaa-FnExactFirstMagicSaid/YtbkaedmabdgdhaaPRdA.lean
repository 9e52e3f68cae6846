/- Reading a tile of a list. -/
import Derived.Test.YtbkaedmabdgdhaaPEv
namespace Go.Proofs.Ytbkaedmabdgdhaa.Pure
open Go.RowKit Go.Proofs.Ytbkaedmabdgdhaa.Hd Go.Proofs.YtbkaedmabdgdhaaW.PrintWords Go.Proofs.YtbkaedmabdgdhaaW.PrintLast
set_option linter.unusedVariables false
set_option linter.unusedSimpArgs false
theorem rdT_at {l : List S_Tile} {i : Nat} (h : i < l.length) : rd_Tile l (i : Int) = l[i] := by simp [rd_Tile, h]
end Go.Proofs.Ytbkaedmabdgdhaa.Pure
