/- Reading a tile of a list. -/
import Derived.Test.YtipkmbgebpeeoaaPEv
namespace Go.Proofs.Ytipkmbgebpeeoaa.Pure
open Go.RowKit Go.Proofs.Ytipkmbgebpeeoaa.Hd Go.Proofs.YtipkmbgebpeeoaaW.PrintWords Go.Proofs.YtipkmbgebpeeoaaW.PrintLast
set_option linter.unusedVariables false
set_option linter.unusedSimpArgs false
theorem rdT_at {l : List S_Tile} {i : Nat} (h : i < l.length) : rd_Tile l (i : Int) = l[i] := by simp [rd_Tile, h]
end Go.Proofs.Ytipkmbgebpeeoaa.Pure
