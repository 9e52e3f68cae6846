/- Reading a tile of a list. -/
import Derived.Test.YtjaojemmbeddfaaGreatPEv
namespace Go.Proofs.YtjaojemmbeddfaaGreat.Pure
open Go.RowKit Go.Proofs.YtjaojemmbeddfaaGreat.Hd Go.Proofs.YtjaojemmbeddfaaGreatW.PrintWords Go.Proofs.YtjaojemmbeddfaaGreatW.PrintLast
set_option linter.unusedVariables false
set_option linter.unusedSimpArgs false
theorem rdT_at {l : List S_Tile} {i : Nat} (h : i < l.length) : rd_Tile l (i : Int) = l[i] := by simp [rd_Tile, h]
end Go.Proofs.YtjaojemmbeddfaaGreat.Pure
