/- CountNumber: what both sides answer. -/
import Derived.Test.YtjhbnkplpaffoaaDoorPTab3
import Derived.Test.YtjhbnkplpaffoaaDoorG2
import Derived.Test.YtjhbnkplpaffoaaDoorG2
namespace Go.Proofs.YtjhbnkplpaffoaaDoor.Pure
open Go Go.RowKit Go.Proofs.YtjhbnkplpaffoaaDoor.Hd Go.Proofs.YtjhbnkplpaffoaaDoorW.PrintWords Go.Proofs.YtjhbnkplpaffoaaDoorW.PrintLast
set_option linter.unusedVariables false
set_option linter.unusedSimpArgs false
/-- The cells of a table. -/
def cells (s : ByteArray) : List Int := (rowsB s).flatMap celB
theorem cells_flat (s : ByteArray) : cells s = (rowsOf s.data.toList).flatten.map cel := by
  unfold cells rowsB
  rw [List.flatMap_map]
  have : (fun r : List UInt8 => celB (mkB r)) = fun r => r.map cel := by funext r; unfold celB; rw [toList_mkB]
  rw [show (fun a => celB (mkB a)) = fun r : List UInt8 => r.map cel from this, List.map_flatten, List.flatMap_def]
end Go.Proofs.YtjhbnkplpaffoaaDoor.Pure
