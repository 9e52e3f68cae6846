/- Rows of tiles: their cells (beside MLyS in seats without spreads). -/
import Derived.Test.YtkjaahmlnbgnjaaGreatMSx3
namespace Go.Proofs.YtkjaahmlnbgnjaaGreat.Hd
open Go.RowKit Go.Proofs.YtkjaahmlnbgnjaaGreatW.PrintWords Go.Proofs.YtkjaahmlnbgnjaaGreatW.PrintLast Go.Proofs.YtkjaahmlnbgnjaaGreatW.PrintMore
set_option linter.unusedVariables false
theorem tile_kp {W : World} {base : Nat} (x : S_Tile) (cs : List Value) (h : k59.K W x cs) : k59.M W base (fun _ => False) x cs := by rw [k59_open h]; exact k59_mkM _ _ _ _
end Go.Proofs.YtkjaahmlnbgnjaaGreat.Hd
