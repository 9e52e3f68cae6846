/- What CountTilings answers, on both sides. -/
import Derived.Test.YtkjaahmlnbgnjaaMTilSx
import Derived.Test.YtkjaahmlnbgnjaaMTilIx
namespace Go.Proofs.Ytkjaahmlnbgnjaa.Pure
open Go.RowKit Go.Proofs.Ytkjaahmlnbgnjaa.Hd Go.Proofs.YtkjaahmlnbgnjaaW.PrintWords Go.Proofs.YtkjaahmlnbgnjaaW.PrintLast
set_option linter.unusedVariables false
set_option linter.unusedSimpArgs false
end Go.Proofs.Ytkjaahmlnbgnjaa.Pure
