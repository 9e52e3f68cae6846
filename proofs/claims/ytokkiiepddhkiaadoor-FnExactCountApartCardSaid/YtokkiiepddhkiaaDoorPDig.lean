/- The text of digits of a grid: the reference's taDigits; plain. -/
import Derived.Test.YtokkiiepddhkiaaDoorPMirP
import Derived.Test.YtokkiiepddhkiaaDoorPCells
import Derived.Test.YtokkiiepddhkiaaDoorG2
namespace Go.Proofs.YtokkiiepddhkiaaDoor.Pure
open Go Go.RowKit Go.Proofs.YtokkiiepddhkiaaDoor.Hd Go.Proofs.YtokkiiepddhkiaaDoorW.PrintWords Go.Proofs.YtokkiiepddhkiaaDoorW.PrintLast
set_option linter.unusedVariables false
set_option linter.unusedSimpArgs false
end Go.Proofs.YtokkiiepddhkiaaDoor.Pure
