/- MirrorTable: the table's rows backwards; plain. -/
import Derived.Test.YtokkiiepddhkiaaGreatDoorPTab2
import Derived.Test.YtokkiiepddhkiaaGreatDoorMStrJ
namespace Go.Proofs.YtokkiiepddhkiaaGreatDoor.Pure
open Go Go.RowKit Go.Proofs.YtokkiiepddhkiaaGreatDoor.Hd Go.Proofs.YtokkiiepddhkiaaGreatDoorW.PrintWords Go.Proofs.YtokkiiepddhkiaaGreatDoorW.PrintLast
set_option linter.unusedVariables false
set_option linter.unusedSimpArgs false
end Go.Proofs.YtokkiiepddhkiaaGreatDoor.Pure
