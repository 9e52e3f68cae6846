/- The walk by slots: slicing of slices. -/
import Derived.Test.YtokkiiepddhkiaaDoorMSx2
namespace Go.Proofs.YtokkiiepddhkiaaDoor.Hd
open Go.RowKit Go.Proofs.YtokkiiepddhkiaaDoorW.PrintWords Go.Proofs.YtokkiiepddhkiaaDoorW.PrintLast Go.Proofs.YtokkiiepddhkiaaDoorW.PrintMore
set_option linter.unusedVariables false
section
variable {P : Program} {N : Nat} {s : List (Nat × Value)} {o : Oper} {W : World} {A : Option Addr} {c : Nat} {α : Type} {xs : List α}
end
end Go.Proofs.YtokkiiepddhkiaaDoor.Hd
