/- Arguments of whatever plain type, opened to the rows that the printed contracts speak of. -/
import Derived.Test.YtokkiiepddhkiaaDoorG0
import Derived.Deep.Slices
import Derived.Deep.Fields
import Derived.ChangeSame
import Derived.Lib.SmallJoins
namespace Go.Proofs.YtokkiiepddhkiaaDoor.Open
open Go.RowKit Go.Proofs.YtokkiiepddhkiaaDoor.Hd Go.Proofs.YtokkiiepddhkiaaDoorW.PrintWords Go.Proofs.YtokkiiepddhkiaaDoorW.PrintLast Go.ChangeShapes Go.WideShapes Go.Deep Go.Joins
set_option linter.unusedVariables false
set_option linter.unusedSimpArgs false
section
variable {P : Program} {α β γ : Type}
end
section
variable {H : Type} {enc : TypeId × Value → H} {P : Program} {w : World} {base : Nat} {spare : Nat → Bool} {held : Bool}
end
end Go.Proofs.YtokkiiepddhkiaaDoor.Open
