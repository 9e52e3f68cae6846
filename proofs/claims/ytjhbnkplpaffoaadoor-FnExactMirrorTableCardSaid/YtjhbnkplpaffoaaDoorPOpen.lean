/- Arguments of whatever plain type, opened to the rows that the printed contracts speak of. -/
import Derived.Test.YtjhbnkplpaffoaaDoorG0
import Derived.Deep.Slices
import Derived.Deep.Fields
import Derived.ChangeSame
import Derived.Lib.SmallJoins
namespace Go.Proofs.YtjhbnkplpaffoaaDoor.Open
open Go.RowKit Go.Proofs.YtjhbnkplpaffoaaDoor.Hd Go.Proofs.YtjhbnkplpaffoaaDoorW.PrintWords Go.Proofs.YtjhbnkplpaffoaaDoorW.PrintLast Go.ChangeShapes Go.WideShapes Go.Deep Go.Joins
set_option linter.unusedVariables false
set_option linter.unusedSimpArgs false
section
variable {P : Program} {α β γ : Type}
end
section
variable {H : Type} {enc : TypeId × Value → H} {P : Program} {w : World} {base : Nat} {spare : Nat → Bool} {held : Bool}
end
end Go.Proofs.YtjhbnkplpaffoaaDoor.Open
