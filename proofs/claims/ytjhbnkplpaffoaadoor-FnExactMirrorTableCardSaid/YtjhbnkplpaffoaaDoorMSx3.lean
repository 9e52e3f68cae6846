/- The walk by slots: slicing of slices. -/
import Derived.Test.YtjhbnkplpaffoaaDoorMSx2
namespace Go.Proofs.YtjhbnkplpaffoaaDoor.Hd
open Go.RowKit Go.Proofs.YtjhbnkplpaffoaaDoorW.PrintWords Go.Proofs.YtjhbnkplpaffoaaDoorW.PrintLast Go.Proofs.YtjhbnkplpaffoaaDoorW.PrintMore
set_option linter.unusedVariables false
section
variable {P : Program} {N : Nat} {s : List (Nat × Value)} {o : Oper} {W : World} {A : Option Addr} {c : Nat} {α : Type} {xs : List α}
end
end Go.Proofs.YtjhbnkplpaffoaaDoor.Hd
