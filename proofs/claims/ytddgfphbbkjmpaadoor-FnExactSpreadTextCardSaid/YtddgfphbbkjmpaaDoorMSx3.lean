/- The walk by slots: slicing of slices. -/
import Derived.Test.YtddgfphbbkjmpaaDoorMSx2
namespace Go.Proofs.YtddgfphbbkjmpaaDoor.Hd
open Go.RowKit Go.Proofs.YtddgfphbbkjmpaaDoorW.PrintWords Go.Proofs.YtddgfphbbkjmpaaDoorW.PrintLast Go.Proofs.YtddgfphbbkjmpaaDoorW.PrintMore
set_option linter.unusedVariables false
section
variable {P : Program} {N : Nat} {s : List (Nat × Value)} {o : Oper} {W : World} {A : Option Addr} {c : Nat} {α : Type} {xs : List α}
end
end Go.Proofs.YtddgfphbbkjmpaaDoor.Hd
