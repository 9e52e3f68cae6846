/- The walk by slots: slicing of slices. -/
import Derived.Test.YtkjaahmlnbgnjaaMSx2
namespace Go.Proofs.Ytkjaahmlnbgnjaa.Hd
open Go.RowKit Go.Proofs.YtkjaahmlnbgnjaaW.PrintWords Go.Proofs.YtkjaahmlnbgnjaaW.PrintLast Go.Proofs.YtkjaahmlnbgnjaaW.PrintMore
set_option linter.unusedVariables false
section
variable {P : Program} {N : Nat} {s : List (Nat × Value)} {o : Oper} {W : World} {A : Option Addr} {c : Nat} {α : Type} {xs : List α}
end
end Go.Proofs.Ytkjaahmlnbgnjaa.Hd
