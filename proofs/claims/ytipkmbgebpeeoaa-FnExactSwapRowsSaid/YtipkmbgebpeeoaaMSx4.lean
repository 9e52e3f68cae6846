/- The walk by slots: sums of texts, remainders by what is no constant, slices within a capacity. -/
import Derived.Test.YtipkmbgebpeeoaaMSx3
namespace Go.Proofs.Ytipkmbgebpeeoaa.Hd
open Go.RowKit Go.Proofs.YtipkmbgebpeeoaaW.PrintWords Go.Proofs.YtipkmbgebpeeoaaW.PrintLast Go.Proofs.YtipkmbgebpeeoaaW.PrintMore
set_option linter.unusedVariables false
set_option linter.unusedSimpArgs false
section
variable {P : Program} {N : Nat} {s : List (Nat × Value)} {o : Oper} {W : World}
end
end Go.Proofs.Ytipkmbgebpeeoaa.Hd
