/- impl.areWithin: by hand (it hands a function literal to slices.ContainsFunc). -/
import Derived.Test.YtkjaahmlnbgnjaaG0
namespace Go.Proofs.Ytkjaahmlnbgnjaa.Hd
set_option linter.unusedVariables false
set_option linter.unusedSimpArgs false
open Go.RowKit Go.Proofs.YtkjaahmlnbgnjaaW.PrintWords Go.Proofs.YtkjaahmlnbgnjaaW.PrintLast Go.Proofs.YtkjaahmlnbgnjaaW.PrintMore
def inB (a b x : Int) : Bool := decide (a ≤ x) && decide (x ≤ b)
end Go.Proofs.Ytkjaahmlnbgnjaa.Hd
