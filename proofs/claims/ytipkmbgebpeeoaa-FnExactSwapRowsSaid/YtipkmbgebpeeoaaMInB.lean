/- A number within bounds. -/
import Derived.Test.YtipkmbgebpeeoaaG0
namespace Go.Proofs.Ytipkmbgebpeeoaa.Hd
def inB (a b x : Int) : Bool := decide (a ≤ x) && decide (x ≤ b)
end Go.Proofs.Ytipkmbgebpeeoaa.Hd
