/- A number within bounds. -/
import Derived.Test.YtbkaedmabdgdhaaG0
namespace Go.Proofs.Ytbkaedmabdgdhaa.Hd
def inB (a b x : Int) : Bool := decide (a ≤ x) && decide (x ≤ b)
end Go.Proofs.Ytbkaedmabdgdhaa.Hd
