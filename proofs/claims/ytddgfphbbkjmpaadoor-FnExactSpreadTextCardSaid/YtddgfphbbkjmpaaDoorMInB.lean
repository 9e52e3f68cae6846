/- A number within bounds. -/
import Derived.Test.YtddgfphbbkjmpaaDoorG0
namespace Go.Proofs.YtddgfphbbkjmpaaDoor.Hd
def inB (a b x : Int) : Bool := decide (a ≤ x) && decide (x ≤ b)
end Go.Proofs.YtddgfphbbkjmpaaDoor.Hd
