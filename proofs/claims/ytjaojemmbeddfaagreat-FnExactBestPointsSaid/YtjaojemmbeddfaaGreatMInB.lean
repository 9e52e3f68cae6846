/- A number within bounds. -/
import Derived.Test.YtjaojemmbeddfaaGreatG0
namespace Go.Proofs.YtjaojemmbeddfaaGreat.Hd
def inB (a b x : Int) : Bool := decide (a ≤ x) && decide (x ≤ b)
end Go.Proofs.YtjaojemmbeddfaaGreat.Hd
