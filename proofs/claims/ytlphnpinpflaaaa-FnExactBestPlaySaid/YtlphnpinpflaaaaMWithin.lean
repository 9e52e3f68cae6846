/- impl.areWithin: by hand (it hands a function literal to slices.ContainsFunc). -/
import Derived.Test.YtlphnpinpflaaaaG0
namespace Go.Proofs.Ytlphnpinpflaaaa.Hd
set_option linter.unusedVariables false
set_option linter.unusedSimpArgs false
open Go.RowKit Go.Proofs.YtlphnpinpflaaaaW.PrintWords Go.Proofs.YtlphnpinpflaaaaW.PrintLast Go.Proofs.YtlphnpinpflaaaaW.PrintMore
def inB (a b x : Int) : Bool := decide (a ≤ x) && decide (x ≤ b)
def impl_areWithin.f (l0 : List Int) (a1 : Int) (a2 : Int) : Option Bool := some (l0.all (inB a1 a2))

end Go.Proofs.Ytlphnpinpflaaaa.Hd
