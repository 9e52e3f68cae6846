/- IsBlock: the reference's and the program's answer (plain Lean). -/
import Derived.Test.YtnoagkhmmckiaaaPBlock
import Derived.Test.YtnoagkhmmckiaaaPLawIntSS
import Derived.Test.YtnoagkhmmckiaaaG0
namespace Go.Proofs.Ytnoagkhmmckiaaa.Pure
open Go.RowKit Go.Proofs.Ytnoagkhmmckiaaa.Hd Go.Proofs.YtnoagkhmmckiaaaW.PrintWords Go.Proofs.YtnoagkhmmckiaaaW.PrintLast
set_option linter.unusedVariables false
def resIsBlock (l : List (List Int)) : Bool := blockB l
theorem specIsBlock_ev (l : List (List Int)) (hl : l.length ≤ 1048576) (hf : l.flatten.length ≤ 1048576) : Ev (fun k => spec_IsBlock.f k l) (resIsBlock l) := by
  unfold spec_IsBlock.f
  exact Ev.bd (wiBlock_ev l (flat_row hf)) (Ev.ret rfl)
theorem implIsBlock_ev (l : List (List Int)) (hl : l.length ≤ 1048576) (hf : l.flatten.length ≤ 1048576) : Ev (fun k => impl_IsBlock.f k l) (resIsBlock l) := isBlock_ev l hl hf
end Go.Proofs.Ytnoagkhmmckiaaa.Pure
