/- RowSums: the reference's and the program's answer (plain Lean). -/
import Derived.Test.YtnoagkhmmckiaaaPRows
import Derived.Test.YtnoagkhmmckiaaaPLawIntSS
import Derived.Test.YtnoagkhmmckiaaaG4
import Derived.Test.YtnoagkhmmckiaaaG8
namespace Go.Proofs.Ytnoagkhmmckiaaa.Pure
open Go.RowKit Go.Proofs.Ytnoagkhmmckiaaa.Hd Go.Proofs.YtnoagkhmmckiaaaW.PrintWords Go.Proofs.YtnoagkhmmckiaaaW.PrintLast
set_option linter.unusedVariables false
def resRowSums (l : List (List Int)) : List Int × Bool := if blockB l = true then (rowsV l, true) else ([], false)
theorem specRowSums_ev (l : List (List Int)) (hl : l.length ≤ 1048576) (hf : l.flatten.length ≤ 1048576) : Ev (fun k => spec_RowSums.f k l) (resRowSums l) := by
  unfold spec_RowSums.f resRowSums
  refine Ev.bd (wiBlock_ev l (flat_row hf)) ?_
  by_cases h : blockB l = true
  · rw [if_pos h]
    exact Ev.pos h (Ev.bd (wiRows_ev l hl (flat_row hf)) (Ev.ret rfl))
  · rw [if_neg h]
    exact Ev.neg h (Ev.ret rfl)
theorem implRowSums_ev (l : List (List Int)) (hl : l.length ≤ 1048576) (hf : l.flatten.length ≤ 1048576) : Ev (fun k => impl_RowSums.f k l) (resRowSums l) := by
  unfold impl_RowSums.f resRowSums
  refine Ev.bd (isBlock_ev l hl hf) ?_
  by_cases h : blockB l = true
  · rw [if_pos h]
    exact Ev.pos h (Ev.bd (rowSums_ev l hl (flat_row hf)) (Ev.ret rfl))
  · rw [if_neg h]
    exact Ev.neg h (Ev.ret rfl)
theorem resRowSums_len (l : List (List Int)) : (resRowSums l).1.length ≤ 1048576 := by
  unfold resRowSums
  by_cases h : blockB l = true
  · have := block_le h
    rw [if_pos h, rowsV_len]; omega
  · rw [if_neg h]; simp
end Go.Proofs.Ytnoagkhmmckiaaa.Pure
