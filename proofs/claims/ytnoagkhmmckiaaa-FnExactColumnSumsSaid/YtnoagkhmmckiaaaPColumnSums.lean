/- ColumnSums: the reference's and the program's answer (plain Lean). -/
import Derived.Test.YtnoagkhmmckiaaaPColumns
import Derived.Test.YtnoagkhmmckiaaaPLawIntSS
import Derived.Test.YtnoagkhmmckiaaaG3
import Derived.Test.YtnoagkhmmckiaaaG7
namespace Go.Proofs.Ytnoagkhmmckiaaa.Pure
open Go.RowKit Go.Proofs.Ytnoagkhmmckiaaa.Hd Go.Proofs.YtnoagkhmmckiaaaW.PrintWords Go.Proofs.YtnoagkhmmckiaaaW.PrintLast
set_option linter.unusedVariables false
def resColumnSums (l : List (List Int)) : List Int × Bool := if blockB l = true then (colsV l, true) else ([], false)
theorem specColumnSums_ev (l : List (List Int)) (hl : l.length ≤ 1048576) (hf : l.flatten.length ≤ 1048576) : Ev (fun k => spec_ColumnSums.f k l) (resColumnSums l) := by
  unfold spec_ColumnSums.f resColumnSums
  refine Ev.bd (wiBlock_ev l (flat_row hf)) ?_
  by_cases h : blockB l = true
  · rw [if_pos h]
    exact Ev.pos h (Ev.bd (wiColumns_ev h) (Ev.ret rfl))
  · rw [if_neg h]
    exact Ev.neg h (Ev.ret rfl)
theorem implColumnSums_ev (l : List (List Int)) (hl : l.length ≤ 1048576) (hf : l.flatten.length ≤ 1048576) : Ev (fun k => impl_ColumnSums.f k l) (resColumnSums l) := by
  unfold impl_ColumnSums.f resColumnSums
  refine Ev.bd (isBlock_ev l hl hf) ?_
  by_cases h : blockB l = true
  · rw [if_pos h]
    exact Ev.pos h (Ev.bd (columnSums_ev h) (Ev.ret rfl))
  · rw [if_neg h]
    exact Ev.neg h (Ev.ret rfl)
theorem resColumnSums_len (l : List (List Int)) (hf : l.flatten.length ≤ 1048576) : (resColumnSums l).1.length ≤ 1048576 := by
  unfold resColumnSums
  by_cases h : blockB l = true
  · have hb := block_le h
    have h0 : rd_i64s l 0 ∈ l := by
      have e : rd_i64s l ((0 : Nat) : Int) = l[0] := rdR_at (by omega)
      have e2 : rd_i64s l 0 = l[0] := e
      rw [e2]; exact List.getElem_mem (by omega)
    have := (block_row h _ h0).1
    rw [if_pos h, colsV_len]; omega
  · rw [if_neg h]; simp
end Go.Proofs.Ytnoagkhmmckiaaa.Pure
