/- BlockTiles: the reference's and the program's answer (plain Lean). -/
import Derived.Test.YtnoagkhmmckiaaaPRows
import Derived.Test.YtnoagkhmmckiaaaPLawIntSS
import Derived.Test.YtnoagkhmmckiaaaG2
import Derived.Test.YtnoagkhmmckiaaaG6
namespace Go.Proofs.Ytnoagkhmmckiaaa.Pure
open Go.RowKit Go.Proofs.Ytnoagkhmmckiaaa.Hd Go.Proofs.YtnoagkhmmckiaaaW.PrintWords Go.Proofs.YtnoagkhmmckiaaaW.PrintLast
set_option linter.unusedVariables false
def resBlockTiles (l : List (List Int)) : List S_Tile × Bool := if blockB l = true then (prs l.flatten, true) else ([], false)
theorem specBlockTiles_ev (l : List (List Int)) (hl : l.length ≤ 1048576) (hf : l.flatten.length ≤ 1048576) : Ev (fun k => spec_BlockTiles.f k l) (resBlockTiles l) := by
  unfold spec_BlockTiles.f resBlockTiles
  refine Ev.bd (wiBlock_ev l (flat_row hf)) ?_
  by_cases h : blockB l = true
  · rw [if_pos h]
    refine Ev.pos h (Ev.bd (blockTiles_ev l hl hf) (Ev.ret ?_))
    rw [tiles_eq (block_le h).2.2]
  · rw [if_neg h]
    exact Ev.neg h (Ev.ret rfl)
theorem implBlockTiles_ev (l : List (List Int)) (hl : l.length ≤ 1048576) (hf : l.flatten.length ≤ 1048576) : Ev (fun k => impl_BlockTiles.f k l) (resBlockTiles l) := by
  unfold impl_BlockTiles.f resBlockTiles
  refine Ev.bd (isBlock_ev l hl hf) ?_
  by_cases h : blockB l = true
  · rw [if_pos h]
    exact Ev.pos h (Ev.bd (concat_ev l hl (by omega)) (Ev.bd (tilesIn_ev _ hf) (Ev.ret rfl)))
  · rw [if_neg h]
    exact Ev.neg h (Ev.ret rfl)
theorem resBlockTiles_len (l : List (List Int)) (hf : l.flatten.length ≤ 1048576) : (resBlockTiles l).1.length ≤ 1048576 := by
  unfold resBlockTiles
  by_cases h : blockB l = true
  · have := prs_len l.flatten
    rw [if_pos h]; simp only []; omega
  · rw [if_neg h]; simp
end Go.Proofs.Ytnoagkhmmckiaaa.Pure
