/- What MovesOn answers. -/
import Derived.Test.YtkjaahmlnbgnjaaPGame
import Derived.Test.YtkjaahmlnbgnjaaPMoveText
import Derived.Test.YtkjaahmlnbgnjaaMPlMoves
import Derived.Test.YtkjaahmlnbgnjaaMGameMoves
import Derived.Test.YtkjaahmlnbgnjaaG5
import Derived.Test.YtkjaahmlnbgnjaaG6
namespace Go.Proofs.Ytkjaahmlnbgnjaa.Pure
open Go.RowKit Go.Proofs.Ytkjaahmlnbgnjaa.Hd Go.Proofs.YtkjaahmlnbgnjaaW.PrintWords Go.Proofs.YtkjaahmlnbgnjaaW.PrintLast
set_option linter.unusedVariables false
set_option linter.unusedSimpArgs false
theorem plTexts_l0 (l : List S_plLay) (hl : l.length ≤ 1000000) (hg : ∀ x ∈ l, x.f2 = true ∨ goodT x.f0 = true) : ∀ (d i : Nat), i + d = l.length →
    Ev (fun k => spec_plTexts.l0 k ((l.take i).map txt) l (l.length : Int) (i : Int)) (l.map txt) := by
  intro d
  induction d with
  | zero =>
    intro i hi
    refine Ev.succ ?_
    simp only [spec_plTexts.l0]
    exact Ev.neg (by omega) (Ev.ret (by rw [List.take_of_length_le (by omega)]))
  | succ d ih =>
    intro i hi
    have hlt : i < l.length := by omega
    have e : rd_plLay l (i : Int) = l[i] := by unfold rd_plLay; rw [Int.toNat_natCast]; simp [hlt]
    have IH := ih (i + 1) (by omega)
    rw [List.take_succ_eq_append_getElem hlt, List.map_append] at IH
    refine Ev.succ ?_
    simp only [spec_plTexts.l0]
    refine Ev.pos (by omega) (Ev.pos (by omega) (Ev.pos (by omega) (Ev.bs (plText_eq (rd_plLay l (i : Int)) (by rw [e]; exact hg _ (List.getElem_mem hlt))) (Ev.pos (by rw [List.length_map, List.length_take]; omega) ?_))))
    rw [w64' (n := (i : Int) + 1) (m := ((i + 1 : Nat) : Int)) (by omega) (by omega) (by omega), e]
    exact IH
theorem plTexts_ev (l : List S_plLay) (hl : l.length ≤ 1000000) (hg : ∀ x ∈ l, x.f2 = true ∨ goodT x.f0 = true) : Ev (fun k => spec_plTexts.f k l) (l.map txt) := by
  unfold spec_plTexts.f
  exact plTexts_l0 l hl hg l.length 0 (by omega)
def resMovesOn (f s : List S_Tile) (r : List Int) (t p : Int) : List ByteArray × Bool := if gameB f s r t p = true then ((movesL f s r t p).map txt, true) else ([], false)
theorem specMovesOn_ev (f s : List S_Tile) (r : List Int) (t p : Int) (hf : f.length ≤ 1048576) (hs : s.length ≤ 1048576) (hr : r.length ≤ 1048576) : Ev (fun k => spec_MovesOn.f k f s r t p) (resMovesOn f s r t p) := by
  unfold spec_MovesOn.f resMovesOn
  refine Ev.bd (plGood_ev f s r t p hf hs hr) ?_
  by_cases h : gameB f s r t p = true
  · have e : spec_plMoves.f f s r t p = some (movesL f s r t p) := by unfold spec_plMoves.f; rw [if_pos ⟨hf, hs, hr⟩]
    have hl := movesL_len f s r t p
    exact Ev.pos h (Ev.ifp h (Ev.bs e (Ev.bd (plTexts_ev _ (by omega) (movesL_good f s r t p)) (Ev.ret rfl))))
  · exact Ev.neg h (Ev.ifn h (Ev.ret rfl))
theorem implMovesOn_ev (f s : List S_Tile) (r : List Int) (t p : Int) (hf : f.length ≤ 1048576) (hs : s.length ≤ 1048576) (hr : r.length ≤ 1048576) : Ev (fun k => impl_MovesOn.f k f s r t p) (resMovesOn f s r t p) := by
  unfold impl_MovesOn.f resMovesOn
  refine Ev.bd (isGame_ev f s r t p hf hs hr) ?_
  by_cases h : gameB f s r t p = true
  · have e : impl_Game_moves.f f s r t p = some ((movesL f s r t p).map txt) := by unfold impl_Game_moves.f; rw [if_pos ⟨⟨hf, hs, hr⟩, h⟩]
    exact Ev.pos h (Ev.ifp h (Ev.bs e (Ev.ret rfl)))
  · exact Ev.neg h (Ev.ifn h (Ev.ret rfl))
theorem resMovesOn_len (f s : List S_Tile) (r : List Int) (t p : Int) : (resMovesOn f s r t p).1.length ≤ 1048576 := by
  unfold resMovesOn
  have h := movesL_len f s r t p
  split
  · simp only [List.length_map]; omega
  · simp
end Go.Proofs.Ytkjaahmlnbgnjaa.Pure
