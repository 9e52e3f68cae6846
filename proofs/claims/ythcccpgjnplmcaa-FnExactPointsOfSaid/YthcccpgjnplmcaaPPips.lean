/- The pips of a hand, the program's and the reference's. -/
import Derived.Test.YthcccpgjnplmcaaPTile
import Derived.Test.YthcccpgjnplmcaaG4
import Derived.Test.YthcccpgjnplmcaaG4
namespace Go.Proofs.Ythcccpgjnplmcaa.Pure
open Go.RowKit Go.Proofs.Ythcccpgjnplmcaa.Hd Go.Proofs.YthcccpgjnplmcaaW.PrintWords Go.Proofs.YthcccpgjnplmcaaW.PrintLast
set_option linter.unusedVariables false
set_option linter.unusedSimpArgs false
def pipsW : List S_Tile → Int → Int
  | [], acc => acc
  | t :: r, acc => pipsW r (wrap64 (acc + wrap64 (t.f0 + t.f1)))
theorem tiPips_l0 (l : List S_Tile) (hl : l.length ≤ 8388608) : ∀ (d i : Nat) (acc : Int), i + d = l.length → Ev (fun k => spec_tiPips.l0 k acc l (l.length : Int) (i : Int)) (pipsW (l.drop i) acc) := by
  intro d
  induction d with
  | zero =>
    intro i acc hi
    refine Ev.succ ?_
    simp only [spec_tiPips.l0]
    rw [List.drop_of_length_le (by omega)]
    exact Ev.neg (by omega) (Ev.ret rfl)
  | succ d ih =>
    intro i acc hi
    refine Ev.succ ?_
    have hlt : i < l.length := by omega
    simp only [spec_tiPips.l0]
    rw [rdT_at hlt, w64' (n := (i : Int) + 1) (m := ((i + 1 : Nat) : Int)) (by omega) (by omega) (by omega), List.drop_eq_getElem_cons hlt]
    exact Ev.pos (by omega) (Ev.pos (by omega) (Ev.pos (by omega) (ih (i + 1) _ (by omega))))
theorem tiPips_ev (l : List S_Tile) (hl : l.length ≤ 8388608) : Ev (fun k => spec_tiPips.f k l) (pipsW l 0) := by
  unfold spec_tiPips.f
  exact tiPips_l0 l hl l.length 0 0 (by omega)
theorem pips_l0 (l : List S_Tile) (hl : l.length ≤ 8388608) : ∀ (d i : Nat) (acc : Int), i + d = l.length → Ev (fun k => impl_pips.l0 k acc l (l.length : Int) (i : Int)) (pipsW (l.drop i) acc) := by
  intro d
  induction d with
  | zero =>
    intro i acc hi
    refine Ev.succ ?_
    simp only [impl_pips.l0]
    rw [List.drop_of_length_le (by omega)]
    exact Ev.neg (by omega) (Ev.ret rfl)
  | succ d ih =>
    intro i acc hi
    refine Ev.succ ?_
    have hlt : i < l.length := by omega
    simp only [impl_pips.l0]
    rw [rdT_at hlt, w64' (n := (i : Int) + 1) (m := ((i + 1 : Nat) : Int)) (by omega) (by omega) (by omega), List.drop_eq_getElem_cons hlt]
    exact Ev.pos (by omega) (Ev.pos (by omega) (Ev.pos (by omega) (ih (i + 1) _ (by omega))))
theorem pips_ev (l : List S_Tile) (hl : l.length ≤ 8388608) : Ev (fun k => impl_pips.f k l) (pipsW l 0) := by
  unfold impl_pips.f
  exact pips_l0 l hl l.length 0 0 (by omega)
end Go.Proofs.Ythcccpgjnplmcaa.Pure
