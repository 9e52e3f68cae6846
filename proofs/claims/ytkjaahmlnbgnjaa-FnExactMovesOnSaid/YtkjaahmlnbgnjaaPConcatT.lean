/- What slices.Concat over tiles answer. -/
import Derived.Test.YtkjaahmlnbgnjaaPEv
import Derived.Test.YtkjaahmlnbgnjaaMGrowTile
import Derived.Test.YtkjaahmlnbgnjaaG3
namespace Go.Proofs.Ytkjaahmlnbgnjaa.Pure
open Go.RowKit Go.Proofs.Ytkjaahmlnbgnjaa.Hd Go.Proofs.YtkjaahmlnbgnjaaW.PrintWords Go.Proofs.YtkjaahmlnbgnjaaW.PrintLast
set_option linter.unusedVariables false
set_option linter.unusedSimpArgs false
theorem rdRT_at {l : List (List S_Tile)} {i : Nat} (h : i < l.length) : rd_Tiles l (i : Int) = l[i] := by simp [rd_Tiles, h]
theorem flat_takeT (l : List (List S_Tile)) (i : Nat) (h : i < l.length) : (l.take (i + 1)).flatten = (l.take i).flatten ++ l[i] := by
  rw [List.take_succ_eq_append_getElem h, List.flatten_append]; simp
theorem flat_leT (l : List (List S_Tile)) (i : Nat) : (l.take i).flatten.length ≤ l.flatten.length := by
  conv => rhs; rw [← List.take_append_drop i l, List.flatten_append, List.length_append]
  omega
theorem concatT_l1 (l : List (List S_Tile)) (hl : l.length ≤ 1048576) (hf : l.flatten.length < 4398046511104) : ∀ (d i : Nat), i + d = l.length →
    Ev (fun k => slices_Concat_impl_Tile_impl_Tile.l1 k (l.take i).flatten l (l.length : Int) (i : Int)) l.flatten := by
  intro d
  induction d with
  | zero =>
    intro i hi
    refine Ev.succ ?_
    simp only [slices_Concat_impl_Tile_impl_Tile.l1]
    exact Ev.neg (by omega) (Ev.ret (by rw [List.take_of_length_le (by omega)]))
  | succ d ih =>
    intro i hi
    refine Ev.succ ?_
    have hlt : i < l.length := by omega
    have h1 := flat_takeT l i hlt
    have h2 := flat_leT l (i + 1)
    simp only [slices_Concat_impl_Tile_impl_Tile.l1]
    rw [w64' (n := (i : Int) + 1) (m := ((i + 1 : Nat) : Int)) (by omega) (by omega) (by omega), rdRT_at hlt, ← h1]
    refine Ev.pos (by omega) (Ev.pos (by omega) (Ev.pos (by omega) (Ev.pos ?_ (ih (i + 1) (by omega)))))
    rw [h1, List.length_append] at h2
    omega
theorem concatT_l0 (l : List (List S_Tile)) (hl : l.length ≤ 1048576) (hf : l.flatten.length < 4398046511104) : ∀ (d i : Nat), i + d = l.length →
    Ev (fun k => slices_Concat_impl_Tile_impl_Tile.l0 k l (((l.take i).flatten.length : Nat) : Int) l (l.length : Int) (i : Int)) l.flatten := by
  intro d
  induction d with
  | zero =>
    intro i hi
    refine Ev.succ ?_
    simp only [slices_Concat_impl_Tile_impl_Tile.l0]
    have h2 := flat_leT l i
    refine Ev.neg (by omega) (Ev.bs (a := []) ?_ (concatT_l1 l hl hf l.length 0 (by omega)))
    unfold slices_Grow_impl_Tile_impl_Tile.f
    rw [if_pos (by omega), if_pos (by omega)]
  | succ d ih =>
    intro i hi
    refine Ev.succ ?_
    have hlt : i < l.length := by omega
    have h1 := congrArg List.length (flat_takeT l i hlt)
    rw [List.length_append] at h1
    have h2 := flat_leT l (i + 1)
    simp only [slices_Concat_impl_Tile_impl_Tile.l0]
    rw [w64' (n := (i : Int) + 1) (m := ((i + 1 : Nat) : Int)) (by omega) (by omega) (by omega), rdRT_at hlt, w64' (n := (((l.take i).flatten.length : Nat) : Int) + (l[i].length : Int)) (m := (((l.take (i + 1)).flatten.length : Nat) : Int)) (by omega) (by omega) (by omega)]
    exact Ev.pos (by omega) (Ev.pos (by omega) (Ev.pos (by omega) (Ev.neg (by omega) (ih (i + 1) (by omega)))))
theorem concatT_ev (l : List (List S_Tile)) (hl : l.length ≤ 1048576) (hf : l.flatten.length < 4398046511104) : Ev (fun k => slices_Concat_impl_Tile_impl_Tile.f k l) l.flatten := by
  unfold slices_Concat_impl_Tile_impl_Tile.f
  have h := concatT_l0 l hl hf l.length 0 (by omega)
  simpa using h
end Go.Proofs.Ytkjaahmlnbgnjaa.Pure
