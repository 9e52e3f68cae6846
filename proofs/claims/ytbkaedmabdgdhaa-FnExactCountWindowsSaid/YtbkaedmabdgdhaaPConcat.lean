/- What slices.Concat and slices.Compare over ints answer. -/
import Derived.Test.YtbkaedmabdgdhaaPEv
import Derived.Test.YtbkaedmabdgdhaaMGrowInt
import Derived.Test.YtbkaedmabdgdhaaG1
import Derived.Test.YtbkaedmabdgdhaaG0
namespace Go.Proofs.Ytbkaedmabdgdhaa.Pure
open Go.RowKit Go.Proofs.Ytbkaedmabdgdhaa.Hd Go.Proofs.YtbkaedmabdgdhaaW.PrintWords Go.Proofs.YtbkaedmabdgdhaaW.PrintLast
set_option linter.unusedVariables false
set_option linter.unusedSimpArgs false
end Go.Proofs.Ytbkaedmabdgdhaa.Pure
namespace Go.Proofs.Ytbkaedmabdgdhaa.Pure
open Go.RowKit Go.Proofs.Ytbkaedmabdgdhaa.Hd Go.Proofs.YtbkaedmabdgdhaaW.PrintWords Go.Proofs.YtbkaedmabdgdhaaW.PrintLast
set_option linter.unusedVariables false
set_option linter.unusedSimpArgs false
theorem rdR_at {l : List (List Int)} {i : Nat} (h : i < l.length) : rd_i64s l (i : Int) = l[i] := by simp [rd_i64s, h]
end Go.Proofs.Ytbkaedmabdgdhaa.Pure
namespace Go.Proofs.Ytbkaedmabdgdhaa.Pure
open Go.RowKit Go.Proofs.Ytbkaedmabdgdhaa.Hd Go.Proofs.YtbkaedmabdgdhaaW.PrintWords Go.Proofs.YtbkaedmabdgdhaaW.PrintLast
set_option linter.unusedVariables false
set_option linter.unusedSimpArgs false
theorem flat_take (l : List (List Int)) (i : Nat) (h : i < l.length) : (l.take (i + 1)).flatten = (l.take i).flatten ++ l[i] := by
  rw [List.take_succ_eq_append_getElem h, List.flatten_append]; simp
theorem flat_le (l : List (List Int)) (i : Nat) : (l.take i).flatten.length ≤ l.flatten.length := by
  conv => rhs; rw [← List.take_append_drop i l, List.flatten_append, List.length_append]
  omega
theorem concat_l1 (l : List (List Int)) (hl : l.length ≤ 1048576) (hf : l.flatten.length < 8796093022208) : ∀ (d i : Nat), i + d = l.length →
    Ev (fun k => slices_Concat_int_int.l1 k (l.take i).flatten l (l.length : Int) (i : Int)) l.flatten := by
  intro d
  induction d with
  | zero =>
    intro i hi
    refine Ev.succ ?_
    simp only [slices_Concat_int_int.l1]
    exact Ev.neg (by omega) (Ev.ret (by rw [List.take_of_length_le (by omega)]))
  | succ d ih =>
    intro i hi
    refine Ev.succ ?_
    have hlt : i < l.length := by omega
    have h1 := flat_take l i hlt
    have h2 := flat_le l (i + 1)
    simp only [slices_Concat_int_int.l1]
    rw [w64' (n := (i : Int) + 1) (m := ((i + 1 : Nat) : Int)) (by omega) (by omega) (by omega), rdR_at hlt, ← h1]
    refine Ev.pos (by omega) (Ev.pos (by omega) (Ev.pos (by omega) (Ev.pos ?_ (ih (i + 1) (by omega)))))
    rw [h1, List.length_append] at h2
    omega
theorem concat_l0 (l : List (List Int)) (hl : l.length ≤ 1048576) (hf : l.flatten.length < 8796093022208) : ∀ (d i : Nat), i + d = l.length →
    Ev (fun k => slices_Concat_int_int.l0 k l (((l.take i).flatten.length : Nat) : Int) l (l.length : Int) (i : Int)) l.flatten := by
  intro d
  induction d with
  | zero =>
    intro i hi
    refine Ev.succ ?_
    simp only [slices_Concat_int_int.l0]
    have h2 := flat_le l i
    refine Ev.neg (by omega) (Ev.bs (a := []) ?_ (concat_l1 l hl hf l.length 0 (by omega)))
    unfold slices_Grow_int_int.f
    rw [if_pos (by omega), if_pos (by omega)]
  | succ d ih =>
    intro i hi
    refine Ev.succ ?_
    have hlt : i < l.length := by omega
    have h1 := congrArg List.length (flat_take l i hlt)
    rw [List.length_append] at h1
    have h2 := flat_le l (i + 1)
    simp only [slices_Concat_int_int.l0]
    rw [w64' (n := (i : Int) + 1) (m := ((i + 1 : Nat) : Int)) (by omega) (by omega) (by omega), rdR_at hlt, w64' (n := (((l.take i).flatten.length : Nat) : Int) + (l[i].length : Int)) (m := (((l.take (i + 1)).flatten.length : Nat) : Int)) (by omega) (by omega) (by omega)]
    exact Ev.pos (by omega) (Ev.pos (by omega) (Ev.pos (by omega) (Ev.neg (by omega) (ih (i + 1) (by omega)))))
theorem concat_ev (l : List (List Int)) (hl : l.length ≤ 1048576) (hf : l.flatten.length < 8796093022208) : Ev (fun k => slices_Concat_int_int.f k l) l.flatten := by
  unfold slices_Concat_int_int.f
  have h := concat_l0 l hl hf l.length 0 (by omega)
  simpa using h
end Go.Proofs.Ytbkaedmabdgdhaa.Pure
