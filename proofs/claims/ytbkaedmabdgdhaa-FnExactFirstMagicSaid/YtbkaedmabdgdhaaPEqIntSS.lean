/- The statements' comparing of rows of rows of ints. -/
import Derived.Test.YtbkaedmabdgdhaaPEqInt
import Derived.Test.YtbkaedmabdgdhaaG0
namespace Go.Proofs.Ytbkaedmabdgdhaa.Pure
open Go.RowKit Go.Proofs.Ytbkaedmabdgdhaa.Hd Go.Proofs.YtbkaedmabdgdhaaW.PrintWords Go.Proofs.YtbkaedmabdgdhaaW.PrintLast
set_option linter.unusedVariables false
set_option linter.unusedSimpArgs false
theorem rdR_at {l : List (List Int)} {i : Nat} (h : i < l.length) : rd_i64s l (i : Int) = l[i] := by simp [rd_i64s, h]
theorem flat_row {l : List (List Int)} {B : Nat} (h : l.flatten.length ≤ B) : ∀ x ∈ l, x.length ≤ B := by
  intro x hx
  refine Nat.le_trans ?_ h
  induction l with
  | nil => simp at hx
  | cons y r ih =>
    simp only [List.flatten_cons, List.length_append]
    rcases List.mem_cons.1 hx with rfl | hx
    · omega
    · have := ih (by simp only [List.flatten_cons, List.length_append] at h; omega) hx
      omega
theorem eqIntSS_l0 (l : List (List Int)) (hl : l.length ≤ 1048576) (hr : ∀ x ∈ l, x.length ≤ 1048576) : ∀ (d i : Nat), i + d = l.length → Ev (fun k => laws_eqIntSS.l0 k l l (i : Int)) true := by
  intro d
  induction d with
  | zero =>
    intro i hi
    refine Ev.succ ?_
    simp only [laws_eqIntSS.l0]
    exact Ev.neg (by omega) (Ev.ret rfl)
  | succ d ih =>
    intro i hi
    refine Ev.succ ?_
    simp only [laws_eqIntSS.l0]
    have hlt : i < l.length := by omega
    have hx : l[i].length ≤ 1048576 := hr _ (List.getElem_mem hlt)
    refine Ev.pos (by omega) (Ev.pos (by omega) (Ev.pos (by omega) ?_))
    rw [rdR_at hlt]
    refine Ev.bd (eqIntS_ev l[i] (by omega)) (Ev.pos rfl ?_)
    rw [w64' (m := ((i + 1 : Nat) : Int)) (by omega) (by omega) (by omega)]
    exact ih (i + 1) (by omega)
theorem eqIntSS_ev (l : List (List Int)) (hl : l.length ≤ 1048576) (hf : l.flatten.length ≤ 1048576) : Ev (fun k => laws_eqIntSS.f k l l) true := by
  unfold laws_eqIntSS.f
  exact Ev.pos rfl (eqIntSS_l0 l hl (flat_row hf) l.length 0 (by omega))
end Go.Proofs.Ytbkaedmabdgdhaa.Pure
