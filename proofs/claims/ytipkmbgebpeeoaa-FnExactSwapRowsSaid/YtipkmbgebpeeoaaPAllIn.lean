/- All numbers of a list within bounds. -/
import Derived.Test.YtipkmbgebpeeoaaPTile0
import Derived.Test.YtipkmbgebpeeoaaMWithin
import Derived.Test.YtipkmbgebpeeoaaG0
namespace Go.Proofs.Ytipkmbgebpeeoaa.Pure
open Go.RowKit Go.Proofs.Ytipkmbgebpeeoaa.Hd Go.Proofs.YtipkmbgebpeeoaaW.PrintWords Go.Proofs.YtipkmbgebpeeoaaW.PrintLast
set_option linter.unusedVariables false
set_option linter.unusedSimpArgs false
theorem l1All_l0 (l : List Int) (hl : l.length ≤ 8388608) (a b : Int) : ∀ (d i : Nat), i + d = l.length → (l.take i).all (inB a b) = true →
    Ev (fun k => spec_l1All.l0 k a b l (l.length : Int) (i : Int)) (l.all (inB a b)) := by
  intro d
  induction d with
  | zero =>
    intro i hi hn
    refine Ev.succ ?_
    simp only [spec_l1All.l0]
    rw [List.take_of_length_le (by omega)] at hn
    exact Ev.neg (by omega) (Ev.ret hn.symm)
  | succ d ih =>
    intro i hi hn
    refine Ev.succ ?_
    have hlt : i < l.length := by omega
    simp only [spec_l1All.l0]
    refine Ev.pos (by omega) (Ev.pos (by omega) (Ev.pos (by omega) (Ev.bs (l1In_eq _ _ _) ?_)))
    rw [w64' (n := (i : Int) + 1) (m := ((i + 1 : Nat) : Int)) (by omega) (by omega) (by omega), rd_at hlt]
    by_cases e : inB a b l[i] = true
    · refine Ev.pos e (ih (i + 1) (by omega) ?_)
      rw [List.take_succ_eq_append_getElem hlt, List.all_append, hn]
      simp [e]
    · refine Ev.neg e (Ev.ret ?_)
      refine (List.all_eq_false.2 ⟨l[i], List.getElem_mem hlt, e⟩).symm
theorem l1All_ev (l : List Int) (hl : l.length ≤ 8388608) (a b : Int) : Ev (fun k => spec_l1All.f k l a b) (l.all (inB a b)) := by
  unfold spec_l1All.f
  exact l1All_l0 l hl a b l.length 0 (by omega) (by simp)
theorem areWithin_eq (l : List Int) (a b : Int) : impl_areWithin.f l a b = some (l.all (inB a b)) := rfl
end Go.Proofs.Ytipkmbgebpeeoaa.Pure
