/- Both sides sum the points behind each play alike. -/
import Derived.Test.YtojjlabkbddcjaaMLyFive
import Derived.Test.YtojjlabkbddcjaaPSpread
import Derived.Test.YtojjlabkbddcjaaG2
namespace Go.Proofs.Ytojjlabkbddcjaa.Pure
open Go.RowKit Go.Proofs.Ytojjlabkbddcjaa.Hd Go.Proofs.YtojjlabkbddcjaaW.PrintWords Go.Proofs.YtojjlabkbddcjaaW.PrintLast
set_option linter.unusedVariables false
set_option linter.unusedSimpArgs false
def resAllFives (l : List S_Play) : Int × Bool := match lyReadF l with | some _ => (fivesTo l l.length, true) | none => (0, false)
theorem specAllFives_ev (l : List S_Play) (hl : l.length ≤ 1048576) : Ev (fun k => spec_AllFives.f l) (resAllFives l) := by
  unfold spec_AllFives.f resAllFives
  refine Ev.pos (by omega) ?_
  cases lyReadF l <;> exact Ev.ret rfl
theorem implAllFives_l0 (l : List S_Play) (s : LySt) (hf : l.foldlM lyAdd lyS0 = some s) (h28 : l.length ≤ 28) : ∀ (d i : Nat), i + d = l.length → Ev (fun k => impl_AllFives.l0 k l (fivesTo l i) (l.length : Int) (i : Int)) (fivesTo l l.length, true) := by
  intro d
  induction d with
  | zero =>
    intro i hi
    obtain rfl : i = l.length := by omega
    refine Ev.succ ?_
    simp only [impl_AllFives.l0]
    exact Ev.neg (by omega) (Ev.ret rfl)
  | succ d ih =>
    intro i hi
    refine Ev.succ ?_
    simp only [impl_AllFives.l0]
    have hb := fivesTo_bd l h28 hf (i + 1) (by omega)
    rw [w64' (n := (i : Int) + 1) (m := ((i + 1 : Nat) : Int)) (by omega) (by omega) (by omega), Int.toNat_natCast]
    refine Ev.pos (by omega) (Ev.pos (by omega) (Ev.pos (by omega) ?_))
    have hlen : (l.take (i + 1)).length = i + 1 := by rw [List.length_take, Nat.min_eq_left (by omega)]
    rcases both_read (l.take (i + 1)) with ⟨h1, h2⟩ | ⟨a, t, h1, h2, R, hok, h28'⟩
    · exfalso
      unfold lyReadF at h1
      rw [if_neg (by omega)] at h1
      have := foldM_none lyAdd lyS0 l (i + 1) h1
      rw [this] at hf
      cases hf
    · have h3 : (l.take (i + 1)).foldlM lyAdd lyS0 = some a := read_fold h1
      have e : fivesTo l i + lyPointsF a = fivesTo l (i + 1) := by simp only [fivesTo, h3, Option.getD_some]
      have hso : impl_spreadOf.f (l.take (i + 1)) = some (t.ar, t.ti, t.sp, t.w0, t.w1, true) := by unfold impl_spreadOf.f; rw [h2]
      refine Ev.bs hso ?_
      dsimp only
      rw [R.ar, R.ti]
      refine Ev.bd (spPoints_ev hok h28' _ _ _) ?_
      rw [w64' (n := fivesTo l i + lyPointsF a) (m := fivesTo l (i + 1)) e (by omega) (by omega)]
      exact ih (i + 1) (by omega)
theorem implAllFives_ev (l : List S_Play) (hl : l.length ≤ 1048576) : Ev (fun k => impl_AllFives.f k l) (resAllFives l) := by
  unfold impl_AllFives.f resAllFives impl_IsSpread.f impl_spreadOf.f
  rcases both_read l with ⟨h1, h2⟩ | ⟨s, t, h1, h2, R, hok, h28⟩
  · rw [h1, h2]
    exact Ev.bs rfl (Ev.neg (by simp) (Ev.ret rfl))
  · rw [h1, h2]
    refine Ev.bs rfl (Ev.pos rfl ?_)
    exact implAllFives_l0 l s (read_fold h1) h28 l.length 0 (by omega)
end Go.Proofs.Ytojjlabkbddcjaa.Pure
