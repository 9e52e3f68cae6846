/- BestPlay, the program's side: plain. -/
import Derived.Test.YtlphnpinpflaaaaPCanPlay
import Derived.Test.YtlphnpinpflaaaaPBestA
import Derived.Test.YtlphnpinpflaaaaPPoints
import Derived.Test.YtlphnpinpflaaaaG1
namespace Go.Proofs.Ytlphnpinpflaaaa.Pure
open Go.RowKit Go.Proofs.Ytlphnpinpflaaaa.Hd Go.Proofs.YtlphnpinpflaaaaW.PrintWords Go.Proofs.YtlphnpinpflaaaaW.PrintLast
set_option linter.unusedVariables false
set_option linter.unusedSimpArgs false
theorem clone_playeq (l : List S_Play) (h : l.length ≤ 8388608) : slices_Clone_impl_Play_impl_Play.f l = some l := by unfold slices_Clone_impl_Play_impl_Play.f; simp; omega
/-- The points behind a play more. -/
def ptsOf (l : List S_Play) (p : S_Play) : Int := match lyReadF l with | some s => lyPointsF (lyDo s p) | none => 0
theorem ptsOf_eq {l : List S_Play} {s : LySt} (h : lyReadF l = some s) (p : S_Play) : ptsOf l p = lyPointsF (lyDo s p) := by unfold ptsOf; rw [h]
/-- What impl.spreadOf and its points answer behind a play more that can be made. -/
theorem snoc_spread {l : List S_Play} {s : LySt} (h : lyReadF l = some s) (p : S_Play) (hc : lyCan s p = true) : ∃ t : SpSt, impl_spreadOf.f (l ++ [p]) = some (t.ar, t.ti, t.sp, t.w0, t.w1, true) ∧ Ev (fun k => impl_spread_points.f k t.ar t.ti t.sp t.w0 t.w1) (lyPointsF (lyDo s p)) := by
  have hr := readSnoc h p
  rw [if_pos hc] at hr
  unfold impl_spreadOf.f
  rcases both_read (l ++ [p]) with ⟨h1, h2⟩ | ⟨a, t, h1, h2, R, hok, h28⟩
  · rw [h1] at hr; cases hr
  · rw [h1] at hr
    injection hr with hr
    subst hr
    refine ⟨t, by rw [h2], ?_⟩
    rw [R.ar, R.ti]
    exact spPoints_ev hok h28 _ _ _
theorem best_spread (l : List S_Play) (hand : List S_Tile) (i : Nat) (h : i < (resPlaysFor l hand).1.length) : ∃ t : SpSt, impl_spreadOf.f (l ++ [rd_Play (resPlaysFor l hand).1 (i : Int)]) = some (t.ar, t.ti, t.sp, t.w0, t.w1, true) ∧ Ev (fun k => impl_spread_points.f k t.ar t.ti t.sp t.w0 t.w1) (ptsOf l (rd_Play (resPlaysFor l hand).1 (i : Int))) := by
  unfold resPlaysFor at h ⊢
  cases hf : lyReadF l with
  | none => rw [hf] at h; simp at h
  | some s =>
    rw [hf] at h
    dsimp only at h ⊢
    by_cases hb : handB hand = true
    · rw [if_pos hb] at h ⊢
      rw [ptsOf_eq hf]
      exact snoc_spread hf _ (lyFor_ok s hand l.length (lyOk_read hf).1 i h).1
    · rw [if_neg hb] at h; simp at h
def bestOnStep (l : List S_Play) (b : S_Play × Int) (p : S_Play) : S_Play × Int := if ptsOf l p > b.2 then (p, ptsOf l p) else b
def bestOn (l : List S_Play) (hand : List S_Tile) (i : Nat) : S_Play × Int := ((resPlaysFor l hand).1.take i).foldl (bestOnStep l) (⟨⟨0, 0⟩, 0⟩, -1)
theorem bestOn_next (l : List S_Play) (hand : List S_Tile) (i : Nat) (h : i < (resPlaysFor l hand).1.length) : bestOn l hand (i + 1) = if ptsOf l (rd_Play (resPlaysFor l hand).1 (i : Int)) > (bestOn l hand i).2 then (rd_Play (resPlaysFor l hand).1 (i : Int), ptsOf l (rd_Play (resPlaysFor l hand).1 (i : Int))) else bestOn l hand i := by
  unfold bestOn
  rw [List.take_succ_eq_append_getElem h, List.foldl_append]
  simp only [List.foldl_cons, List.foldl_nil]
  have e : rd_Play (resPlaysFor l hand).1 (i : Int) = (resPlaysFor l hand).1[i] := by simp [rd_Play, h]
  rw [e]
  rfl
end Go.Proofs.Ytlphnpinpflaaaa.Pure
