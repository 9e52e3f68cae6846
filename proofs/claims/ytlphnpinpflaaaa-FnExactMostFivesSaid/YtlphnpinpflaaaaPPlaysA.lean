/- impl.playsFor: what its callees answer, plain. -/
import Derived.Test.YtlphnpinpflaaaaMLyFor
import Derived.Test.YtlphnpinpflaaaaMSpreadOf
import Derived.Test.YtlphnpinpflaaaaPBoth
import Derived.Test.YtlphnpinpflaaaaPSortT
import Derived.Test.YtlphnpinpflaaaaMSorted2
import Derived.Test.YtlphnpinpflaaaaG2
import Derived.Test.YtlphnpinpflaaaaG1
namespace Go.Proofs.Ytlphnpinpflaaaa.Pure
open Go.RowKit Go.Proofs.Ytlphnpinpflaaaa.Hd Go.Proofs.YtlphnpinpflaaaaW.PrintWords Go.Proofs.YtlphnpinpflaaaaW.PrintLast
set_option linter.unusedVariables false
set_option linter.unusedSimpArgs false
theorem clone_playeq (l : List S_Play) (h : l.length ≤ 8388608) : slices_Clone_impl_Play_impl_Play.f l = some l := by unfold slices_Clone_impl_Play_impl_Play.f; simp; omega
theorem forTo_all (s : LySt) (hand : List S_Tile) : forTo s (sortT hand) (sortT hand).length = lyForF s hand := by unfold forTo lyForF; rw [List.take_length]
theorem readSnoc {l : List S_Play} {s : LySt} (h : lyReadF l = some s) (p : S_Play) : lyReadF (l ++ [p]) = if lyCan s p = true then some (lyDo s p) else none := by
  obtain ⟨hok, h28⟩ := lyOk_read h
  have hf : l.foldlM lyAdd lyS0 = some s := by
    unfold lyReadF at h
    split at h
    · cases h
    · exact h
  have e : (l ++ [p]).foldlM lyAdd lyS0 = lyAdd s p := by rw [List.foldlM_append, hf]; simp
  unfold lyReadF
  by_cases hc : lyCan s p = true
  · have hlt : s.ti.length < 28 := by
      unfold lyCan at hc
      simp only [Bool.and_eq_true, Bool.not_eq_true', decide_eq_false_iff_not] at hc
      have := hc.1.2
      omega
    have := hok.ti
    rw [if_neg (by rw [List.length_append]; simp; omega), e, if_pos hc]
    simp [lyAdd, hc]
  · rw [e, if_neg hc]
    split
    · rfl
    · simp [lyAdd, hc]
theorem isSpread_eq (l : List S_Play) : impl_IsSpread.f l = some (lyReadF l).isSome := by
  unfold impl_IsSpread.f impl_spreadOf.f
  rcases both_read l with ⟨h1, h2⟩ | ⟨a, t, h1, h2, R, hok, h28⟩ <;> rw [h1, h2] <;> rfl
theorem isSpread_snoc {l : List S_Play} {s : LySt} (h : lyReadF l = some s) (p : S_Play) : impl_IsSpread.f (l ++ [p]) = some (lyCan s p) := by
  rw [isSpread_eq, readSnoc h p]
  cases lyCan s p <;> rfl
theorem spreadOf_some {l : List S_Play} {s : LySt} (h : lyReadF l = some s) : ∃ t : SpSt, impl_spreadOf.f l = some (s.ar, s.ti, t.sp, t.w0, t.w1, true) := by
  unfold impl_spreadOf.f
  rcases both_read l with ⟨h1, h2⟩ | ⟨a, t, h1, h2, R, hok, h28⟩
  · rw [h1] at h; cases h
  · rw [h1] at h
    injection h with h
    subst h
    exact ⟨t, by rw [h2]; dsimp only; rw [R.ar, R.ti]⟩
theorem sorted_hand {hand : List S_Tile} (hb : handB hand = true) : impl_sorted.f hand = some (sortT hand) := by
  unfold handB at hb
  simp only [Bool.and_eq_true, decide_eq_true_eq, difT] at hb
  exact sorted_eq hb.2.1 hb.2.2 (by omega)
end Go.Proofs.Ytlphnpinpflaaaa.Pure
