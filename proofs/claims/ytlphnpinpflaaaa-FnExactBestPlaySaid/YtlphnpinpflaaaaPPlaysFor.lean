/- Both sides list the plays of a hand alike. -/
import Derived.Test.YtlphnpinpflaaaaMLyCan
import Derived.Test.YtlphnpinpflaaaaMSpreadOf
import Derived.Test.YtlphnpinpflaaaaPBoth
import Derived.Test.YtlphnpinpflaaaaPSortT
import Derived.Test.YtlphnpinpflaaaaPIsHand
import Derived.Test.YtlphnpinpflaaaaG3
namespace Go.Proofs.Ytlphnpinpflaaaa.Pure
open Go.RowKit Go.Proofs.Ytlphnpinpflaaaa.Hd Go.Proofs.YtlphnpinpflaaaaW.PrintWords Go.Proofs.YtlphnpinpflaaaaW.PrintLast
set_option linter.unusedVariables false
set_option linter.unusedSimpArgs false
theorem readSnoc {l : List S_Play} {s : LySt} (h : lyReadF l = some s) (p : S_Play) : lyReadF (l ++ [p]) = if lyCan s p = true then some (lyDo s p) else none := by
  obtain ⟨hok, h28⟩ := lyOk_read h
  have hf := read_fold h
  have e : (l ++ [p]).foldlM lyAdd lyS0 = lyAdd s p := by rw [List.foldlM_append, hf]; simp
  unfold lyReadF
  by_cases hc : lyCan s p = true
  · have hlt : s.ti.length < 28 := by
      unfold lyCan at hc
      simp only [Bool.and_eq_true, Bool.not_eq_true', decide_eq_false_iff_not] at hc
      have := hc.1.2
      omega
    have := hok.ti
    rw [if_neg (by rw [List.length_append]; simp; omega), e, if_pos hc]
    simp [lyAdd, hc]
  · rw [e, if_neg hc]
    split
    · rfl
    · simp [lyAdd, hc]
theorem isSpread_snoc {l : List S_Play} {s : LySt} (h : lyReadF l = some s) (p : S_Play) : impl_IsSpread.f (l ++ [p]) = some (lyCan s p) := by
  have hr := readSnoc h p
  unfold impl_IsSpread.f impl_spreadOf.f
  rcases both_read (l ++ [p]) with ⟨h1, h2⟩ | ⟨a, t, h1, h2, R, hok, h28⟩
  · rw [h1] at hr
    rw [h2]
    cases hc : lyCan s p with
    | true => rw [if_pos hc] at hr; cases hr
    | false => rfl
  · rw [h1] at hr
    rw [h2]
    cases hc : lyCan s p with
    | true => rfl
    | false => rw [if_neg (by rw [hc]; simp)] at hr; cases hr
end Go.Proofs.Ytlphnpinpflaaaa.Pure
