/- CanPlay, PlaysFor: both sides answer alike. -/
import Derived.Test.YtlphnpinpflaaaaPPlaysFor2
namespace Go.Proofs.Ytlphnpinpflaaaa.Pure
open Go.RowKit Go.Proofs.Ytlphnpinpflaaaa.Hd Go.Proofs.YtlphnpinpflaaaaW.PrintWords Go.Proofs.YtlphnpinpflaaaaW.PrintLast
set_option linter.unusedVariables false
set_option linter.unusedSimpArgs false
theorem forTo_all (s : LySt) (hand : List S_Tile) : forTo s (sortT hand) (sortT hand).length = lyForF s hand := by unfold forTo lyForF; rw [List.take_length]
def resPlaysFor (l : List S_Play) (hand : List S_Tile) : List S_Play × Bool := match lyReadF l with | some s => if handB hand = true then (lyForF s hand, true) else ([], false) | none => ([], false)
theorem resPlaysFor_len (l : List S_Play) (hand : List S_Tile) : (resPlaysFor l hand).1.length ≤ 10000 := by
  unfold resPlaysFor
  cases hf : lyReadF l with
  | none => simp
  | some s =>
    dsimp only
    split
    · obtain ⟨hok, h28⟩ := lyOk_read hf
      have h1 := forTo_len s (sortT hand) (by have := hok.ar; omega) (sortT hand).length (Nat.le_refl _)
      have h2 := sortT_len hand
      rw [forTo_all] at h1
      show (lyForF s hand).length ≤ 10000
      omega
    · simp
theorem implplaysFor_ev (l : List S_Play) (hand : List S_Tile) (s : LySt) (hf : lyReadF l = some s) (hb : handB hand = true) : Ev (fun k => impl_playsFor.f k l hand) (lyForF s hand) := by
  unfold handB at hb
  simp only [Bool.and_eq_true, decide_eq_true_eq, difT] at hb
  unfold impl_playsFor.f impl_spreadOf.f
  rcases both_read l with ⟨h1, h2⟩ | ⟨a, t, h1, h2, R, hok, h28⟩
  · rw [h1] at hf; cases hf
  · rw [h1] at hf
    injection hf with hf
    subst hf
    rw [h2]
    refine Ev.bs rfl (Ev.bs (sorted_eq hb.2.1 hb.2.2 (by omega)) ?_)
    have := playsFor_l0 l a h1 (sortT hand) (sortT_len hand) t.ti t.sp t.w0 t.w1 (sortT hand).length 0 (by omega)
    rw [forTo_all] at this
    rw [R.ar]
    simpa [forTo] using this
theorem implPlaysFor_ev (l : List S_Play) (hand : List S_Tile) (hl : l.length ≤ 1048576) (hh : hand.length ≤ 1048576) : Ev (fun k => impl_PlaysFor.f k l hand) (resPlaysFor l hand) := by
  unfold impl_PlaysFor.f resPlaysFor
  have hs : impl_IsSpread.f l = some (lyReadF l).isSome := by
    unfold impl_IsSpread.f impl_spreadOf.f
    rcases both_read l with ⟨h1, h2⟩ | ⟨a, t, h1, h2, R, hok, h28⟩ <;> rw [h1, h2] <;> rfl
  refine Ev.bs hs ?_
  cases hf : lyReadF l with
  | none => exact Ev.neg (by simp) (Ev.ret rfl)
  | some s =>
    refine Ev.pos rfl (Ev.bd (isHand_ev hand) ?_)
    by_cases h : handB hand = true
    · refine Ev.pos h (Ev.bd (implplaysFor_ev l hand s hf h) (Ev.ret (by simp [h])))
    · exact Ev.neg h (Ev.ret (by simp [h]))
end Go.Proofs.Ytlphnpinpflaaaa.Pure
