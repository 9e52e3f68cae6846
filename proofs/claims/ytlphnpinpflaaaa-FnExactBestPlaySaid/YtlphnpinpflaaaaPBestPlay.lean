/- BestPlay: both sides answer alike. -/
import Derived.Test.YtlphnpinpflaaaaMLyBest
import Derived.Test.YtlphnpinpflaaaaMBestI
namespace Go.Proofs.Ytlphnpinpflaaaa.Pure
open Go.RowKit Go.Proofs.Ytlphnpinpflaaaa.Hd Go.Proofs.YtlphnpinpflaaaaW.PrintWords Go.Proofs.YtlphnpinpflaaaaW.PrintLast
set_option linter.unusedVariables false
set_option linter.unusedSimpArgs false
def resBestPlay (l : List S_Play) (hand : List S_Tile) : Int × Int × Int × Int × Bool := match lyReadF l with | some s => if handB hand = true then bestAns s (lyForF s hand) else (0, 0, 0, 0, false) | none => (0, 0, 0, 0, false)
theorem specBestPlay_ev (l : List S_Play) (hand : List S_Tile) (hl : l.length ≤ 1048576) (hh : hand.length ≤ 1048576) : Ev (fun k => spec_BestPlay.f l hand) (resBestPlay l hand) := by
  unfold spec_BestPlay.f resBestPlay
  refine Ev.pos (by omega) ?_
  cases lyReadF l with
  | none => exact Ev.ret rfl
  | some s =>
    by_cases h : handB hand = true
    · exact Ev.pos h (Ev.ret (by simp [h]))
    · exact Ev.neg h (Ev.ret (by simp [h]))
theorem bestOn_eq {l : List S_Play} {hand : List S_Tile} {s : LySt} (h : lyReadF l = some s) (hb : handB hand = true) (i : Nat) : (resPlaysFor l hand).1 = lyForF s hand ∧ bestOn l hand i = bestTo s (lyForF s hand) i := by
  have e : (resPlaysFor l hand).1 = lyForF s hand := by unfold resPlaysFor; rw [h]; simp [hb]
  refine ⟨e, ?_⟩
  unfold bestOn bestTo
  rw [e]
  congr 1
  funext b p
  unfold bestOnStep bestStep
  rw [ptsOf_eq h]
theorem implBestPlay_ev (l : List S_Play) (hand : List S_Tile) (hl : l.length ≤ 1048576) (hh : hand.length ≤ 1048576) : Ev (fun k => impl_BestPlay.f l hand) (resBestPlay l hand) := by
  unfold impl_BestPlay.f
  refine Ev.pos ⟨hl, hh⟩ ?_
  have key : (if (bestOn l hand (resPlaysFor l hand).1.length).2 < 0 then some (0, 0, 0, 0, false) else some ((bestOn l hand (resPlaysFor l hand).1.length).1.f0.f0, (bestOn l hand (resPlaysFor l hand).1.length).1.f0.f1, (bestOn l hand (resPlaysFor l hand).1.length).1.f1, (bestOn l hand (resPlaysFor l hand).1.length).2, true)) = some (resBestPlay l hand) := by
    have none_ : (resPlaysFor l hand).1 = [] → (bestOn l hand (resPlaysFor l hand).1.length).2 < 0 := by
      intro e
      unfold bestOn
      rw [e]
      simp
    unfold resBestPlay
    cases hf : lyReadF l with
    | none =>
      have e : (resPlaysFor l hand).1 = [] := by unfold resPlaysFor; rw [hf]
      rw [if_pos (none_ e)]
    | some s =>
      dsimp only
      by_cases h : handB hand = true
      · obtain ⟨e, _⟩ := bestOn_eq (i := 0) hf h
        rw [if_pos h, (bestOn_eq hf h _).2, e]
        unfold bestAns
        split <;> rfl
      · have e : (resPlaysFor l hand).1 = [] := by unfold resPlaysFor; rw [hf]; simp [h]
        rw [if_neg h, if_pos (none_ e)]
  rw [key]
  exact Ev.ret rfl
end Go.Proofs.Ytlphnpinpflaaaa.Pure
