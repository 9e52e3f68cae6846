/- MostFives: both sides answer alike. -/
import Derived.Test.YtlphnpinpflaaaaMLyMostX
import Derived.Test.YtlphnpinpflaaaaMMostX
namespace Go.Proofs.Ytlphnpinpflaaaa.Pure
open Go.RowKit Go.Proofs.Ytlphnpinpflaaaa.Hd Go.Proofs.YtlphnpinpflaaaaW.PrintWords Go.Proofs.YtlphnpinpflaaaaW.PrintLast
set_option linter.unusedVariables false
set_option linter.unusedSimpArgs false
def resMostFives (l : List S_Play) (hand : List S_Tile) : List S_Play × Int × Bool := match lyReadF l with | some s => if handB hand = true ∧ hand.length ≤ 5 then ((mostS 28 s hand).1, (mostS 28 s hand).2, true) else ([], 0, false) | none => ([], 0, false)
theorem resMostFives_len (l : List S_Play) (hand : List S_Tile) : (resMostFives l hand).1.length ≤ 28 := by
  unfold resMostFives
  cases hf : lyReadF l with
  | none => simp
  | some s =>
    dsimp only
    split
    · exact (mostS_bd 28 s l.length hand (lyOk_read hf).1).2.2
    · simp
theorem specMostFives_ev (l : List S_Play) (hand : List S_Tile) (hl : l.length ≤ 1048576) (hh : hand.length ≤ 1048576) : Ev (fun k => spec_MostFives.f l hand) (resMostFives l hand) := by
  unfold spec_MostFives.f resMostFives
  refine Ev.pos (by omega) ?_
  cases lyReadF l with
  | none => exact Ev.ret rfl
  | some s =>
    by_cases h : handB hand = true ∧ hand.length ≤ 5
    · exact Ev.pos h (Ev.ret (by simp [h]))
    · exact Ev.neg h (Ev.ret (by simp [h]))
theorem implMostFives_ev (l : List S_Play) (hand : List S_Tile) (hl : l.length ≤ 1048576) (hh : hand.length ≤ 1048576) : Ev (fun k => impl_MostFives.f l hand) (resMostFives l hand) := by
  unfold impl_MostFives.f resMostFives
  refine Ev.pos (by omega) ?_
  cases hf : lyReadF l with
  | none => exact Ev.ret rfl
  | some s =>
    by_cases h : handB hand = true ∧ hand.length ≤ 5
    · refine Ev.pos h (Ev.ret ?_)
      obtain ⟨hok, h28⟩ := lyOk_read hf
      have hw := walk_most hand l.length 28 s l.length hand l 0 ([], -1) hok (by omega) (Nat.le_refl _) (fun t _ _ => Iff.rfl)
      have hb := (mostS_bd 28 s l.length hand hok).1
      rw [if_pos (by show 0 + (mostS 28 s hand).2 > -1; omega)] at hw
      rw [hw]
      dsimp only
      rw [if_pos h, List.drop_length, List.nil_append, Int.zero_add]
    · exact Ev.neg h (Ev.ret (by simp [h]))
end Go.Proofs.Ytlphnpinpflaaaa.Pure
