/- IsFair: the reference and the program answer alike (plain Lean). -/
import Derived.Test.YtnoagkhmmckiaaaPSides
import Derived.Test.YtnoagkhmmckiaaaPIsWindow
import Derived.Test.YtnoagkhmmckiaaaPWinBase
import Derived.Test.YtnoagkhmmckiaaaG1
import Derived.Test.YtnoagkhmmckiaaaG3
namespace Go.Proofs.Ytnoagkhmmckiaaa.Pure
open Go.RowKit Go.Proofs.Ytnoagkhmmckiaaa.Hd Go.Proofs.YtnoagkhmmckiaaaW.PrintWords Go.Proofs.YtnoagkhmmckiaaaW.PrintLast
set_option linter.unusedVariables false
set_option linter.unusedSimpArgs false
theorem one_four (a b c d : Int) : one [a, b, c, d] = (decide (a = b) && (decide (b = c) && decide (c = d))) := by
  have e : List.range 4 = [0, 1, 2, 3] := rfl
  have k0 : Lib.keeps #[a, b, c, d] 0 = true := by simp [Lib.keeps]
  have k1 : Lib.keeps #[a, b, c, d] 1 = !decide (b = a) := by simp [Lib.keeps]
  have k2 : Lib.keeps #[a, b, c, d] 2 = !decide (c = b) := by simp [Lib.keeps]
  have k3 : Lib.keeps #[a, b, c, d] 3 = !decide (d = c) := by simp [Lib.keeps]
  have f : (Lib.compact [a, b, c, d]).length = (List.filter (Lib.keeps #[a, b, c, d]) [0, 1, 2, 3]).length := by
    simp only [Lib.compact, Lib.compactUpTo, List.length_map]
    rfl
  rw [one, f]
  simp only [List.filter_cons, List.filter_nil, k0, k1, k2, k3]
  have s1 : decide (a = b) = decide (b = a) := by simp [eq_comm]
  have s2 : decide (b = c) = decide (c = b) := by simp [eq_comm]
  have s3 : decide (c = d) = decide (d = c) := by simp [eq_comm]
  rw [s1, s2, s3]
  cases decide (b = a) <;> cases decide (c = b) <;> cases decide (d = c) <;> rfl
theorem sid_four (l : List Int) : ∃ a b c d, sid l = [a, b, c, d] := ⟨_, _, _, _, rfl⟩
theorem wiFair_ev (l : List Int) (hl : l.length = 8) (hw : ∀ x ∈ l, 0 ≤ x ∧ x ≤ 9) : Ev (fun k => spec_wiFair.f k l) (one (sid l)) := by
  have hs := wiSides_ev l hl hw
  obtain ⟨a, b, c, d, e⟩ := sid_four l
  rw [e] at hs ⊢
  rw [one_four]
  unfold spec_wiFair.f
  refine Ev.bd hs (Ev.pos (by simp) (Ev.pos (by simp) ?_))
  have r0 : rd [a, b, c, d] 0 = a := rfl
  have r1 : rd [a, b, c, d] 1 = b := rfl
  have r2 : rd [a, b, c, d] 2 = c := rfl
  have r3 : rd [a, b, c, d] 3 = d := rfl
  rw [r0, r1, r2, r3]
  by_cases h1 : a = b
  · refine Ev.pos h1 (Ev.pos (by simp) ?_)
    by_cases h2 : b = c
    · refine Ev.pos h2 (Ev.pos (by simp) (Ev.ret ?_))
      by_cases h3 : c = d <;> simp [h1, h2, h3]
    · exact Ev.neg h2 (Ev.ret (by simp [h2]))
  · exact Ev.neg h1 (Ev.ret (by simp [h1]))
theorem isFair_ev (l : List Int) (hl : l.length = 8) (hw : ∀ x ∈ l, 0 ≤ x ∧ x ≤ 9) : Ev (fun k => impl_isFair.f k l) (one (sid l)) := by
  obtain ⟨k, hk⟩ := sides_ev l hl hw
  exact ⟨k, fun j hj => by simp only [impl_isFair.f, hk j hj, Option.map_some]⟩
def resIsFair (l : List Int) : Bool × Bool := if winB l = true then (one (sid l), true) else (false, false)
theorem specIsFair_ev (l : List Int) : Ev (fun k => spec_IsFair.f k l) (resIsFair l) := by
  unfold spec_IsFair.f resIsFair
  refine Ev.bd (wiGood_ev l) ?_
  by_cases h : winB l = true
  · rw [if_pos h]
    exact Ev.pos h (Ev.bd (wiFair_ev l (winB_len h) (winB_all h)) (Ev.ret rfl))
  · rw [if_neg h]
    exact Ev.neg h (Ev.ret rfl)
theorem implIsFair_ev (l : List Int) : Ev (fun k => impl_IsFair.f k l) (resIsFair l) := by
  unfold impl_IsFair.f resIsFair
  refine Ev.bd (isWindow_ev l) ?_
  by_cases h : winB l = true
  · rw [if_pos h]
    exact Ev.pos h (Ev.bd (isFair_ev l (winB_len h) (winB_all h)) (Ev.ret rfl))
  · rw [if_neg h]
    exact Ev.neg h (Ev.ret rfl)
end Go.Proofs.Ytnoagkhmmckiaaa.Pure
