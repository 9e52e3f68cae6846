/- What impl.moved answers for a move's text. -/
import Derived.Test.YtkjaahmlnbgnjaaGreatPDelF
import Derived.Test.YtkjaahmlnbgnjaaGreatMMoved
namespace Go.Proofs.YtkjaahmlnbgnjaaGreat.Pure
open Go.RowKit Go.Proofs.YtkjaahmlnbgnjaaGreat.Hd Go.Proofs.YtkjaahmlnbgnjaaGreatW.PrintWords Go.Proofs.YtkjaahmlnbgnjaaGreatW.PrintLast
set_option linter.unusedVariables false
set_option linter.unusedSimpArgs false
theorem moved_l : ∀ a < 10, ∀ b < 10, impl_moved.f (txt ⟨⟨((a : Nat) : Int), ((b : Nat) : Int)⟩, true, false⟩) = some ((a : Int), (b : Int)) ∧ bt (txt ⟨⟨((a : Nat) : Int), ((b : Nat) : Int)⟩, true, false⟩) 2 = 108 := of_decide_eq_true (by kernel_rfl)
theorem moved_r : ∀ a < 10, ∀ b < 10, impl_moved.f (txt ⟨⟨((a : Nat) : Int), ((b : Nat) : Int)⟩, false, false⟩) = some ((a : Int), (b : Int)) ∧ bt (txt ⟨⟨((a : Nat) : Int), ((b : Nat) : Int)⟩, false, false⟩) 2 = 114 := of_decide_eq_true (by kernel_rfl)
theorem moved_eq {x : S_plLay} (h : x.f2 = false) (hg : goodT x.f0 = true) : impl_moved.f (txt x) = some (x.f0.f0, x.f0.f1) ∧ bt (txt x) 2 = (if x.f1 = true then 108 else 114) := by
  obtain ⟨⟨a, b⟩, c, d⟩ := x
  dsimp only at h hg ⊢
  subst h
  unfold goodT at hg
  simp only [Bool.and_eq_true, decide_eq_true_eq] at hg
  obtain ⟨a, rfl⟩ := Int.eq_ofNat_of_zero_le (show 0 ≤ a by omega)
  obtain ⟨b, rfl⟩ := Int.eq_ofNat_of_zero_le (show 0 ≤ b by omega)
  cases c with
  | true => exact moved_l a (by omega) b (by omega)
  | false => exact moved_r a (by omega) b (by omega)
end Go.Proofs.YtkjaahmlnbgnjaaGreat.Pure
