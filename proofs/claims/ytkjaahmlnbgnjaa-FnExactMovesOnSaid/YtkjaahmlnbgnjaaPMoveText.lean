/- The texts of moves: what plText answers; the moves are few and good. -/
import Derived.Test.YtkjaahmlnbgnjaaPFitA
import Derived.Test.YtkjaahmlnbgnjaaMPlText
namespace Go.Proofs.Ytkjaahmlnbgnjaa.Pure
open Go.RowKit Go.Proofs.Ytkjaahmlnbgnjaa.Hd Go.Proofs.YtkjaahmlnbgnjaaW.PrintWords Go.Proofs.YtkjaahmlnbgnjaaW.PrintLast
set_option linter.unusedVariables false
set_option linter.unusedSimpArgs false
theorem plText_eq (x : S_plLay) (h : x.f2 = true ∨ goodT x.f0 = true) : spec_plText.f x.f0.f0 x.f0.f1 x.f1 x.f2 = some (txt x) := by
  unfold spec_plText.f
  obtain ⟨⟨a, b⟩, c, d⟩ := x
  dsimp only at h ⊢
  cases d with
  | true => rw [if_pos rfl]; rfl
  | false =>
    have hg : goodT ⟨a, b⟩ = true := by simpa using h
    unfold goodT at hg
    simp only [Bool.and_eq_true, decide_eq_true_eq] at hg
    rw [if_neg (by simp), if_pos ⟨⟨by omega, by omega⟩, by omega, by omega⟩]
theorem fitTo_good (r : List Int) (h : List S_Tile) (i : Nat) : ∀ x ∈ fitTo r (sortT h) i, x.f2 = true ∨ goodT x.f0 = true := by
  intro x hx
  unfold fitTo at hx
  rw [List.mem_flatMap] at hx
  obtain ⟨t, ht, hx⟩ := hx
  have hg := ((sortT_mem h t).1 (List.mem_of_mem_take ht)).2
  unfold fitL at hx
  split at hx
  · rw [List.mem_singleton] at hx; subst hx; exact Or.inr hg
  · rw [List.mem_append] at hx
    rcases hx with hx | hx
    · split at hx
      · rw [List.mem_singleton] at hx; subst hx; exact Or.inr hg
      · exact absurd hx List.not_mem_nil
    · split at hx
      · rw [List.mem_singleton] at hx; subst hx; exact Or.inr hg
      · exact absurd hx List.not_mem_nil
theorem movesL_good (f s : List S_Tile) (r : List Int) (t p : Int) : ∀ x ∈ movesL f s r t p, x.f2 = true ∨ goodT x.f0 = true := by
  intro x hx
  unfold movesL at hx
  split at hx
  · exact absurd hx List.not_mem_nil
  · split at hx
    · rw [List.mem_singleton] at hx; subst hx; exact Or.inl rfl
    · exact fitTo_good _ _ _ x hx
theorem movesL_len (f s : List S_Tile) (r : List Int) (t p : Int) : (movesL f s r t p).length ≤ 200 := by
  unfold movesL
  have h1 := fitTo_len r (sortT (ownT f s t)) (sortT (ownT f s t)).length (Nat.le_refl _)
  have h2 := sortT_len (ownT f s t)
  split
  · simp
  · split
    · simp
    · omega
end Go.Proofs.Ytkjaahmlnbgnjaa.Pure
