/- An inner row of a row of rows (apart: Kd.S) handed to what writes it, and taken back. -/
import Derived.Test.YtbkaedmabdgdhaaG0
namespace Go.Proofs.Ytbkaedmabdgdhaa.Hd
open Go.RowKit Go.Proofs.YtbkaedmabdgdhaaW.PrintWords Go.Proofs.YtbkaedmabdgdhaaW.PrintLast Go.Proofs.YtbkaedmabdgdhaaW.PrintMore
set_option linter.unusedVariables false
theorem S_row_step {α : Type} {d : Kd α} {e0 e : Nat} {W : World} {base : Nat} {ok : Nat → Prop} {v : Value} {xs : List (List α)} (h : Kd.S (Kd.slice e0 d) e W base ok v xs) (i : Int) (h0 : 0 ≤ i) (h1 : i < (xs.length : Int)) :
    ∃ (g cap : Nat) (oki : Nat → Prop) (u : Value), v = .slice (some ⟨g, 0, none⟩) xs.length cap ∧ W.cell? ⟨g, i.toNat, none⟩ = some u ∧ Kd.R d e0 W base oki u (xs.getD i.toNat []) ∧ (∀ k, oki k → ok k) ∧
      ∀ (W2 : World) (x' : List α), Kd.R d e0 W2 base (fun k => oki k ∨ W.heap.size ≤ k) u x' → Kept W W2 (fun k => oki k) → Kd.S (Kd.slice e0 d) e W2 base (fun k => ok k ∨ W.heap.size ≤ k) v (xs.set i.toNat x') := by
  obtain ⟨g, cap, rfl, _, _, _⟩ := Kd.S_form h (by omega)
  obtain ⟨oki, c, hcl, hM, hcc, hoki, hH⟩ := Kd.S_lend h ([] : List α) i h0 h1
  obtain ⟨u, rfl, hR⟩ := hM
  refine ⟨g, cap, oki, u, rfl, ?_, hR, fun k hk => (hoki k hk).1, fun W2 x' hR2 hK => ?_⟩
  · have hc0 : W.cell? ⟨g, i.toNat * 1 + 0, none⟩ = some u := hcc 0 u rfl
    rwa [Nat.mul_one, Nat.add_zero] at hc0
  · have hH1 := Kd.H_widen (Kd.H_mono hH (ok' := fun k => ok k ∨ W.heap.size ≤ k) (fun k hk => .inl hk))
    have hH2 := Kd.H_kept hH1 hK (fun k hk hn ho => hn (.inl ho))
    exact Kd.H_back hH2 (okp := fun k => oki k ∨ W.heap.size ≤ k) ⟨u, rfl, hR2⟩ (fun k hk => hk.elim .inl (fun h => .inr ⟨.inr h, h⟩))
end Go.Proofs.Ytbkaedmabdgdhaa.Hd
