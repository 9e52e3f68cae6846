/- Rows of tiles: their cells (beside MLyS in seats without spreads). -/
import Derived.Test.YtokkiiepddhkiaaGreatDoorMSx3
namespace Go.Proofs.YtokkiiepddhkiaaGreatDoor.Hd
open Go.RowKit Go.Proofs.YtokkiiepddhkiaaGreatDoorW.PrintWords Go.Proofs.YtokkiiepddhkiaaGreatDoorW.PrintLast Go.Proofs.YtokkiiepddhkiaaGreatDoorW.PrintMore
set_option linter.unusedVariables false
theorem tile_kp {W : World} {base : Nat} (x : S_Tile) (cs : List Value) (h : k55.K W x cs) : k55.M W base (fun _ => False) x cs := by rw [k55_open h]; exact k55_mkM _ _ _ _
theorem reps_flat {α : Type} {R : α → List Value → Prop} {size : Nat} {f : α → List Value} (h : ∀ x, R x (f x)) (hs : ∀ x, (f x).length = size) (xs : List α) : Reps R size xs (xs.flatMap f) := by
  have key : ∀ (ys zs : List α), Reps R size ys (ys.flatMap f) → Reps R size (ys ++ zs) ((ys ++ zs).flatMap f) := by
    intro ys zs
    induction zs generalizing ys with
    | nil => intro h0; rwa [List.append_nil]
    | cons z zs ih =>
      intro h0
      have h1 := Reps.snoc h0 (h z) (hs z)
      have e : ys ++ z :: zs = (ys ++ [z]) ++ zs := by simp
      rw [e]
      refine ih (ys ++ [z]) ?_
      have e2 : (ys ++ [z]).flatMap f = ys.flatMap f ++ f z := by simp
      rw [e2]
      exact h1
  exact key [] xs (Reps.none _ _)
theorem tile_reps (W : World) (base : Nat) (xs : List S_Tile) : Reps (k55.M W base (fun _ => False)) 2 xs (xs.flatMap fun x => [.int .i64 x.f0, .int .i64 x.f1]) := reps_flat (fun x => k55_mkM _ _ _ x) (fun _ => rfl) xs
end Go.Proofs.YtokkiiepddhkiaaGreatDoor.Hd
