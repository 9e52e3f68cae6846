/- The text of a board's letters, row by row (plain). -/
import Derived.Test.YtokkiiepddhkiaaGreatDoorPMirP
import Derived.Test.YtokkiiepddhkiaaGreatDoorPLayS
namespace Go.Proofs.YtokkiiepddhkiaaGreatDoor.Pure
open Go Go.RowKit Go.Proofs.YtokkiiepddhkiaaGreatDoor.Hd Go.Proofs.YtokkiiepddhkiaaGreatDoorW.PrintWords Go.Proofs.YtokkiiepddhkiaaGreatDoorW.PrintLast
set_option linter.unusedVariables false
set_option linter.unusedSimpArgs false
/-- Bytes out of their numbers. -/
def bsI (l : List Int) : List UInt8 := l.map (fun x => UInt8.ofNat x.toNat)
def chB (w : Nat) (b : List Int) (j : Nat) : ByteArray := mkB (bsI ((b.drop (j * w)).take w))
def formL (w R : Nat) (b : List Int) : List ByteArray := (List.range R).map (chB w b)
def formT (w R : Nat) (b : List Int) : ByteArray := joinB (formL w R b)
theorem bsI_len (l : List Int) : (bsI l).length = l.length := by simp [bsI]
theorem formL_succ (w R : Nat) (b : List Int) : formL w (R + 1) b = formL w R b ++ [chB w b R] := by unfold formL; rw [List.range_succ, List.map_append]; rfl
theorem formL_len (w R : Nat) (b : List Int) : (formL w R b).length = R := by simp [formL]
theorem chB_size (w : Nat) (b : List Int) (j : Nat) : (chB w b j).size ≤ w := by unfold chB; rw [mkB_size, bsI_len, List.length_take]; omega
theorem sumL_form (w : Nat) (b : List Int) : ∀ R, sumL ((formL w R b).map (·.data.toList)) ≤ R * w := by
  have key : ∀ (l : List Nat), sumL ((l.map (chB w b)).map (·.data.toList)) ≤ l.length * w := by
    intro l
    induction l with
    | nil => simp [sumL]
    | cons x l ih =>
      have h := chB_size w b x
      rw [size_len] at h
      simp only [List.map_cons, sumL, List.length_cons, Nat.succ_mul]
      omega
  intro R
  have h := key (List.range R)
  rw [List.length_range] at h
  exact h
theorem join_form {w R : Nat} {b : List Int} (h : R * w ≤ 1000) (hR : R ≤ 1000) : strings_Join.f (formL w R b) (⟨#[47]⟩ : ByteArray) = some (formT w R b) := join_f _ (by have := sumL_form w b R; rw [formL_len]; omega)
theorem u8_back {x : Int} (h : 0 ≤ x ∧ x < 256) : (((UInt8.ofNat x.toNat).toNat : Nat) : Int) = x := by
  have : (UInt8.ofNat x.toNat).toNat = x.toNat := by rw [UInt8.toNat_ofNat']; exact Nat.mod_eq_of_lt (by omega)
  rw [this]; omega
end Go.Proofs.YtokkiiepddhkiaaGreatDoor.Pure
