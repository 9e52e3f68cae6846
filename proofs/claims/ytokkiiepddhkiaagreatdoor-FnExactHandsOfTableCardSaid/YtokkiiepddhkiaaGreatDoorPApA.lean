/- Tables taken apart into hands: what both sides ask first; plain words. -/
import Derived.Test.YtokkiiepddhkiaaGreatDoorPLayM
import Derived.Test.YtokkiiepddhkiaaGreatDoorPTile
import Derived.Test.YtokkiiepddhkiaaGreatDoorG2
import Derived.Test.YtokkiiepddhkiaaGreatDoorMHand
import Derived.Test.YtokkiiepddhkiaaGreatDoorPMirP
import Derived.Test.YtokkiiepddhkiaaGreatDoorPLayS
namespace Go.Proofs.YtokkiiepddhkiaaGreatDoor.Pure
open Go Go.RowKit Go.Proofs.YtokkiiepddhkiaaGreatDoor.Hd Go.Proofs.YtokkiiepddhkiaaGreatDoorW.PrintWords Go.Proofs.YtokkiiepddhkiaaGreatDoorW.PrintLast
set_option linter.unusedVariables false
set_option linter.unusedSimpArgs false
end Go.Proofs.YtokkiiepddhkiaaGreatDoor.Pure
namespace Go.Proofs.YtokkiiepddhkiaaGreatDoor.Pure
open Go.RowKit Go.Proofs.YtokkiiepddhkiaaGreatDoor.Hd Go.Proofs.YtokkiiepddhkiaaGreatDoorW.PrintWords Go.Proofs.YtokkiiepddhkiaaGreatDoorW.PrintLast
set_option linter.unusedVariables false
set_option linter.unusedSimpArgs false
end Go.Proofs.YtokkiiepddhkiaaGreatDoor.Pure
namespace Go.Proofs.YtokkiiepddhkiaaGreatDoor.Pure
open Go.RowKit Go.Proofs.YtokkiiepddhkiaaGreatDoor.Hd Go.Proofs.YtokkiiepddhkiaaGreatDoorW.PrintWords Go.Proofs.YtokkiiepddhkiaaGreatDoorW.PrintLast
set_option linter.unusedVariables false
set_option linter.unusedSimpArgs false
theorem tab_dim {s : ByteArray} (h : isTab s = true) : (w0 (rowsB s) : Int) * ((rowsB s).length : Int) = ((cells s).length : Int) ∧ (rowsB s).length * w0 (rowsB s) = (cells s).length ∧ (cells s).length ≤ 30 ∧ 1 ≤ w0 (rowsB s) ∧ w0 (rowsB s) ≤ 30 ∧ 1 ≤ (rowsB s).length ∧ (rowsB s).length ≤ 30 ∧ s.size ≤ 60 := by
  obtain ⟨h1, h2, h3, _⟩ := cells_n h
  have h4 := w0_le s
  have h5 := form_size h
  have e : (rowsB s).length * w0 (rowsB s) = (cells s).length := by rw [h1, Nat.mul_comm]
  have h6 : w0 (rowsB s) ≤ w0 (rowsB s) * (rowsB s).length := Nat.le_mul_of_pos_right _ h4.2.2
  have h7 : (rowsB s).length ≤ w0 (rowsB s) * (rowsB s).length := Nat.le_mul_of_pos_left _ h3
  exact ⟨by rw [← Int.natCast_mul, h1], e, by omega, by omega, by omega, by omega, by omega, h5.1⟩
/-- The marks of a hand's tiles. -/
def mkM (l : List S_Tile) : S_Tile → Bool := fun t => decide (t ∈ l)
theorem mkM_nil : mkM [] = fun _ => false := by funext t; simp [mkM]
theorem mkM_snoc (l : List S_Tile) (t : S_Tile) : upd (mkM l) t true = mkM (l ++ [t]) := by
  funext x
  unfold upd mkM
  by_cases e : x = t
  · rw [if_pos e]; simp [e]
  · rw [if_neg e]; simp [e]
def tilT (s : ByteArray) (i j : Nat) : S_Tile := tileAt s (i : Int) (j : Int)
theorem tilT_good {s : ByteArray} (h : isTab s = true) {i j : Nat} (hi : i < (cells s).length) (hj : j < (cells s).length) : (0 ≤ (tilT s i j).f0 ∧ (tilT s i j).f0 ≤ 9) ∧ 0 ≤ (tilT s i j).f1 ∧ (tilT s i j).f1 ≤ 9 := by
  have h1 := (cell_at h i hi).2
  have h2 := (cell_at h j hj).2
  unfold tilT tileAt tileN mn mx
  constructor <;> (constructor <;> (simp only; split <;> omega))
end Go.Proofs.YtokkiiepddhkiaaGreatDoor.Pure
