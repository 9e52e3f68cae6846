/- What AllApart answers. -/
import Derived.Test.YtokkiiepddhkiaaGreatDoorPTxtL
import Derived.Test.YtokkiiepddhkiaaGreatDoorMAptL
import Derived.Test.YtokkiiepddhkiaaGreatDoorMApL
namespace Go.Proofs.YtokkiiepddhkiaaGreatDoor.Pure
open Go.RowKit Go.Proofs.YtokkiiepddhkiaaGreatDoor.Hd Go.Proofs.YtokkiiepddhkiaaGreatDoorW.PrintWords Go.Proofs.YtokkiiepddhkiaaGreatDoorW.PrintLast
set_option linter.unusedVariables false
def resAllApart (s : ByteArray) (l : List S_Tile) : List ByteArray × Bool := if (isTab s && handB l) = true then (if (lvsH s l).length > 100 then ([], false) else (txtL s (lvsH s l), true)) else ([], false)
theorem specAllApart_eq (s : ByteArray) (l : List S_Tile) (hs : s.size ≤ 1048576) : spec_AllApart.f s l = some (resAllApart s l) := by
  unfold spec_AllApart.f resAllApart
  rw [if_pos hs]
  by_cases h : (isTab s && handB l) = true
  · rw [if_pos h, if_pos h]
  · rw [if_neg h, if_neg h]
theorem implAllApart_eq (s : ByteArray) (l : List S_Tile) (hs : s.size ≤ 1048576) : impl_AllApart.f s l = some (resAllApart s l) := by
  unfold impl_AllApart.f resAllApart
  rw [if_pos hs]
  by_cases h : (isTab s && handB l) = true
  · rw [if_pos h, if_pos h]
    rw [Bool.and_eq_true] at h
    rw [apR_all h.1 h.2]
    split <;> rfl
  · rw [if_neg h, if_neg h]
theorem resAllApart_len (s : ByteArray) (l : List S_Tile) : (resAllApart s l).1.length ≤ 100 := by
  unfold resAllApart
  split
  · split
    · simp
    · show (txtL s (lvsH s l)).length ≤ _; rw [txtL_len]; omega
  · simp
end Go.Proofs.YtokkiiepddhkiaaGreatDoor.Pure
