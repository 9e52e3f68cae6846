/- What HandsOfTable answers. -/
import Derived.Test.YtokkiiepddhkiaaGreatDoorPHtP
import Derived.Test.YtokkiiepddhkiaaGreatDoorMHtS
import Derived.Test.YtokkiiepddhkiaaGreatDoorMHtX
namespace Go.Proofs.YtokkiiepddhkiaaGreatDoor.Pure
open Go.RowKit Go.Proofs.YtokkiiepddhkiaaGreatDoor.Hd Go.Proofs.YtokkiiepddhkiaaGreatDoorW.PrintWords Go.Proofs.YtokkiiepddhkiaaGreatDoorW.PrintLast
set_option linter.unusedVariables false
def resHandsOfTable (s : ByteArray) : Int × Bool := if isTab s = true then (((htR s).length : Int), true) else (0, false)
theorem specHandsOfTable_eq (s : ByteArray) (hs : s.size ≤ 1048576) : spec_HandsOfTable.f s = some (resHandsOfTable s) := by
  unfold spec_HandsOfTable.f resHandsOfTable
  rw [if_pos hs]
  split
  · rename_i h
    rw [ht_same h]
  · rfl
theorem implHandsOfTable_eq (s : ByteArray) (hs : s.size ≤ 1048576) : impl_HandsOfTable.f s = some (resHandsOfTable s) := by
  unfold impl_HandsOfTable.f resHandsOfTable
  rw [if_pos hs]
  split <;> rfl
end Go.Proofs.YtokkiiepddhkiaaGreatDoor.Pure
