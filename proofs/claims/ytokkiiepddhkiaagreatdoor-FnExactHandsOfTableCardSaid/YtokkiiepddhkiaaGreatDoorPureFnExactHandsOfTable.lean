/- FnExactHandsOfTable: the plain statement. -/
import Derived.Test.YtokkiiepddhkiaaGreatDoorPHandsOfTable
import Derived.Test.YtokkiiepddhkiaaGreatDoorG3
namespace Go.Proofs.YtokkiiepddhkiaaGreatDoor.Pure
open Go Go.RowKit Go.Proofs.YtokkiiepddhkiaaGreatDoor.Hd Go.Proofs.YtokkiiepddhkiaaGreatDoorW.PrintWords Go.Proofs.YtokkiiepddhkiaaGreatDoorW.PrintLast
set_option linter.unusedVariables false
theorem FnExactHandsOfTable (a0 : ByteArray) (h0 : a0.size ≤ 140737488351232) : laws_FnExactHandsOfTable.f a0 = some true := by
  unfold laws_FnExactHandsOfTable.f
  by_cases h : (a0.size : Int) > 1048576
  · rw [if_pos h]
  · rw [if_neg h, specHandsOfTable_eq a0 (by omega), implHandsOfTable_eq a0 (by omega)]
    simp
end Go.Proofs.YtokkiiepddhkiaaGreatDoor.Pure
