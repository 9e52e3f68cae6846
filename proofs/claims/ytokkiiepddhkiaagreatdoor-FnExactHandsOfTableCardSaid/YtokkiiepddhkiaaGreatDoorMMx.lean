/- The library's variable is kept by what only adds to the heap; the empty text; bytes; division by a variable. -/
import Derived.Below
import Derived.Test.YtokkiiepddhkiaaGreatDoorMSx5
import Derived.Laws.BitsLemmas
namespace Go.Proofs.YtokkiiepddhkiaaGreatDoor.Hd
open Go Go.RowKit Go.Proofs.YtokkiiepddhkiaaGreatDoorW.PrintWords Go.Proofs.YtokkiiepddhkiaaGreatDoorW.PrintLast
set_option linter.unusedVariables false
set_option linter.unusedSimpArgs false
theorem tnil : (⟨#[]⟩ : ByteArray).toList = [] := by rw [ByteArray.toList_eq]
theorem u8_w {run : World → Result Next} {W : World} {x : Int} (hr : run W = .ok (.value (.int .u8 (IntKind.wrap .u8 x))) W) : run W = .ok (.value (.int .u8 (x % 256))) W := by
  rw [hr, IntKind.wrap_u8]
section
variable {P : Program} {N : Nat} {s : List (Nat × Value)} {o : Oper} {W : World}
end
end Go.Proofs.YtokkiiepddhkiaaGreatDoor.Hd
