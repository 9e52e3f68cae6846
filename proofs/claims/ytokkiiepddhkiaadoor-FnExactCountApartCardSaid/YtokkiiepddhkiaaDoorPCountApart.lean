/- What CountApart answers. -/
import Derived.Test.YtokkiiepddhkiaaDoorPApB
import Derived.Test.YtokkiiepddhkiaaDoorMAptC
import Derived.Test.YtokkiiepddhkiaaDoorMApC
namespace Go.Proofs.YtokkiiepddhkiaaDoor.Pure
open Go.RowKit Go.Proofs.YtokkiiepddhkiaaDoor.Hd Go.Proofs.YtokkiiepddhkiaaDoorW.PrintWords Go.Proofs.YtokkiiepddhkiaaDoorW.PrintLast
set_option linter.unusedVariables false
def resCountApart (s : ByteArray) (l : List S_Tile) : Int × Bool := if (isTab s && handB l) = true then (((lvsH s l).length : Int), true) else (0, false)
theorem specCountApart_eq (s : ByteArray) (l : List S_Tile) (hs : s.size ≤ 1048576) : spec_CountApart.f s l = some (resCountApart s l) := by
  unfold spec_CountApart.f resCountApart
  rw [if_pos hs]
  split <;> rfl
theorem implCountApart_eq (s : ByteArray) (l : List S_Tile) (hs : s.size ≤ 1048576) : impl_CountApart.f s l = some (resCountApart s l) := by
  unfold impl_CountApart.f resCountApart
  rw [if_pos hs]
  split
  · rename_i h
    rw [Bool.and_eq_true] at h
    rw [apR_count h.1 h.2]
  · rfl
end Go.Proofs.YtokkiiepddhkiaaDoor.Pure
