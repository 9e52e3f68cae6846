/- The text of digits of a grid: the reference's taDigits; plain. -/
import Derived.Test.YtokkiiepddhkiaaDoorPMirP
import Derived.Test.YtokkiiepddhkiaaDoorPCells
import Derived.Test.YtokkiiepddhkiaaDoorG2
namespace Go.Proofs.YtokkiiepddhkiaaDoor.Pure
open Go Go.RowKit Go.Proofs.YtokkiiepddhkiaaDoor.Hd Go.Proofs.YtokkiiepddhkiaaDoorW.PrintWords Go.Proofs.YtokkiiepddhkiaaDoorW.PrintLast
set_option linter.unusedVariables false
set_option linter.unusedSimpArgs false
theorem mk_app (a b : List UInt8) : (⟨a.toArray⟩ : ByteArray) ++ (⟨b.toArray⟩ : ByteArray) = ⟨(a ++ b).toArray⟩ := by
  apply ByteArray.ext
  rw [ByteArray.data_append]
  simp
theorem join_snoc (R : List (List UInt8)) (r : List UInt8) : Lib.join (R ++ [r]) [47] = Lib.join R [47] ++ ((if 0 < R.length then [47] else []) ++ r) := by
  cases R with
  | nil => simp [Lib.join_nil, Lib.join_one]
  | cons a t =>
    rw [List.cons_append, Lib.join_cons, Lib.join_cons, if_pos (by simp)]
    unfold Lib.joinTail
    simp [List.append_assoc]
end Go.Proofs.YtokkiiepddhkiaaDoor.Pure
