/- MirrorTable: the table's rows backwards; plain. -/
import Derived.Test.YtokkiiepddhkiaaDoorPTab2
import Derived.Test.YtokkiiepddhkiaaDoorMStrJ
namespace Go.Proofs.YtokkiiepddhkiaaDoor.Pure
open Go Go.RowKit Go.Proofs.YtokkiiepddhkiaaDoor.Hd Go.Proofs.YtokkiiepddhkiaaDoorW.PrintWords Go.Proofs.YtokkiiepddhkiaaDoorW.PrintLast
set_option linter.unusedVariables false
set_option linter.unusedSimpArgs false
def joinB (R : List ByteArray) : ByteArray := ⟨(Lib.join (R.map (·.data.toList)) [47]).toArray⟩
theorem joinTail_len : ∀ R : List (List UInt8), (Lib.joinTail [47] R).length = sumL R + R.length := by
  intro R
  induction R with
  | nil => rfl
  | cons a t ih =>
    unfold Lib.joinTail at ih ⊢
    simp only [List.map_cons, List.flatten_cons, List.length_append, List.length_cons, sumL, List.length_nil] at ih ⊢
    omega
theorem join_len (R : List (List UInt8)) : (Lib.join R [47]).length ≤ sumL R + R.length := by
  cases R with
  | nil => simp [Lib.join_nil]
  | cons a t =>
    rw [Lib.join_cons, List.length_append, joinTail_len]
    simp only [sumL, List.length_cons]
    omega
theorem join_f (R : List ByteArray) (h : sumL (R.map (·.data.toList)) + R.length ≤ 140737488355328) : strings_Join.f R (⟨#[47]⟩ : ByteArray) = some (joinB R) := by
  unfold strings_Join.f
  have := join_len (R.map (·.data.toList))
  rw [List.length_map] at this
  rw [if_pos ⟨by omega, by show (Lib.join _ [47]).length ≤ _; omega⟩]
  rfl
end Go.Proofs.YtokkiiepddhkiaaDoor.Pure
