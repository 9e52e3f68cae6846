/- The reference's text of letters; plain. -/
import Derived.Test.YtokkiiepddhkiaaGreatDoorPApB
import Derived.Test.YtokkiiepddhkiaaGreatDoorPMirP
namespace Go.Proofs.YtokkiiepddhkiaaGreatDoor.Pure
open Go Go.RowKit Go.Proofs.YtokkiiepddhkiaaGreatDoor.Hd Go.Proofs.YtokkiiepddhkiaaGreatDoorW.PrintWords Go.Proofs.YtokkiiepddhkiaaGreatDoorW.PrintLast
set_option linter.unusedVariables false
theorem mk_appA (a b : List UInt8) : (⟨a.toArray⟩ : ByteArray) ++ (⟨b.toArray⟩ : ByteArray) = ⟨(a ++ b).toArray⟩ := by
  apply ByteArray.ext
  rw [ByteArray.data_append]
  simp
theorem join_snocA (R : List (List UInt8)) (r : List UInt8) : Lib.join (R ++ [r]) [47] = Lib.join R [47] ++ ((if 0 < R.length then [47] else []) ++ r) := by
  cases R with
  | nil => simp [Lib.join_nil, Lib.join_one]
  | cons a t =>
    rw [List.cons_append, Lib.join_cons, Lib.join_cons, if_pos (by simp)]
    unfold Lib.joinTail
    simp [List.append_assoc]
end Go.Proofs.YtokkiiepddhkiaaGreatDoor.Pure
namespace Go.Proofs.YtokkiiepddhkiaaGreatDoor.Pure
open Go Go.RowKit Go.Proofs.YtokkiiepddhkiaaGreatDoor.Hd Go.Proofs.YtokkiiepddhkiaaGreatDoorW.PrintWords Go.Proofs.YtokkiiepddhkiaaGreatDoorW.PrintLast
set_option linter.unusedVariables false
set_option linter.unusedSimpArgs false
theorem formT_list (w i : Nat) (b : List Int) : formT w i b = ⟨(Lib.join ((formL w i b).map (·.data.toList)) [47]).toArray⟩ := rfl
theorem formT_first (w : Nat) (b : List Int) : formT w 1 b = formT w 0 b ++ chB w b 0 := by
  have h0 : formT w 0 b = ⟨#[]⟩ := rfl
  rw [formT_list, formL_succ, List.map_append]
  show (⟨(Lib.join ((formL w 0 b).map (·.data.toList) ++ [(chB w b 0).data.toList]) [47]).toArray⟩ : ByteArray) = _
  rw [join_snocA]
  rw [h0]
  show (⟨([] ++ ([] ++ (chB w b 0).data.toList)).toArray⟩ : ByteArray) = _
  have e := mk_appA ([] : List UInt8) (chB w b 0).data.toList
  rw [show ((⟨(chB w b 0).data.toList.toArray⟩ : ByteArray)) = chB w b 0 from mkB_toList _] at e
  exact e.symm
theorem formT_next (w i : Nat) (b : List Int) (hi : 0 < i) : formT w (i + 1) b = (formT w i b ++ ⟨#[47]⟩) ++ chB w b i := by
  rw [formT_list, formL_succ, List.map_append]
  show (⟨(Lib.join ((formL w i b).map (·.data.toList) ++ [(chB w b i).data.toList]) [47]).toArray⟩ : ByteArray) = _
  rw [join_snocA, List.length_map, formL_len, if_pos hi]
  have e1 := mk_appA (Lib.join ((formL w i b).map (·.data.toList)) [47]) [47]
  have e2 := mk_appA (Lib.join ((formL w i b).map (·.data.toList)) [47] ++ [47]) (chB w b i).data.toList
  rw [show ((⟨(chB w b i).data.toList.toArray⟩ : ByteArray)) = chB w b i from mkB_toList _] at e2
  rw [formT_list]
  have e3 : (⟨[47].toArray⟩ : ByteArray) = ⟨#[47]⟩ := rfl
  rw [e3] at e1
  rw [e1, e2, List.append_assoc]
theorem app_size (a b : ByteArray) : (a ++ b).size = a.size + b.size := ByteArray.size_append
theorem strOf_size (l : List Int) : (strOfNums l).size = l.length := by simp [strOfNums, ByteArray.size]
theorem strOf_ch {w i : Nat} {b : List Int} : strOfNums ((b.take ((i + 1) * w)).drop (i * w)) = chB w b i := by
  have m4 : (i + 1) * w = i * w + w := by rw [Nat.succ_mul]
  unfold strOfNums chB mkB bsI
  rw [List.drop_take, m4, Nat.add_sub_cancel_left]
end Go.Proofs.YtokkiiepddhkiaaGreatDoor.Pure
