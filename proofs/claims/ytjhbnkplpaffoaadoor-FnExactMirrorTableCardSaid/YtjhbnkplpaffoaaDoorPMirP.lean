/- MirrorTable: the table's rows backwards; plain. -/
import Derived.Test.YtjhbnkplpaffoaaDoorPTab2
import Derived.Test.YtjhbnkplpaffoaaDoorMStrs
namespace Go.Proofs.YtjhbnkplpaffoaaDoor.Pure
open Go Go.RowKit Go.Proofs.YtjhbnkplpaffoaaDoor.Hd Go.Proofs.YtjhbnkplpaffoaaDoorW.PrintWords Go.Proofs.YtjhbnkplpaffoaaDoorW.PrintLast
set_option linter.unusedVariables false
set_option linter.unusedSimpArgs false
def revB (r : ByteArray) : ByteArray := ⟨r.data.toList.reverse.toArray⟩
def mirR (R : List ByteArray) (i : Nat) : List ByteArray := (R.take i).map revB ++ R.drop i
theorem mirR_0 (R : List ByteArray) : mirR R 0 = R := by simp [mirR]
theorem mirR_len (R : List ByteArray) (i : Nat) (h : i ≤ R.length) : (mirR R i).length = R.length := by unfold mirR; simp; omega
theorem mirR_all (R : List ByteArray) : mirR R R.length = R.map revB := by simp [mirR]
theorem mirR_at (R : List ByteArray) (i : Nat) (h : i < R.length) : rdOf ByteArray.empty (mirR R i) (i : Int) = R[i] := by
  unfold mirR rdOf
  have hl : ((R.take i).map revB).length = i := by rw [List.length_map, List.length_take]; omega
  rw [Int.toNat_natCast, List.getD_eq_getElem?_getD, List.getElem?_append_right (by omega), hl, Nat.sub_self, List.getElem?_drop, Nat.add_zero, List.getElem?_eq_getElem h]
  rfl
theorem mirR_set (R : List ByteArray) (i : Nat) (h : i < R.length) : (mirR R i).set i (revB R[i]) = mirR R (i + 1) := by
  unfold mirR
  have hl : ((R.take i).map revB).length = i := by rw [List.length_map, List.length_take]; omega
  rw [List.set_append_right _ _ (by omega), hl, Nat.sub_self, List.drop_eq_getElem_cons h, List.set_cons_zero, List.take_succ_eq_append_getElem h, List.map_append, List.append_assoc]
  rfl
def joinB (R : List ByteArray) : ByteArray := ⟨(Lib.join (R.map (·.data.toList)) [47]).toArray⟩
theorem joinTail_len : ∀ R : List (List UInt8), (Lib.joinTail [47] R).length = sumL R + R.length := by
  intro R
  induction R with
  | nil => rfl
  | cons a t ih =>
    unfold Lib.joinTail at ih ⊢
    simp only [List.map_cons, List.flatten_cons, List.length_append, List.length_cons, sumL, List.length_nil] at ih ⊢
    omega
theorem join_len (R : List (List UInt8)) : (Lib.join R [47]).length ≤ sumL R + R.length := by
  cases R with
  | nil => simp [Lib.join_nil]
  | cons a t =>
    rw [Lib.join_cons, List.length_append, joinTail_len]
    simp only [sumL, List.length_cons]
    omega
theorem join_f (R : List ByteArray) (h : sumL (R.map (·.data.toList)) + R.length ≤ 140737488355328) : strings_Join.f R (⟨#[47]⟩ : ByteArray) = some (joinB R) := by
  unfold strings_Join.f
  have := join_len (R.map (·.data.toList))
  rw [List.length_map] at this
  rw [if_pos ⟨by omega, by show (Lib.join _ [47]).length ≤ _; omega⟩]
  rfl
theorem sumL_rev : ∀ T : List (List UInt8), sumL (T.map List.reverse) = sumL T := by
  intro T
  induction T with
  | nil => rfl
  | cons a t ih => simp [sumL, ih]
theorem rows_sum (s : ByteArray) : sumL (((rowsB s).map revB).map (·.data.toList)) + ((rowsB s).map revB).length = s.size + 1 := by
  have h := rowsOf_len s.data.toList
  have e : ((rowsB s).map revB).map (·.data.toList) = (rowsOf s.data.toList).map List.reverse := by
    unfold rowsB
    rw [List.map_map, List.map_map]
    refine List.map_congr_left (fun r _ => ?_)
    simp [revB, mkB]
  rw [e, sumL_rev, size_len, List.length_map]
  have : (rowsB s).length = (rowsOf s.data.toList).length := by unfold rowsB; simp
  omega
theorem rows_le2 (s : ByteArray) : ∀ i, i < (rowsB s).length → (rdOf ByteArray.empty (mirR (rowsB s) i) (i : Int)).data.toList.length ≤ s.size := by
  intro i hi
  rw [mirR_at _ i hi, ← size_len]
  exact rows_le s _ (List.getElem_mem hi)
def mirF (s : ByteArray) : ByteArray × Bool := if isTab s = true then (joinB ((rowsB s).map revB), true) else (⟨#[]⟩, false)
end Go.Proofs.YtjhbnkplpaffoaaDoor.Pure
