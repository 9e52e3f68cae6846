/- The texts of layouts, plain. -/
import Derived.Test.YtokkiiepddhkiaaGreatDoorPApB
namespace Go.Proofs.YtokkiiepddhkiaaGreatDoor.Pure
open Go.RowKit Go.Proofs.YtokkiiepddhkiaaGreatDoor.Hd Go.Proofs.YtokkiiepddhkiaaGreatDoorW.PrintWords Go.Proofs.YtokkiiepddhkiaaGreatDoorW.PrintLast
set_option linter.unusedVariables false
def txtL (s : ByteArray) (L : List (List Int)) : List ByteArray := L.map (formT (w0 (rowsB s)) (rowsB s).length)
def alF : List ByteArray → ByteArray → Bool × List ByteArray := fun l x => (true, l ++ [x])
theorem goL_all {β : Type} (f : β → ByteArray) : ∀ (L : List β) (a : List ByteArray), goL (fun l x => ((true, l ++ [f x]) : Bool × List ByteArray)) L a = (true, a ++ L.map f) := by
  intro L
  induction L with
  | nil => intro a; show (true, a) = _; simp
  | cons x L ih =>
    intro a
    show (if true = true then goL (fun l x => ((true, l ++ [f x]) : Bool × List ByteArray)) L (a ++ [f x]) else _) = _
    rw [if_pos rfl, ih]
    simp
theorem apR_all {s : ByteArray} (ht : isTab s = true) {hand : List S_Tile} (hb : handB hand = true) : apR s hand alF [] = txtL s (lvsH s hand) := by
  rw [apR_eq ht hb]
  show (goL (fun l x => ((true, l ++ [formT (w0 (rowsB s)) (rowsB s).length x]) : Bool × List ByteArray)) (lvsH s hand) []).2 = _
  rw [goL_all]; rfl
theorem addF_full {m : Nat} : ∀ (L fd : List (List Int)), fd.length + L.length ≤ m + 1 → addF (m : Int) fd L = fd ++ L := by
  intro L
  induction L with
  | nil => intro fd _; rw [addF_nil, List.append_nil]
  | cons x L ih =>
    intro fd h
    rw [List.length_cons] at h
    show addF (m : Int) (if (fd.length : Int) ≤ (m : Int) then fd ++ [x] else fd) L = _
    rw [if_pos (by omega), ih _ (by simp; omega), List.append_assoc]; rfl
theorem rdS_get {L : List (List Int)} {i : Nat} (h : i < L.length) : rd_i64s L (i : Int) = L[i] := by simp [rd_i64s, h]
theorem txtL_next {s : ByteArray} {L : List (List Int)} {i : Nat} (h : i < L.length) : txtL s (L.take i) ++ [formT (w0 (rowsB s)) (rowsB s).length (rd_i64s L (i : Int))] = txtL s (L.take (i + 1)) := by
  unfold txtL
  rw [List.take_succ_eq_append_getElem h, List.map_append, rdS_get h]; rfl
theorem txtL_len (s : ByteArray) (L : List (List Int)) : (txtL s L).length = L.length := by simp [txtL]
end Go.Proofs.YtokkiiepddhkiaaGreatDoor.Pure
