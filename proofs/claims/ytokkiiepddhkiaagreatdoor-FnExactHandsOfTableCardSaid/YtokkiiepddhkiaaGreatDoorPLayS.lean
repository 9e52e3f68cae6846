/- The reference's search for layouts: what it finds, plain. -/
import Derived.Test.YtokkiiepddhkiaaGreatDoorPLayG
import Derived.Test.YtokkiiepddhkiaaGreatDoorPCells
import Derived.Test.YtokkiiepddhkiaaGreatDoorPTile0
namespace Go.Proofs.YtokkiiepddhkiaaGreatDoor.Pure
open Go.RowKit Go.Proofs.YtokkiiepddhkiaaGreatDoor.Hd Go.Proofs.YtokkiiepddhkiaaGreatDoorW.PrintWords Go.Proofs.YtokkiiepddhkiaaGreatDoorW.PrintLast
set_option linter.unusedVariables false
set_option linter.unusedSimpArgs false
/-- The tile of two cells. -/
def tilC (C : List Int) (i j : Int) : S_Tile := tileN (rd C i) (rd C j)
theorem tiOf_tilC (C : List Int) (i j : Int) : spec_tiOf.f (rd C i) (rd C j) = some ((tilC C i j).f0, (tilC C i j).f1) := tiOf_eq _ _
/-- A step of the search with the tiles H that are left (all of them where an is true). -/
def nxS (an : Bool) (C : List Int) (H : List S_Tile) (i j : Nat) : Option (List S_Tile) :=
  if an = true then some H else if tilC C (i : Int) (j : Int) ∈ H then some (H.erase (tilC C (i : Int) (j : Int))) else none
/-- What has been found, when those of L come. -/
def addF (most : Int) : List (List Int) → List (List Int) → List (List Int)
  | fd, [] => fd
  | fd, b :: L => addF most (if (fd.length : Int) ≤ most then fd ++ [b] else fd) L
theorem addF_nil (most : Int) (fd : List (List Int)) : addF most fd [] = fd := rfl
theorem addF_one (most : Int) (fd : List (List Int)) (b : List Int) : addF most fd [b] = if (fd.length : Int) ≤ most then fd ++ [b] else fd := rfl
theorem addF_append (most : Int) : ∀ (L M fd : List (List Int)), addF most fd (L ++ M) = addF most (addF most fd L) M := by
  intro L
  induction L with
  | nil => intro M fd; rfl
  | cons b L ih => intro M fd; exact ih M _
theorem addF_len (most : Int) : ∀ (L fd : List (List Int)), (addF most fd L).length ≤ fd.length + L.length := by
  intro L
  induction L with
  | nil => intro fd; exact Nat.le_refl _
  | cons b L ih =>
    intro fd
    have h := ih (if (fd.length : Int) ≤ most then fd ++ [b] else fd)
    show (addF most (if (fd.length : Int) ≤ most then fd ++ [b] else fd) L).length ≤ _
    have h2 : (if (fd.length : Int) ≤ most then fd ++ [b] else fd).length ≤ fd.length + 1 := by split <;> simp
    rw [List.length_cons]
    omega
section
variable {η : Type} {nx : η → Nat → Nat → Option η} {w n : Int}
theorem putL_hit {f : List Int → Nat → η → List (List Int × η)} {b : List Int} {i : Nat} {j l l2 : Int} {h : η} (h0 : 0 ≤ j) (hb : rd b j = 0) : putL nx f b i j l l2 h = (nx h i j.toNat).elim [] (fun h' => f ((b.set i l).set j.toNat l2) (i + 1) h') := by
  unfold putL; rw [if_pos ⟨h0, hb⟩]
theorem putL_miss {f : List Int → Nat → η → List (List Int × η)} {b : List Int} {i : Nat} {j l l2 : Int} {h : η} (hn : ¬ (0 ≤ j ∧ rd b j = 0)) : putL nx f b i j l l2 h = [] := by
  unfold putL; rw [if_neg hn]
theorem lvs_bd : ∀ (d : Nat) (b : List Int) (a : Nat) (h : η), ((lvs nx w n d b a h).length : Int) ≤ P2 d := by
  intro d
  induction d with
  | zero => intro b a h; exact Int.le_trans (by decide : ((0 : Nat) : Int) ≤ 1) (P2_pos 0)
  | succ d ih =>
    intro b a h
    have hp := P2_pos d
    have key : ∀ b i j l l2 h, ((putL nx (lvs nx w n d) b i j l l2 h).length : Int) ≤ P2 d := by
      intro b i j l l2 h
      unfold putL
      split
      · cases nx h i j.toNat with
        | none => exact Int.le_trans (by decide : ((0 : Nat) : Int) ≤ 1) hp
        | some h' => exact ih _ _ _
      · exact Int.le_trans (by decide : ((0 : Nat) : Int) ≤ 1) hp
    rw [lvs_succ]
    simp only [P2]
    split
    · simp only [List.length_cons, List.length_nil]; omega
    · have h1 := key b (ffN b a) (nearE w (ffN b a)) 101 119 h
      have h2 := key b (ffN b a) (nearS w n (ffN b a)) 115 110 h
      rw [List.length_append]
      omega
theorem putL_bd (d : Nat) (b : List Int) (i : Nat) (j l l2 : Int) (h : η) : ((putL nx (lvs nx w n d) b i j l l2 h).length : Int) ≤ P2 d := by
  have hp := P2_pos d
  unfold putL
  split
  · cases nx h i j.toNat with
    | none => exact Int.le_trans (by decide : ((0 : Nat) : Int) ≤ 1) hp
    | some h' => exact lvs_bd _ _ _ _
  · exact Int.le_trans (by decide : ((0 : Nat) : Int) ≤ 1) hp
end
theorem idxT_erase {H : List S_Tile} {t : S_Tile} (h : t ∈ H) : H.take (idxT H t).toNat ++ H.drop ((idxT H t).toNat + 1) = H.erase t := by
  have e : idxT H t = (H.idxOf t : Int) := by unfold idxT; rw [if_pos h]
  rw [e, Int.toNat_natCast, List.erase_eq_eraseIdx_of_idxOf (i := H.idxOf t) rfl, List.eraseIdx_eq_take_drop_succ]
theorem idxT_mem {H : List S_Tile} {t : S_Tile} : ¬ idxT H t < 0 ↔ t ∈ H := by rw [← idxT_ge H t]; omega
theorem idxT_lt {H : List S_Tile} {t : S_Tile} : idxT H t < (H.length : Int) := by
  unfold idxT
  split
  · rename_i h; have := List.idxOf_lt_length_of_mem h; omega
  · omega
end Go.Proofs.YtokkiiepddhkiaaGreatDoor.Pure
