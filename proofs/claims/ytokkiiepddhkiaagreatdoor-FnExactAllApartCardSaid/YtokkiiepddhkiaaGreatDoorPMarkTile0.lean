/- The statements' marking of slices of tiles. -/
import Derived.Test.YtokkiiepddhkiaaGreatDoorPEqTile
import Derived.Test.YtokkiiepddhkiaaGreatDoorG0
namespace Go.Proofs.YtokkiiepddhkiaaGreatDoor.Pure
open Go.RowKit Go.Proofs.YtokkiiepddhkiaaGreatDoor.Hd Go.Proofs.YtokkiiepddhkiaaGreatDoorW.PrintWords Go.Proofs.YtokkiiepddhkiaaGreatDoorW.PrintLast
set_option linter.unusedVariables false
set_option linter.unusedSimpArgs false
def marksT : Nat → Int → List S_Tile
  | 0, _ => []
  | n + 1, a => ⟨a, a + 1⟩ :: marksT n (a + 2)
theorem marksT_length (n : Nat) (a : Int) : (marksT n a).length = n := by
  induction n generalizing a with
  | zero => rfl
  | succ n ih => simp [marksT, ih]
theorem marksT_get (n : Nat) (a : Int) (i : Nat) (h : i < n) : (marksT n a)[i]? = some ⟨a + 2 * i, a + 2 * i + 1⟩ := by
  induction n generalizing a i with
  | zero => omega
  | succ n ih =>
    cases i with
    | zero => simp [marksT]
    | succ i =>
      simp only [marksT, List.getElem?_cons_succ]; rw [ih _ _ (by omega)]
      have e : a + 2 + 2 * (i : Int) = a + 2 * ((i + 1 : Nat) : Int) := by omega
      rw [e]
theorem marksT_at (n : Nat) (a : Int) (i : Nat) (h : i < (marksT n a).length) : (marksT n a)[i] = ⟨a + 2 * i, a + 2 * i + 1⟩ := by
  have := marksT_get n a i (by rw [marksT_length] at h; exact h)
  rw [List.getElem?_eq_getElem h] at this
  exact Option.some.inj this
theorem markTileS_l0 (n : Nat) (a : Int) (hn : n ≤ 35184372088832) (ha0 : 0 ≤ a) (ha : a ≤ 35184372088832) : ∀ (d i : Nat) (acc : List S_Tile), i + d = n → acc.length = n → acc.take i = (marksT n a).take i →
    Ev (fun k => laws_markTileS.l0 k acc (a + 2 * i) (i : Int)) (a + 2 * (n : Int), marksT n a) := by
  intro d
  induction d with
  | zero =>
    intro i acc hi hl ht
    refine Ev.succ ?_
    simp only [laws_markTileS.l0]
    refine Ev.neg (by omega) (Ev.ret ?_)
    rw [take_all (by rw [marksT_length]; exact hl) ht (by rw [marksT_length]; omega), show i = n by omega]
  | succ d ih =>
    intro i acc hi hl ht
    refine Ev.succ ?_
    simp only [laws_markTileS.l0]
    have hlt : i < (marksT n a).length := by rw [marksT_length]; omega
    refine Ev.pos (by omega) (Ev.pos (by omega) (Ev.bs rfl ?_))
    rw [w64' (n := (i : Int) + 1) (m := ((i + 1 : Nat) : Int)) (by omega) (by omega) (by omega), w64' (n := a + 2 * (i : Int) + 1) (m := a + 2 * (i : Int) + 1) (by omega) (by omega) (by omega), w64' (n := a + 2 * (i : Int) + 1 + 1) (m := a + 2 * ((i + 1 : Nat) : Int)) (by omega) (by omega) (by omega)]
    rw [rdT_at (show i < acc.length by omega), rdT_at (show i < (acc.set (i : Int).toNat _).length by rw [List.length_set]; omega)]
    simp only [Int.toNat_natCast, List.getElem_set_self, List.set_set]
    refine ih (i + 1) _ (by omega) (by rw [List.length_set]; exact hl) ?_
    rw [← marksT_at n a i hlt]
    exact set_take acc _ i (by rw [marksT_length]; exact hl) ht hlt
theorem markTileS_ev (l : List S_Tile) (a : Int) (hn : l.length ≤ 35184372088832) (ha0 : 0 ≤ a) (ha : a ≤ 35184372088832) : Ev (fun k => laws_markTileS.f k l a) (a + 2 * (l.length : Int), marksT l.length a) := by
  unfold laws_markTileS.f
  have h := markTileS_l0 l.length a hn ha0 ha l.length 0 l (by omega) rfl (by simp)
  rw [show a + 2 * ((0 : Nat) : Int) = a by omega] at h
  exact h
end Go.Proofs.YtokkiiepddhkiaaGreatDoor.Pure
