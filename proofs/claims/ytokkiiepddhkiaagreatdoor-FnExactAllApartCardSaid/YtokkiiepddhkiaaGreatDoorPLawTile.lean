/- The statements' copying and counting of slices of tiles. -/
import Derived.Test.YtokkiiepddhkiaaGreatDoorPEqTile
import Derived.Test.YtokkiiepddhkiaaGreatDoorG1
import Derived.Test.YtokkiiepddhkiaaGreatDoorG0
namespace Go.Proofs.YtokkiiepddhkiaaGreatDoor.Pure
open Go.RowKit Go.Proofs.YtokkiiepddhkiaaGreatDoor.Hd Go.Proofs.YtokkiiepddhkiaaGreatDoorW.PrintWords Go.Proofs.YtokkiiepddhkiaaGreatDoorW.PrintLast
set_option linter.unusedVariables false
set_option linter.unusedSimpArgs false
def cpT (l : List S_LTile) : List S_Tile := l.map fun t => ⟨t.f0, t.f1⟩
theorem cpT_len (l : List S_LTile) : (cpT l).length = l.length := by simp [cpT]
theorem rdL_at {l : List S_LTile} {i : Nat} (h : i < l.length) : rd_LTile l (i : Int) = l[i] := by simp [rd_LTile, h]
theorem cpT_at (l : List S_LTile) (i : Nat) (h : i < (cpT l).length) : (cpT l)[i] = ⟨(l[i]'(by rw [cpT_len] at h; exact h)).f0, (l[i]'(by rw [cpT_len] at h; exact h)).f1⟩ := by simp [cpT]
theorem toTileS_l0 (l : List S_LTile) (hl : l.length ≤ 1048576) : ∀ (d i : Nat) (acc : List S_Tile), i + d = l.length → acc.length = l.length → acc.take i = (cpT l).take i →
    Ev (fun k => laws_toTileS.l0 k l acc (i : Int)) (cpT l) := by
  intro d
  induction d with
  | zero =>
    intro i acc hi ha ht
    refine Ev.succ ?_
    simp only [laws_toTileS.l0]
    refine Ev.neg (by omega) (Ev.ret (take_all (by rw [cpT_len]; exact ha) ht (by rw [cpT_len]; omega)))
  | succ d ih =>
    intro i acc hi ha ht
    refine Ev.succ ?_
    simp only [laws_toTileS.l0]
    have hlt : i < l.length := by omega
    have hlc : i < (cpT l).length := by rw [cpT_len]; exact hlt
    rw [w64' (m := ((i + 1 : Nat) : Int)) (by omega) (by omega) (by omega), rdL_at hlt, Int.toNat_natCast]
    refine Ev.pos (by omega) (Ev.pos (by omega) (Ev.bs rfl (Ev.pos (by omega) ?_)))
    refine ih (i + 1) _ (by omega) (by rw [List.length_set]; exact ha) ?_
    have := set_take acc (cpT l) i (by rw [cpT_len]; exact ha) ht hlc
    rw [cpT_at l i hlc] at this
    exact this
theorem toTileS_ev (l : List S_LTile) (hl : l.length ≤ 1048576) : Ev (fun k => laws_toTileS.f k l) (cpT l) := by
  unfold laws_toTileS.f
  refine Ev.pos (by omega) (Ev.pos (by omega) ?_)
  exact toTileS_l0 l hl l.length 0 _ (by omega) (by simp) (by simp)
theorem szTileS_eq (l : List S_LTile) (a : Int) (h0 : 0 ≤ a) (h1 : a ≤ 1048576) (hl : l.length ≤ 9223372036854775807) : laws_szTileS.f l a = some (if a < l.length then -1 else a - l.length) := by
  unfold laws_szTileS.f
  rw [w64' (n := a - (l.length : Int)) rfl (by omega) (by omega)]
  by_cases h : a < (l.length : Int)
  · rw [if_pos (by omega), if_pos h]
  · rw [if_neg (by omega), if_neg h]
theorem szTileS_c (l : List S_LTile) (a : Int) (h0 : 0 ≤ a) (h1 : a ≤ 1048576) (hl : l.length ≤ 9223372036854775807) : ∃ z : Int, laws_szTileS.f l a = some z ∧ (0 ≤ z → l.length ≤ 1048576 ∧ z ≤ a) := by
  refine ⟨_, szTileS_eq l a h0 h1 hl, ?_⟩
  split <;> intro h <;> omega
end Go.Proofs.YtokkiiepddhkiaaGreatDoor.Pure
