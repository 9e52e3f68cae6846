/- The statements' comparing of slices of tiles. -/
import Derived.Test.YtokkiiepddhkiaaGreatDoorPRdA
import Derived.Test.YtokkiiepddhkiaaGreatDoorG1
namespace Go.Proofs.YtokkiiepddhkiaaGreatDoor.Pure
open Go.RowKit Go.Proofs.YtokkiiepddhkiaaGreatDoor.Hd Go.Proofs.YtokkiiepddhkiaaGreatDoorW.PrintWords Go.Proofs.YtokkiiepddhkiaaGreatDoorW.PrintLast
set_option linter.unusedVariables false
set_option linter.unusedSimpArgs false
theorem eqTile_refl (x y : Int) : laws_eqTile.f x y x y = some true := by
  unfold laws_eqTile.f; rw [if_pos rfl, if_pos rfl]
theorem eqTileS_l0 (l : List S_Tile) (hl : l.length ≤ 35184372088832) : ∀ (d i : Nat), i + d = l.length → Ev (fun k => laws_eqTileS.l0 k l l (i : Int)) true := by
  intro d
  induction d with
  | zero =>
    intro i hi
    refine Ev.succ ?_
    simp only [laws_eqTileS.l0]
    exact Ev.neg (by omega) (Ev.ret rfl)
  | succ d ih =>
    intro i hi
    refine Ev.succ ?_
    simp only [laws_eqTileS.l0]
    refine Ev.pos (by omega) (Ev.pos (by omega) (Ev.pos (by omega) (Ev.bs (eqTile_refl _ _) (Ev.pos rfl ?_))))
    rw [w64' (m := ((i + 1 : Nat) : Int)) (by omega) (by omega) (by omega)]
    exact ih (i + 1) (by omega)
theorem eqTileS_ev (l : List S_Tile) (hl : l.length ≤ 35184372088832) : Ev (fun k => laws_eqTileS.f k l l) true := by
  unfold laws_eqTileS.f
  exact Ev.pos rfl (eqTileS_l0 l hl l.length 0 (by omega))
end Go.Proofs.YtokkiiepddhkiaaGreatDoor.Pure
