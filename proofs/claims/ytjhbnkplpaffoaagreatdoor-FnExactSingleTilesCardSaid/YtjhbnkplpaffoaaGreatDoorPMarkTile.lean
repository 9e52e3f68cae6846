/- The statements' marks on slices of tiles, read again. -/
import Derived.Test.YtjhbnkplpaffoaaGreatDoorPMarkTile0
import Derived.Test.YtjhbnkplpaffoaaGreatDoorG0
namespace Go.Proofs.YtjhbnkplpaffoaaGreatDoor.Pure
open Go.RowKit Go.Proofs.YtjhbnkplpaffoaaGreatDoor.Hd Go.Proofs.YtjhbnkplpaffoaaGreatDoorW.PrintWords Go.Proofs.YtjhbnkplpaffoaaGreatDoorW.PrintLast
set_option linter.unusedVariables false
set_option linter.unusedSimpArgs false
theorem heldTileS_l0 (n : Nat) (a : Int) (hn : n ≤ 35184372088832) (ha0 : 0 ≤ a) (ha : a ≤ 35184372088832) : ∀ (d i : Nat), i + d = n →
    Ev (fun k => laws_heldTileS.l0 k (marksT n a) (a + 2 * i) (i : Int)) (a + 2 * (n : Int)) := by
  intro d
  induction d with
  | zero =>
    intro i hi
    refine Ev.succ ?_
    simp only [laws_heldTileS.l0]
    exact Ev.neg (by rw [marksT_length]; omega) (Ev.ret (by omega))
  | succ d ih =>
    intro i hi
    refine Ev.succ ?_
    simp only [laws_heldTileS.l0]
    have hlt : i < (marksT n a).length := by rw [marksT_length]; omega
    rw [rdT_at hlt, marksT_at n a i hlt, w64' (n := (i : Int) + 1) (m := ((i + 1 : Nat) : Int)) (by omega) (by omega) (by omega), w64' (n := a + 2 * (i : Int) + 1) (m := a + 2 * (i : Int) + 1) (by omega) (by omega) (by omega), w64' (n := a + 2 * (i : Int) + 1 + 1) (m := a + 2 * ((i + 1 : Nat) : Int)) (by omega) (by omega) (by omega)]
    exact Ev.pos (by rw [marksT_length]; omega) (Ev.pos (by omega) (Ev.pos rfl (Ev.pos rfl (ih (i + 1) (by omega)))))
theorem heldTileS_ev (n : Nat) (a : Int) (hn : n ≤ 35184372088832) (ha0 : 0 ≤ a) (ha : a ≤ 35184372088832) : Ev (fun k => laws_heldTileS.f k (marksT n a) a) (a + 2 * (n : Int)) := by
  unfold laws_heldTileS.f
  have h := heldTileS_l0 n a hn ha0 ha n 0 (by omega)
  rw [show a + 2 * ((0 : Nat) : Int) = a by omega] at h
  exact h
end Go.Proofs.YtjhbnkplpaffoaaGreatDoor.Pure
