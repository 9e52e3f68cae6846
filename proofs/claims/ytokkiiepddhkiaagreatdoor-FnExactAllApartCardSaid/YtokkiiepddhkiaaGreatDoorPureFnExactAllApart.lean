/- FnExactAllApart: the plain statement. -/
import Derived.Test.YtokkiiepddhkiaaGreatDoorPAllApart
import Derived.Test.YtokkiiepddhkiaaGreatDoorPLawTile
import Derived.Test.YtokkiiepddhkiaaGreatDoorPMarkTile0
import Derived.Test.YtokkiiepddhkiaaGreatDoorPMarkText
import Derived.Test.YtokkiiepddhkiaaGreatDoorG3
namespace Go.Proofs.YtokkiiepddhkiaaGreatDoor.Pure
open Go Go.RowKit Go.Proofs.YtokkiiepddhkiaaGreatDoor.Hd Go.Proofs.YtokkiiepddhkiaaGreatDoorW.PrintWords Go.Proofs.YtokkiiepddhkiaaGreatDoorW.PrintLast
set_option linter.unusedVariables false
theorem FnExactAllApart (a0 : ByteArray) (l1 : List (S_LTile)) (h0 : a0.size ≤ 140737488351232) (h_l1 : l1.length ≤ 9223372036854775807) : ∃ k, laws_FnExactAllApart.f k a0 l1 = some true := by
  refine Ev.fin ?_
  unfold laws_FnExactAllApart.f
  have c1 := cpT_len l1
  by_cases h : (a0.size : Int) > 1048576
  · exact Ev.pos h (Ev.now _)
  refine Ev.neg h ?_
  obtain ⟨z, hz, bz⟩ := szTileS_c l1 1048576 (by omega) (by omega) (by omega)
  refine Ev.bs hz ?_
  by_cases cz : z < 0
  · exact Ev.pos cz (Ev.now _)
  refine Ev.neg cz ?_
  have dz := bz (by omega)
  have hto := toTileS_ev l1 (by omega)
  have hsp := specAllApart_eq a0 (cpT l1) (by omega)
  have him := implAllApart_eq a0 (cpT l1) (by omega)
  have hl := resAllApart_len a0 (cpT l1)
  have he := eqStringS_ev (resAllApart a0 (cpT l1)).1 (by omega)
  have hec := eqTileS_ev (cpT l1) (by omega)
  have hmc := markTileS_ev (cpT l1) 1 (by omega) (by omega) (by omega)
  have hm := markStringS_ev (resAllApart a0 (cpT l1)).1 1 (by omega) (by omega) (by omega)
  have hh := heldStringS_ev (resAllApart a0 (cpT l1)).1.length 1 (by omega) (by omega) (by omega)
  refine Ev.bd hto (Ev.bs hsp ?_)
  refine Ev.bd hto (Ev.bs him ?_)
  refine Ev.bd he (Ev.pos rfl (Ev.neg (by simp) ?_))
  refine Ev.bd hto (Ev.bd hec (Ev.pos rfl ?_))
  refine Ev.bd hmc (Ev.neg (by omega) ?_)
  refine Ev.bd he (Ev.pos rfl ?_)
  refine Ev.bd hm (Ev.bd hh (Ev.neg (by omega) (Ev.pos rfl ?_)))
  refine Ev.bd hto (Ev.bs him ?_)
  refine Ev.bd he (Ev.pos rfl (Ev.neg (by simp) ?_))
  exact Ev.bd hh (Ev.neg (by omega) (Ev.pos rfl (Ev.now _)))
end Go.Proofs.YtokkiiepddhkiaaGreatDoor.Pure
