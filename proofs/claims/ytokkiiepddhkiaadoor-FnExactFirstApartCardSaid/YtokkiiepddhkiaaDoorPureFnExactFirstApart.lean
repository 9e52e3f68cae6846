/- FnExactFirstApart: the plain statement. -/
import Derived.Test.YtokkiiepddhkiaaDoorPFirstApart
import Derived.Test.YtokkiiepddhkiaaDoorPLawTile
import Derived.Test.YtokkiiepddhkiaaDoorG3
namespace Go.Proofs.YtokkiiepddhkiaaDoor.Pure
open Go Go.RowKit Go.Proofs.YtokkiiepddhkiaaDoor.Hd Go.Proofs.YtokkiiepddhkiaaDoorW.PrintWords Go.Proofs.YtokkiiepddhkiaaDoorW.PrintLast
set_option linter.unusedVariables false
theorem FnExactFirstApart (a0 : ByteArray) (l1 : List (S_LTile)) (h0 : a0.size ≤ 140737488351232) (h_l1 : l1.length ≤ 9223372036854775807) : ∃ k, laws_FnExactFirstApart.f k a0 l1 = some true := by
  refine Ev.fin ?_
  unfold laws_FnExactFirstApart.f
  have c1 := cpT_len l1
  by_cases h : (a0.size : Int) > 1048576
  · exact Ev.pos h (Ev.now _)
  refine Ev.neg h ?_
  obtain ⟨z, hz, bz⟩ := szTileS_c l1 1048576 (by omega) (by omega) (by omega)
  refine Ev.bs hz ?_
  by_cases cz : z < 0
  · exact Ev.pos cz (Ev.now _)
  refine Ev.neg cz ?_
  have dz := bz (by omega)
  have hto := toTileS_ev l1 (by omega)
  have hec := eqTileS_ev (cpT l1) (by omega)
  refine Ev.bd hto (Ev.bs (specFirstApart_eq a0 (cpT l1) (by omega)) ?_)
  refine Ev.bd hto (Ev.bs (implFirstApart_eq a0 (cpT l1) (by omega)) ?_)
  refine Ev.pos rfl (Ev.neg (by simp) ?_)
  exact Ev.bd hto (Ev.bd hec (Ev.pos rfl (Ev.now _)))
end Go.Proofs.YtokkiiepddhkiaaDoor.Pure
