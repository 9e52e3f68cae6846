/- FnExactTurnTable: the plain statement. -/
import Derived.Test.YtokkiiepddhkiaaDoorPTurnS
import Derived.Test.YtokkiiepddhkiaaDoorMTurnI
import Derived.Test.YtokkiiepddhkiaaDoorG3
namespace Go.Proofs.YtokkiiepddhkiaaDoor.Pure
open Go Go.RowKit Go.Proofs.YtokkiiepddhkiaaDoor.Hd Go.Proofs.YtokkiiepddhkiaaDoorW.PrintWords Go.Proofs.YtokkiiepddhkiaaDoorW.PrintLast
set_option linter.unusedVariables false
theorem implTurnTable_eq (s : ByteArray) (hs : s.size ≤ 1048576) : impl_TurnTable.f s = some (turnF s) := if_pos hs
theorem FnExactTurnTable (a0 : ByteArray) (h0 : a0.size ≤ 140737488351232) : ∃ k, laws_FnExactTurnTable.f k a0 = some true := by
  refine Ev.fin ?_
  unfold laws_FnExactTurnTable.f
  by_cases h : (a0.size : Int) > 1048576
  · exact Ev.pos h (Ev.now _)
  refine Ev.neg h ?_
  refine Ev.bd (specTurnTable_ev a0 (by omega)) ?_
  refine Ev.bs (implTurnTable_eq a0 (by omega)) ?_
  exact Ev.pos rfl (Ev.neg (by simp) (Ev.now _))
end Go.Proofs.YtokkiiepddhkiaaDoor.Pure
