/- FnExactSpreadText: the plain statement. -/
import Derived.Test.YtddgfphbbkjmpaaDoorPSprI
import Derived.Test.YtddgfphbbkjmpaaDoorPLawPlay
import Derived.Test.YtddgfphbbkjmpaaDoorG3
namespace Go.Proofs.YtddgfphbbkjmpaaDoor.Pure
open Go Go.RowKit Go.Proofs.YtddgfphbbkjmpaaDoor.Hd Go.Proofs.YtddgfphbbkjmpaaDoorW.PrintWords Go.Proofs.YtddgfphbbkjmpaaDoorW.PrintLast
set_option linter.unusedVariables false
theorem FnExactSpreadText (l0 : List (S_LPlay)) (h_l0 : l0.length ≤ 9223372036854775807) : ∃ k, laws_FnExactSpreadText.f k l0 = some true := by
  refine Ev.fin ?_
  unfold laws_FnExactSpreadText.f
  have c1 := cpP_len l0
  obtain ⟨z, hz, bz⟩ := szPlayS_c l0 1048576 (by omega) (by omega) (by omega)
  refine Ev.bs hz ?_
  by_cases cz : z < 0
  · exact Ev.pos cz (Ev.now _)
  refine Ev.neg cz ?_
  have dz := bz (by omega)
  have hto := toPlayS_ev l0 (by omega)
  have hec := eqPlayS_ev (cpP l0) (by omega)
  refine Ev.bd hto (Ev.bs (specText_eq (by omega)) ?_)
  refine Ev.bd hto (Ev.bd (implText_ev (cpP l0)) ?_)
  refine Ev.pos rfl (Ev.neg (by simp) ?_)
  exact Ev.bd hto (Ev.bd hec (Ev.pos rfl (Ev.now _)))
end Go.Proofs.YtddgfphbbkjmpaaDoor.Pure
