/- The program's AllFives answers what the reference's answers, for all arguments. -/
import Derived.Test.YtojjlabkbddcjaaPLawPlay
import Derived.Test.YtojjlabkbddcjaaPAllFives
import Derived.Test.YtojjlabkbddcjaaG3
namespace Go.Proofs.Ytojjlabkbddcjaa.Pure
open Go.RowKit Go.Proofs.Ytojjlabkbddcjaa.Hd Go.Proofs.YtojjlabkbddcjaaW.PrintWords Go.Proofs.YtojjlabkbddcjaaW.PrintLast
set_option linter.unusedVariables false
set_option linter.unusedSimpArgs false
theorem FnExactAllFives (l0 : List (S_LPlay)) (h_l0 : l0.length ≤ 9223372036854775807) : ∃ k, laws_FnExactAllFives.f k l0 = some true := by
  refine Ev.fin ?_
  unfold laws_FnExactAllFives.f
  have c1 := cpP_len l0
  obtain ⟨z1, hz1, bz1⟩ := szPlayS_c l0 1048576 (by omega) (by omega) (by omega)
  refine Ev.bs hz1 ?_
  by_cases cz1 : z1 < 0
  · exact Ev.pos cz1 (Ev.ret rfl)
  refine Ev.neg cz1 ?_
  have dz1 := bz1 (by omega)
  refine Ev.bd (toPlayS_ev l0 (by omega)) ?_
  refine Ev.bd (specAllFives_ev (cpP l0) (by omega)) ?_
  refine Ev.bd (toPlayS_ev l0 (by omega)) ?_
  refine Ev.bd (implAllFives_ev (cpP l0) (by omega)) ?_
  refine Ev.pos (by first | rfl | trivial | omega) ?_
  refine Ev.neg (by simp) ?_
  refine Ev.bd (toPlayS_ev l0 (by omega)) ?_
  refine Ev.bd (eqPlayS_ev (cpP l0) (by omega)) ?_
  refine Ev.pos (by first | rfl | trivial | omega) ?_
  exact Ev.ret rfl
end Go.Proofs.Ytojjlabkbddcjaa.Pure
