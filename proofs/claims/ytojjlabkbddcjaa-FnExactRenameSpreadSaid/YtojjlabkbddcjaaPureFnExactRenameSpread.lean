/- The program's RenameSpread answers what the reference's answers, for all arguments. -/
import Derived.Test.YtojjlabkbddcjaaPMarkPlay
import Derived.Test.YtojjlabkbddcjaaPMarkInt
import Derived.Test.YtojjlabkbddcjaaPRename
import Derived.Test.YtojjlabkbddcjaaG4
namespace Go.Proofs.Ytojjlabkbddcjaa.Pure
open Go.RowKit Go.Proofs.Ytojjlabkbddcjaa.Hd Go.Proofs.YtojjlabkbddcjaaW.PrintWords Go.Proofs.YtojjlabkbddcjaaW.PrintLast
set_option linter.unusedVariables false
set_option linter.unusedSimpArgs false
theorem FnExactRenameSpread (l0 : List (S_LPlay)) (l1 : List Int) (h_l0 : l0.length ≤ 9223372036854775807) (h_l1 : l1.length ≤ 9223372036854775807) : ∃ k, laws_FnExactRenameSpread.f k l0 l1 = some true := by
  refine Ev.fin ?_
  unfold laws_FnExactRenameSpread.f
  have c1 := cpP_len l0
  by_cases hc1 : (l1.length : Int) > 1048576
  · exact Ev.pos hc1 (Ev.ret rfl)
  refine Ev.neg hc1 ?_
  obtain ⟨z4, hz4, bz4⟩ := szPlayS_c l0 1048576 (by omega) (by omega) (by omega)
  refine Ev.bs hz4 ?_
  by_cases cz4 : z4 < 0
  · exact Ev.pos cz4 (Ev.ret rfl)
  refine Ev.neg cz4 ?_
  have dz4 := bz4 (by omega)
  refine Ev.bd (toPlayS_ev l0 (by omega)) ?_
  refine Ev.bd (toIntS_ev l1 (by omega)) ?_
  refine Ev.bd (specRenameSpread_ev (cpP l0) l1 (by omega) (by omega)) ?_
  have hb1 := resRenameSpread_len (cpP l0) l1
  refine Ev.bd (toPlayS_ev l0 (by omega)) ?_
  refine Ev.bd (toIntS_ev l1 (by omega)) ?_
  refine Ev.bd (implRenameSpread_ev (cpP l0) l1 (by omega) (by omega)) ?_
  refine Ev.bd (eqPlayS_ev (resRenameSpread (cpP l0) l1).1 (by omega)) ?_
  refine Ev.pos (by first | rfl | trivial | omega) ?_
  refine Ev.neg (by simp) ?_
  refine Ev.bd (toPlayS_ev l0 (by omega)) ?_
  refine Ev.bd (eqPlayS_ev (cpP l0) (by omega)) ?_
  refine Ev.pos (by first | rfl | trivial | omega) ?_
  refine Ev.bd (toIntS_ev l1 (by omega)) ?_
  refine Ev.bd (eqIntS_ev l1 (by omega)) ?_
  refine Ev.pos (by first | rfl | trivial | omega) ?_
  refine Ev.bd (markPlayS_ev (cpP l0) 1 (by omega) (by omega) (by omega)) ?_
  refine Ev.bd (markIntS_ev l1 (1 + 3 * ((cpP l0).length : Int)) (by omega) (by omega) (by omega)) ?_
  refine Ev.neg (by omega) ?_
  refine Ev.bd (eqPlayS_ev (resRenameSpread (cpP l0) l1).1 (by omega)) ?_
  refine Ev.pos (by first | rfl | trivial | omega) ?_
  refine Ev.bd (markPlayS_ev (resRenameSpread (cpP l0) l1).1 1 (by omega) (by omega) (by omega)) ?_
  refine Ev.bd (heldPlayS_ev (resRenameSpread (cpP l0) l1).1.length 1 (by omega) (by omega) (by omega)) ?_
  refine Ev.neg (by omega) ?_
  refine Ev.pos (by first | rfl | trivial | omega) ?_
  refine Ev.bd (toPlayS_ev l0 (by omega)) ?_
  refine Ev.bd (toIntS_ev l1 (by omega)) ?_
  refine Ev.bd (implRenameSpread_ev (cpP l0) l1 (by omega) (by omega)) ?_
  refine Ev.bd (eqPlayS_ev (resRenameSpread (cpP l0) l1).1 (by omega)) ?_
  refine Ev.pos (by first | rfl | trivial | omega) ?_
  refine Ev.neg (by simp) ?_
  refine Ev.bd (heldPlayS_ev (resRenameSpread (cpP l0) l1).1.length 1 (by omega) (by omega) (by omega)) ?_
  refine Ev.neg (by omega) ?_
  refine Ev.pos (by first | rfl | trivial | omega) ?_
  exact Ev.ret rfl
end Go.Proofs.Ytojjlabkbddcjaa.Pure
