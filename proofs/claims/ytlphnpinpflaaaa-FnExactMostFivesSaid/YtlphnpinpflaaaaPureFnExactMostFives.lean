/- The program's MostFives answers what the reference's answers, for all arguments. -/
import Derived.Test.YtlphnpinpflaaaaPMarkPlay
import Derived.Test.YtlphnpinpflaaaaPLawTile
import Derived.Test.YtlphnpinpflaaaaPMarkTile0
import Derived.Test.YtlphnpinpflaaaaPMostFives
import Derived.Test.YtlphnpinpflaaaaG3
namespace Go.Proofs.Ytlphnpinpflaaaa.Pure
open Go.RowKit Go.Proofs.Ytlphnpinpflaaaa.Hd Go.Proofs.YtlphnpinpflaaaaW.PrintWords Go.Proofs.YtlphnpinpflaaaaW.PrintLast
set_option linter.unusedVariables false
set_option linter.unusedSimpArgs false
theorem FnExactMostFives (l0 : List (S_LPlay)) (l1 : List (S_LTile)) (h_l0 : l0.length ≤ 9223372036854775807) (h_l1 : l1.length ≤ 9223372036854775807) : ∃ k, laws_FnExactMostFives.f k l0 l1 = some true := by
  refine Ev.fin ?_
  unfold laws_FnExactMostFives.f
  have c1 := cpP_len l0
  have c2 := cpT_len l1
  obtain ⟨z2, hz2, bz2⟩ := szPlayS_c l0 1048576 (by omega) (by omega) (by omega)
  refine Ev.bs hz2 ?_
  by_cases cz2 : z2 < 0
  · exact Ev.pos cz2 (Ev.ret rfl)
  refine Ev.neg cz2 ?_
  have dz2 := bz2 (by omega)
  obtain ⟨z8, hz8, bz8⟩ := szTileS_c l1 z2 (by omega) (by omega) (by omega)
  refine Ev.bs hz8 ?_
  by_cases cz8 : z8 < 0
  · exact Ev.pos cz8 (Ev.ret rfl)
  refine Ev.neg cz8 ?_
  have dz8 := bz8 (by omega)
  refine Ev.bd (toPlayS_ev l0 (by omega)) ?_
  refine Ev.bd (toTileS_ev l1 (by omega)) ?_
  refine Ev.bd (specMostFives_ev (cpP l0) (cpT l1) (by omega) (by omega)) ?_
  have hb1 := resMostFives_len (cpP l0) (cpT l1)
  refine Ev.bd (toPlayS_ev l0 (by omega)) ?_
  refine Ev.bd (toTileS_ev l1 (by omega)) ?_
  refine Ev.bd (implMostFives_ev (cpP l0) (cpT l1) (by omega) (by omega)) ?_
  refine Ev.bd (eqPlayS_ev (resMostFives (cpP l0) (cpT l1)).1 (by omega)) ?_
  refine Ev.pos (by first | rfl | trivial | omega) ?_
  refine Ev.pos (by first | rfl | trivial | omega) ?_
  refine Ev.neg (by simp) ?_
  refine Ev.bd (toPlayS_ev l0 (by omega)) ?_
  refine Ev.bd (eqPlayS_ev (cpP l0) (by omega)) ?_
  refine Ev.pos (by first | rfl | trivial | omega) ?_
  refine Ev.bd (toTileS_ev l1 (by omega)) ?_
  refine Ev.bd (eqTileS_ev (cpT l1) (by omega)) ?_
  refine Ev.pos (by first | rfl | trivial | omega) ?_
  refine Ev.bd (markPlayS_ev (cpP l0) 1 (by omega) (by omega) (by omega)) ?_
  refine Ev.bd (markTileS_ev (cpT l1) (1 + 3 * ((cpP l0).length : Int)) (by omega) (by omega) (by omega)) ?_
  refine Ev.neg (by omega) ?_
  refine Ev.bd (eqPlayS_ev (resMostFives (cpP l0) (cpT l1)).1 (by omega)) ?_
  refine Ev.pos (by first | rfl | trivial | omega) ?_
  refine Ev.bd (markPlayS_ev (resMostFives (cpP l0) (cpT l1)).1 1 (by omega) (by omega) (by omega)) ?_
  refine Ev.bd (heldPlayS_ev (resMostFives (cpP l0) (cpT l1)).1.length 1 (by omega) (by omega) (by omega)) ?_
  refine Ev.neg (by omega) ?_
  refine Ev.pos (by first | rfl | trivial | omega) ?_
  refine Ev.bd (toPlayS_ev l0 (by omega)) ?_
  refine Ev.bd (toTileS_ev l1 (by omega)) ?_
  refine Ev.bd (implMostFives_ev (cpP l0) (cpT l1) (by omega) (by omega)) ?_
  refine Ev.bd (eqPlayS_ev (resMostFives (cpP l0) (cpT l1)).1 (by omega)) ?_
  refine Ev.pos (by first | rfl | trivial | omega) ?_
  refine Ev.pos (by first | rfl | trivial | omega) ?_
  refine Ev.neg (by simp) ?_
  refine Ev.bd (heldPlayS_ev (resMostFives (cpP l0) (cpT l1)).1.length 1 (by omega) (by omega) (by omega)) ?_
  refine Ev.neg (by omega) ?_
  refine Ev.pos (by first | rfl | trivial | omega) ?_
  exact Ev.ret rfl
end Go.Proofs.Ytlphnpinpflaaaa.Pure
