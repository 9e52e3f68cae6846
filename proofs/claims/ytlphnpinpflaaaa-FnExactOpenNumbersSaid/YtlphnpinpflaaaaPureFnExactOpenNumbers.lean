/- The program's OpenNumbers answers what the reference's answers, for all arguments. -/
import Derived.Test.YtlphnpinpflaaaaPLawPlay
import Derived.Test.YtlphnpinpflaaaaPMarkPlay
import Derived.Test.YtlphnpinpflaaaaPMarkInt
import Derived.Test.YtlphnpinpflaaaaPOpenNumbers
import Derived.Test.YtlphnpinpflaaaaG4
namespace Go.Proofs.Ytlphnpinpflaaaa.Pure
open Go.RowKit Go.Proofs.Ytlphnpinpflaaaa.Hd Go.Proofs.YtlphnpinpflaaaaW.PrintWords Go.Proofs.YtlphnpinpflaaaaW.PrintLast
set_option linter.unusedVariables false
set_option linter.unusedSimpArgs false
theorem FnExactOpenNumbers (l0 : List (S_LPlay)) (h_l0 : l0.length ≤ 9223372036854775807) : ∃ k, laws_FnExactOpenNumbers.f k l0 = some true := by
  refine Ev.fin ?_
  unfold laws_FnExactOpenNumbers.f
  have c1 := cpP_len l0
  obtain ⟨z1, hz1, bz1⟩ := szPlayS_c l0 1048576 (by omega) (by omega) (by omega)
  refine Ev.bs hz1 ?_
  by_cases cz1 : z1 < 0
  · exact Ev.pos cz1 (Ev.ret rfl)
  refine Ev.neg cz1 ?_
  have dz1 := bz1 (by omega)
  refine Ev.bd (toPlayS_ev l0 (by omega)) ?_
  refine Ev.bd (specOpenNumbers_ev (cpP l0) (by omega)) ?_
  have hb1 := resOpenNumbers_len (cpP l0)
  refine Ev.bd (toPlayS_ev l0 (by omega)) ?_
  refine Ev.bd (implOpenNumbers_ev (cpP l0) (by omega)) ?_
  refine Ev.bd (eqIntS_ev (resOpenNumbers (cpP l0)).1 (by omega)) ?_
  refine Ev.pos (by first | rfl | trivial | omega) ?_
  refine Ev.neg (by simp) ?_
  refine Ev.bd (toPlayS_ev l0 (by omega)) ?_
  refine Ev.bd (eqPlayS_ev (cpP l0) (by omega)) ?_
  refine Ev.pos (by first | rfl | trivial | omega) ?_
  refine Ev.bd (markPlayS_ev (cpP l0) 1 (by omega) (by omega) (by omega)) ?_
  refine Ev.neg (by omega) ?_
  refine Ev.bd (eqIntS_ev (resOpenNumbers (cpP l0)).1 (by omega)) ?_
  refine Ev.pos (by first | rfl | trivial | omega) ?_
  refine Ev.bd (markIntS_ev (resOpenNumbers (cpP l0)).1 1 (by omega) (by omega) (by omega)) ?_
  refine Ev.bd (heldIntS_ev (resOpenNumbers (cpP l0)).1.length 1 (by omega) (by omega) (by omega)) ?_
  refine Ev.neg (by omega) ?_
  refine Ev.pos (by first | rfl | trivial | omega) ?_
  refine Ev.bd (toPlayS_ev l0 (by omega)) ?_
  refine Ev.bd (implOpenNumbers_ev (cpP l0) (by omega)) ?_
  refine Ev.bd (eqIntS_ev (resOpenNumbers (cpP l0)).1 (by omega)) ?_
  refine Ev.pos (by first | rfl | trivial | omega) ?_
  refine Ev.neg (by simp) ?_
  refine Ev.bd (heldIntS_ev (resOpenNumbers (cpP l0)).1.length 1 (by omega) (by omega) (by omega)) ?_
  refine Ev.neg (by omega) ?_
  refine Ev.pos (by first | rfl | trivial | omega) ?_
  exact Ev.ret rfl
end Go.Proofs.Ytlphnpinpflaaaa.Pure
