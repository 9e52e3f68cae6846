/- The program's IsMagic answers what the reference's answers, for all arguments. -/
import Derived.Test.YtdegenmjpjilmaaPLawIntSS
import Derived.Test.YtdegenmjpjilmaaPIsMagic
import Derived.Test.YtdegenmjpjilmaaG3
namespace Go.Proofs.Ytdegenmjpjilmaa.Pure
open Go.RowKit Go.Proofs.Ytdegenmjpjilmaa.Hd Go.Proofs.YtdegenmjpjilmaaW.PrintWords Go.Proofs.YtdegenmjpjilmaaW.PrintLast
set_option linter.unusedVariables false
set_option linter.unusedSimpArgs false
theorem FnExactIsMagic (l0 : List (List Int)) (h_l0 : l0.length ≤ 9223372036854775807) (hh_l0 : ∀ x ∈ l0, x.length ≤ 9223372036854775807) : ∃ k, laws_FnExactIsMagic.f k l0 = some true := by
  refine Ev.fin ?_
  unfold laws_FnExactIsMagic.f
  obtain ⟨z0, hz0, bz0⟩ := szIntSS_c l0 1048576 (by omega) (by omega) (by omega) hh_l0
  refine Ev.bd hz0 ?_
  by_cases cz0 : z0 < 0
  · exact Ev.pos cz0 (Ev.ret rfl)
  refine Ev.neg cz0 ?_
  have dz0 := bz0 (by omega)
  refine Ev.bd (toIntSS_ev l0 (by omega) (by omega)) ?_
  refine Ev.bd (specIsMagic_ev l0 (by omega) (by omega)) ?_
  refine Ev.bd (toIntSS_ev l0 (by omega) (by omega)) ?_
  refine Ev.bd (implIsMagic_ev l0 (by omega) (by omega)) ?_
  refine Ev.neg (by simp) ?_
  refine Ev.neg (by simp) ?_
  refine Ev.bd (toIntSS_ev l0 (by omega) (by omega)) ?_
  refine Ev.bd (eqIntSS_ev l0 (by omega) (by omega)) ?_
  refine Ev.pos (by first | rfl | trivial | omega) ?_
  exact Ev.ret rfl
end Go.Proofs.Ytdegenmjpjilmaa.Pure
