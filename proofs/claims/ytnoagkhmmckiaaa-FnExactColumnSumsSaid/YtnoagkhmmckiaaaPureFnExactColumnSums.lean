/- The program's ColumnSums answers what the reference's answers, for all arguments. -/
import Derived.Test.YtnoagkhmmckiaaaPMarkIntSS
import Derived.Test.YtnoagkhmmckiaaaPColumnSums
import Derived.Test.YtnoagkhmmckiaaaG7
namespace Go.Proofs.Ytnoagkhmmckiaaa.Pure
open Go.RowKit Go.Proofs.Ytnoagkhmmckiaaa.Hd Go.Proofs.YtnoagkhmmckiaaaW.PrintWords Go.Proofs.YtnoagkhmmckiaaaW.PrintLast
set_option linter.unusedVariables false
set_option linter.unusedSimpArgs false
theorem FnExactColumnSums (l0 : List (List Int)) (h_l0 : l0.length ≤ 9223372036854775807) (hh_l0 : ∀ x ∈ l0, x.length ≤ 9223372036854775807) : ∃ k, laws_FnExactColumnSums.f k l0 = some true := by
  refine Ev.fin ?_
  unfold laws_FnExactColumnSums.f
  obtain ⟨z0, hz0, bz0⟩ := szIntSS_c l0 1048576 (by omega) (by omega) (by omega) hh_l0
  refine Ev.bd hz0 ?_
  by_cases cz0 : z0 < 0
  · exact Ev.pos cz0 (Ev.ret rfl)
  refine Ev.neg cz0 ?_
  have dz0 := bz0 (by omega)
  refine Ev.bd (toIntSS_ev l0 (by omega) (by omega)) ?_
  refine Ev.bd (specColumnSums_ev l0 (by omega) (by omega)) ?_
  have hb1 := resColumnSums_len l0 (by omega)
  refine Ev.bd (toIntSS_ev l0 (by omega) (by omega)) ?_
  refine Ev.bd (implColumnSums_ev l0 (by omega) (by omega)) ?_
  refine Ev.bd (eqIntS_ev (resColumnSums l0).1 (by omega)) ?_
  refine Ev.pos (by first | rfl | trivial | omega) ?_
  refine Ev.neg (by simp) ?_
  refine Ev.bd (toIntSS_ev l0 (by omega) (by omega)) ?_
  refine Ev.bd (eqIntSS_ev l0 (by omega) (by omega)) ?_
  refine Ev.pos (by first | rfl | trivial | omega) ?_
  refine Ev.bd (markIntSS_ev l0 1 (by omega) (by omega) (by omega) (by omega)) ?_
  refine Ev.neg (by omega) ?_
  refine Ev.bd (eqIntS_ev (resColumnSums l0).1 (by omega)) ?_
  refine Ev.pos (by first | rfl | trivial | omega) ?_
  refine Ev.bd (markIntS_ev (resColumnSums l0).1 1 (by omega) (by omega) (by omega)) ?_
  refine Ev.bd (heldIntS_ev (resColumnSums l0).1.length 1 (by omega) (by omega) (by omega)) ?_
  refine Ev.neg (by omega) ?_
  refine Ev.pos (by first | rfl | trivial | omega) ?_
  refine Ev.bd (toIntSS_ev l0 (by omega) (by omega)) ?_
  refine Ev.bd (implColumnSums_ev l0 (by omega) (by omega)) ?_
  refine Ev.bd (eqIntS_ev (resColumnSums l0).1 (by omega)) ?_
  refine Ev.pos (by first | rfl | trivial | omega) ?_
  refine Ev.neg (by simp) ?_
  refine Ev.bd (heldIntS_ev (resColumnSums l0).1.length 1 (by omega) (by omega) (by omega)) ?_
  refine Ev.neg (by omega) ?_
  refine Ev.pos (by first | rfl | trivial | omega) ?_
  exact Ev.ret rfl
end Go.Proofs.Ytnoagkhmmckiaaa.Pure
