/- The program's SwapRows answers what the reference's answers, for all arguments. -/
import Derived.Test.YtipkmbgebpeeoaaPMarkSS
import Derived.Test.YtipkmbgebpeeoaaPSwapRows
import Derived.Test.YtipkmbgebpeeoaaG3
namespace Go.Proofs.Ytipkmbgebpeeoaa.Pure
open Go.RowKit Go.Proofs.Ytipkmbgebpeeoaa.Hd Go.Proofs.YtipkmbgebpeeoaaW.PrintWords Go.Proofs.YtipkmbgebpeeoaaW.PrintLast
set_option linter.unusedVariables false
set_option linter.unusedSimpArgs false
theorem FnExactSwapRows (l0 : List (List Int)) (a1 a2 : Int) (h_l0 : l0.length ≤ 9223372036854775807) (hh_l0 : ∀ x ∈ l0, x.length ≤ 9223372036854775807) (h_a1 : (Lit.int .i64 a1).wf = true) (h_a2 : (Lit.int .i64 a2).wf = true) : ∃ k, laws_FnExactSwapRows.f k l0 a1 a2 = some true := by
  refine Ev.fin ?_
  unfold laws_FnExactSwapRows.f
  obtain ⟨z0, hz0, bz0⟩ := szIntSS_c l0 1048576 (by omega) (by omega) (by omega) hh_l0
  refine Ev.bd hz0 ?_
  by_cases cz0 : z0 < 0
  · exact Ev.pos cz0 (Ev.ret rfl)
  refine Ev.neg cz0 ?_
  have dz0 := bz0 (by omega)
  have hl : l0.length ≤ 1048576 := by omega
  have hf : l0.flatten.length ≤ 1048576 := by omega
  obtain ⟨hb1, hb2⟩ := resSwapRows_len l0 a1 a2
  obtain ⟨R, hR⟩ : ∃ R, resSwapRows l0 a1 a2 = R := ⟨_, rfl⟩
  have hS := specSwapRows_ev l0 a1 a2 hl hf
  have hI := implSwapRows_ev l0 a1 a2 hl hf
  rw [hR] at hb1 hb2 hS hI
  have hE := eqIntSS_ev R.1 hb1 hb2
  have hM := markSS_ev R.1 1 hb1 hb2 (by omega) (by omega)
  have hH := heldSS_ev R.1 1 hb1 hb2 (by omega) (by omega)
  refine Ev.bd (toIntSS_ev l0 hl hf) (Ev.bd hS (Ev.bd (toIntSS_ev l0 hl hf) (Ev.bs hI (Ev.bd hE (Ev.pos rfl (Ev.neg (by simp) ?_))))))
  refine Ev.bd (toIntSS_ev l0 hl hf) (Ev.bd (eqIntSS_ev l0 hl hf) (Ev.pos rfl (Ev.bd (markSS_ev l0 1 hl hf (by omega) (by omega)) (Ev.neg (by show ¬ (1 + (l0.flatten.length : Int)) < 0; omega) ?_))))
  refine Ev.bd hE (Ev.pos rfl (Ev.bd hM (Ev.bd hH (Ev.neg (by omega) (Ev.pos rfl ?_)))))
  refine Ev.bd (toIntSS_ev l0 hl hf) (Ev.bs hI (Ev.bd hE (Ev.pos rfl (Ev.neg (by simp) ?_))))
  exact Ev.bd hH (Ev.neg (by omega) (Ev.pos rfl (Ev.ret rfl)))
end Go.Proofs.Ytipkmbgebpeeoaa.Pure
