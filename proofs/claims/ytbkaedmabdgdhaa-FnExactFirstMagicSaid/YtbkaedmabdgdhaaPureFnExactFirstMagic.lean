/- The program's FirstMagic answers what the reference's answers, for all arguments. -/
import Derived.Test.YtbkaedmabdgdhaaPLawTile
import Derived.Test.YtbkaedmabdgdhaaPMarkTile0
import Derived.Test.YtbkaedmabdgdhaaPMarkSS
import Derived.Test.YtbkaedmabdgdhaaPMagics
import Derived.Test.YtbkaedmabdgdhaaG3
namespace Go.Proofs.Ytbkaedmabdgdhaa.Pure
open Go.RowKit Go.Proofs.Ytbkaedmabdgdhaa.Hd Go.Proofs.YtbkaedmabdgdhaaW.PrintWords Go.Proofs.YtbkaedmabdgdhaaW.PrintLast
set_option linter.unusedVariables false
set_option linter.unusedSimpArgs false
theorem FnExactFirstMagic (l0 : List S_LTile) (a1 : Int) (h_l0 : l0.length ≤ 9223372036854775807) (h_a1 : (Lit.int .i64 a1).wf = true) : ∃ k, laws_FnExactFirstMagic.f k l0 a1 = some true := by
  refine Ev.fin ?_
  unfold laws_FnExactFirstMagic.f
  have c1 := cpT_len l0
  obtain ⟨z0, hz0, bz0⟩ := szTileS_c l0 1048576 (by omega) (by omega) (by omega)
  refine Ev.bs hz0 ?_
  by_cases cz0 : z0 < 0
  · exact Ev.pos cz0 (Ev.ret rfl)
  refine Ev.neg cz0 ?_
  have dz0 := bz0 (by omega)
  have hl : l0.length ≤ 1048576 := dz0.1
  have hlc : (cpT l0).length ≤ 1048576 := by omega
  obtain ⟨hb1, hb2⟩ := resFirstMagic_len (cpT l0) a1
  obtain ⟨R, hR⟩ : ∃ R, resFirstMagic (cpT l0) a1 = R := ⟨_, rfl⟩
  have hS := specFirstMagic_eq (cpT l0) a1 hlc
  have hI := implFirstMagic_eq (cpT l0) a1
  rw [hR] at hb1 hb2 hS hI
  have hE := eqIntSS_ev R.1 (by omega) (by omega)
  have hM := markSS_ev R.1 1 (by omega) (by omega) (by omega) (by omega)
  have hH := heldSS_ev R.1 1 (by omega) (by omega) (by omega) (by omega)
  have hT := toTileS_ev l0 hl
  have hET := eqTileS_ev (cpT l0) (by omega)
  refine Ev.bd hT (Ev.bs hS (Ev.bd hT (Ev.bs hI (Ev.bd hE (Ev.pos rfl (Ev.neg (by simp) ?_))))))
  refine Ev.bd hT (Ev.bd hET (Ev.pos rfl (Ev.bd (markTileS_ev (cpT l0) 1 (by omega) (by omega) (by omega)) (Ev.neg (by show ¬ (1 + 2 * ((cpT l0).length : Int)) < 0; omega) ?_))))
  refine Ev.bd hE (Ev.pos rfl (Ev.bd hM (Ev.bd hH (Ev.neg (by omega) (Ev.pos rfl ?_)))))
  refine Ev.bd hT (Ev.bs hI (Ev.bd hE (Ev.pos rfl (Ev.neg (by simp) ?_))))
  exact Ev.bd hH (Ev.neg (by omega) (Ev.pos rfl (Ev.ret rfl)))
end Go.Proofs.Ytbkaedmabdgdhaa.Pure
