/- The program's CountMagic answers what the reference's answers, for all arguments. -/
import Derived.Test.YtbkaedmabdgdhaaPLawTile
import Derived.Test.YtbkaedmabdgdhaaPMagics
import Derived.Test.YtbkaedmabdgdhaaG3
namespace Go.Proofs.Ytbkaedmabdgdhaa.Pure
open Go.RowKit Go.Proofs.Ytbkaedmabdgdhaa.Hd Go.Proofs.YtbkaedmabdgdhaaW.PrintWords Go.Proofs.YtbkaedmabdgdhaaW.PrintLast
set_option linter.unusedVariables false
set_option linter.unusedSimpArgs false
theorem FnExactCountMagic (l0 : List (S_LTile)) (a1 : Int) (h_l0 : l0.length ≤ 9223372036854775807) (h_a1 : (Lit.int .i64 a1).wf = true) : ∃ k, laws_FnExactCountMagic.f k l0 a1 = some true := by
  refine Ev.fin ?_
  unfold laws_FnExactCountMagic.f
  have c1 := cpT_len l0
  obtain ⟨z1, hz1, bz1⟩ := szTileS_c l0 1048576 (by omega) (by omega) (by omega)
  refine Ev.bs hz1 ?_
  by_cases cz1 : z1 < 0
  · exact Ev.pos cz1 (Ev.ret rfl)
  refine Ev.neg cz1 ?_
  have dz1 := bz1 (by omega)
  refine Ev.bd (toTileS_ev l0 (by omega)) ?_
  refine Ev.bs (specCountMagic_eq (cpT l0) a1 (by omega)) ?_
  refine Ev.bd (toTileS_ev l0 (by omega)) ?_
  refine Ev.bs (implCountMagic_eq (cpT l0) a1) ?_
  refine Ev.pos (by first | rfl | trivial | omega) ?_
  refine Ev.neg (by simp) ?_
  refine Ev.bd (toTileS_ev l0 (by omega)) ?_
  refine Ev.bd (eqTileS_ev (cpT l0) (by omega)) ?_
  refine Ev.pos (by first | rfl | trivial | omega) ?_
  exact Ev.ret rfl
end Go.Proofs.Ytbkaedmabdgdhaa.Pure
