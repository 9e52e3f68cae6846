/- The program's CountTilings answers what the reference's answers, for all arguments. -/
import Derived.Test.YtkjaahmlnbgnjaaPCountTilings
import Derived.Test.YtkjaahmlnbgnjaaG2
namespace Go.Proofs.Ytkjaahmlnbgnjaa.Pure
open Go.RowKit Go.Proofs.Ytkjaahmlnbgnjaa.Hd Go.Proofs.YtkjaahmlnbgnjaaW.PrintWords Go.Proofs.YtkjaahmlnbgnjaaW.PrintLast
set_option linter.unusedVariables false
set_option linter.unusedSimpArgs false
theorem FnExactCountTilings : laws_FnExactCountTilings.Pure := by
  intro a0 a1 h_a0 h_a1
  have e : laws_FnExactCountTilings.f a0 a1 = some true := by
    unfold laws_FnExactCountTilings.f spec_CountTilings.f impl_CountTilings.f
    simp
  exact e
end Go.Proofs.Ytkjaahmlnbgnjaa.Pure
