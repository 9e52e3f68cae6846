-- Printed by hprint.py and laid together by pack.py (this session's programs over the kit's print program). Lean checks it.
import Derived.Test.YtkjaahmlnbgnjaaMSx5
import Derived.Test.YtkjaahmlnbgnjaaMSxL
import Derived.Test.YtkjaahmlnbgnjaaG0
namespace Go.Proofs.Ytkjaahmlnbgnjaa.Hd
section
open Go.RowKit Go.Proofs.YtkjaahmlnbgnjaaW.PrintWords Go.Proofs.YtkjaahmlnbgnjaaW.PrintLast Go.Proofs.YtkjaahmlnbgnjaaW.PrintMore
attribute [local go_sem] max2_int min2_int max_two min_two max_three min_three max_four min_four   -- for this text's walks alone
set_option linter.unusedVariables false
set_option linter.unusedSimpArgs false

attribute [local go_sem high] eqA79
end
section
open Go.RowKit Go.Proofs.YtkjaahmlnbgnjaaW.PrintWords Go.Proofs.YtkjaahmlnbgnjaaW.PrintLast Go.Proofs.YtkjaahmlnbgnjaaW.PrintMore
attribute [local go_sem] max2_int min2_int max_two min_two max_three min_three max_four min_four   -- for this text's walks alone
set_option linter.unusedVariables false
set_option linter.unusedSimpArgs false

end
section
open Go.RowKit Go.Proofs.YtkjaahmlnbgnjaaW.PrintWords Go.Proofs.YtkjaahmlnbgnjaaW.PrintLast Go.Proofs.YtkjaahmlnbgnjaaW.PrintMore
attribute [local go_sem] max2_int min2_int max_two min_two max_three min_three max_four min_four   -- for this text's walks alone
set_option linter.unusedVariables false
set_option linter.unusedSimpArgs false

end
section
open Go.RowKit Go.Proofs.YtkjaahmlnbgnjaaW.PrintWords Go.Proofs.YtkjaahmlnbgnjaaW.PrintLast Go.Proofs.YtkjaahmlnbgnjaaW.PrintMore
attribute [local go_sem] max2_int min2_int max_two min_two max_three min_three max_four min_four   -- for this text's walks alone
set_option linter.unusedVariables false
set_option linter.unusedSimpArgs false

attribute [local go_sem high] eqA79
end
section
open Go.RowKit Go.Proofs.YtkjaahmlnbgnjaaW.PrintWords Go.Proofs.YtkjaahmlnbgnjaaW.PrintLast Go.Proofs.YtkjaahmlnbgnjaaW.PrintMore
attribute [local go_sem] max2_int min2_int max_two min_two max_three min_three max_four min_four   -- for this text's walks alone
set_option linter.unusedVariables false
set_option linter.unusedSimpArgs false

end
section
open Go.RowKit Go.Proofs.YtkjaahmlnbgnjaaW.PrintWords Go.Proofs.YtkjaahmlnbgnjaaW.PrintLast Go.Proofs.YtkjaahmlnbgnjaaW.PrintMore
attribute [local go_sem] max2_int min2_int max_two min_two max_three min_three max_four min_four   -- for this text's walks alone
set_option linter.unusedVariables false
set_option linter.unusedSimpArgs false

end
end Go.Proofs.Ytkjaahmlnbgnjaa.Hd
