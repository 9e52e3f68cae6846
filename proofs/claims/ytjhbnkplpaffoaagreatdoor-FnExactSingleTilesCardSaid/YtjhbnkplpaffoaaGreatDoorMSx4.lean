/- The walk by slots: sums of texts, remainders by what is no constant, slices within a capacity. -/
import Derived.Test.YtjhbnkplpaffoaaGreatDoorMSx3
namespace Go.Proofs.YtjhbnkplpaffoaaGreatDoor.Hd
open Go.RowKit Go.Proofs.YtjhbnkplpaffoaaGreatDoorW.PrintWords Go.Proofs.YtjhbnkplpaffoaaGreatDoorW.PrintLast Go.Proofs.YtjhbnkplpaffoaaGreatDoorW.PrintMore
set_option linter.unusedVariables false
set_option linter.unusedSimpArgs false
section
variable {P : Program} {N : Nat} {s : List (Nat × Value)} {o : Oper} {W : World}
end
end Go.Proofs.YtjhbnkplpaffoaaGreatDoor.Hd
