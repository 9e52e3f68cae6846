/- The walk by slots: rows that are made; headers of rows as plain values. -/
import Derived.Test.YtjhbnkplpaffoaaDoorMSx5
import Derived.Test.YtjhbnkplpaffoaaDoorMSxL
namespace Go.Proofs.YtjhbnkplpaffoaaDoor.Hd
open Go.RowKit Go.Proofs.YtjhbnkplpaffoaaDoorW.PrintWords Go.Proofs.YtjhbnkplpaffoaaDoorW.PrintLast Go.Proofs.YtjhbnkplpaffoaaDoorW.PrintMore
set_option linter.unusedVariables false
set_option linter.unusedSimpArgs false
section
variable {α : Type} {P : Program} {ops : Array Oper} {Q : Exit → Act → World → Prop} {N : Nat} {s : List (Nat × Value)} {rest : List Oper} {o : Oper} {w0 W : World} {cs : List Chunk}
end
end Go.Proofs.YtjhbnkplpaffoaaDoor.Hd
