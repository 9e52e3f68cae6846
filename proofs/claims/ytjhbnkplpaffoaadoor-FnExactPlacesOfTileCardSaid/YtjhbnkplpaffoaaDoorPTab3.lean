/- IsTable, TableSize, CountNumber: what both sides answer. -/
import Derived.Test.YtjhbnkplpaffoaaDoorPTab2
import Derived.Test.YtjhbnkplpaffoaaDoorG2
import Derived.Test.YtjhbnkplpaffoaaDoorG2
import Derived.Test.YtjhbnkplpaffoaaDoorG2
namespace Go.Proofs.YtjhbnkplpaffoaaDoor.Pure
open Go Go.RowKit Go.Proofs.YtjhbnkplpaffoaaDoor.Hd Go.Proofs.YtjhbnkplpaffoaaDoorW.PrintWords Go.Proofs.YtjhbnkplpaffoaaDoorW.PrintLast
set_option linter.unusedVariables false
end Go.Proofs.YtjhbnkplpaffoaaDoor.Pure
