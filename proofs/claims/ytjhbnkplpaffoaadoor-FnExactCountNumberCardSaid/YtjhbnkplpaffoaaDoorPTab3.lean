/- IsTable, TableSize, CountNumber: what both sides answer. -/
import Derived.Test.YtjhbnkplpaffoaaDoorPTab2
import Derived.Test.YtjhbnkplpaffoaaDoorG2
import Derived.Test.YtjhbnkplpaffoaaDoorG2
import Derived.Test.YtjhbnkplpaffoaaDoorG2
namespace Go.Proofs.YtjhbnkplpaffoaaDoor.Pure
open Go Go.RowKit Go.Proofs.YtjhbnkplpaffoaaDoor.Hd Go.Proofs.YtjhbnkplpaffoaaDoorW.PrintWords Go.Proofs.YtjhbnkplpaffoaaDoorW.PrintLast
set_option linter.unusedVariables false
theorem specIsTable_ev (s : ByteArray) (hs : s.size ≤ 1048576) : Ev (fun k => spec_IsTable.f k s) (isTab s) := by
  unfold spec_IsTable.f
  exact Ev.bd (taRead_ev s hs) (Ev.ret (tab_eq s))
def sizeF (s : ByteArray) : Int × Int × Bool := if isTab s = true then ((w0 (rowsB s) : Int), ((rowsB s).length : Int), true) else (0, 0, false)
theorem specTableSize_ev (s : ByteArray) (hs : s.size ≤ 1048576) : Ev (fun k => spec_TableSize.f k s) (sizeF s) := by
  unfold spec_TableSize.f sizeF
  refine Ev.bd (taRead_ev s hs) ?_
  cases h : isTab s with
  | true => rw [isTab_tab h]; exact Ev.pos rfl (Ev.now _)
  | false => rw [isTab_no h]; exact Ev.neg (by simp) (Ev.now _)
theorem implTableSize_ev (s : ByteArray) (hs : s.size ≤ 1048576) : Ev (fun k => impl_TableSize.f k s) (sizeF s) := by
  unfold impl_TableSize.f sizeF
  refine Ev.bd (implIsTable_ev s hs) ?_
  cases h : isTab s with
  | true => exact Ev.pos rfl (Ev.bs (size_ev s hs (w0_le s).2.2) (Ev.now _))
  | false => exact Ev.neg (by simp) (Ev.now _)
end Go.Proofs.YtjhbnkplpaffoaaDoor.Pure
