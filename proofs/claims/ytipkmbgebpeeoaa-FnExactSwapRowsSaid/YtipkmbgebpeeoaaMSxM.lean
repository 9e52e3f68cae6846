/- The walk by slots: rows that are made; headers of rows as plain values. -/
import Derived.Test.YtipkmbgebpeeoaaMSx5
import Derived.Test.YtipkmbgebpeeoaaMSxL
namespace Go.Proofs.Ytipkmbgebpeeoaa.Hd
open Go.RowKit Go.Proofs.YtipkmbgebpeeoaaW.PrintWords Go.Proofs.YtipkmbgebpeeoaaW.PrintLast Go.Proofs.YtipkmbgebpeeoaaW.PrintMore
set_option linter.unusedVariables false
set_option linter.unusedSimpArgs false
section
variable {α : Type} {P : Program} {ops : Array Oper} {Q : Exit → Act → World → Prop} {N : Nat} {s : List (Nat × Value)} {rest : List Oper} {o : Oper} {w0 W : World} {cs : List Chunk}
end
theorem ix_some {P : Program} {N : Nat} {s : List (Nat × Value)} {o : Oper} {W : World} {ad : Addr} {n c sz : Nat} {t e : TypeId} {X I : Operand} {k : IntKind} {i : Int} (ho : o.op = .indexAddr t X I) (hX : evl N s X = .slice (some ad) n c) (hI : evl N s I = .int k i) (hu : P.underlying t = some (.slice e)) (hz : (P.info? e).map (·.size) = some sz) (h0 : 0 ≤ i) (h1 : i < (n : Int)) :
    (execOp (evl N s) o).run P W = .ok (.value (.pointer (some (adr (some ad) i sz)))) W := by
  obtain ⟨q, hq, hs⟩ := Option.map_eq_some_iff.1 hz
  unfold execOp
  simp only [ho, hX, hI]
  simp [Instr.indexAt, run_underlying hu, asIntOf, h0, h1, sizeOf, typeInfo, hq, hs, adr]
end Go.Proofs.Ytipkmbgebpeeoaa.Hd
