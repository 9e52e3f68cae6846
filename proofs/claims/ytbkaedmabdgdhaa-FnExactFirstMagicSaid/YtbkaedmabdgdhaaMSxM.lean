/- The walk by slots: rows that are made; headers of rows as plain values. -/
import Derived.Test.YtbkaedmabdgdhaaMSx5
import Derived.Test.YtbkaedmabdgdhaaMSxL
namespace Go.Proofs.Ytbkaedmabdgdhaa.Hd
open Go.RowKit Go.Proofs.YtbkaedmabdgdhaaW.PrintWords Go.Proofs.YtbkaedmabdgdhaaW.PrintLast Go.Proofs.YtbkaedmabdgdhaaW.PrintMore
set_option linter.unusedVariables false
set_option linter.unusedSimpArgs false
/-- Rows of headers of slices, whatever they lead to. -/
def hdrK : Kd (Option Addr × Nat × Nat) := Kd.scalar (fun h => .slice h.1 h.2.1 h.2.2) (fun _ => rfl)
section
variable {α : Type} {P : Program} {ops : Array Oper} {Q : Exit → Act → World → Prop} {N : Nat} {s : List (Nat × Value)} {rest : List Oper} {o : Oper} {w0 W : World} {cs : List Chunk}
end
theorem mul_run {P : Program} {N : Nat} {s : List (Nat × Value)} {o : Oper} {W : World} {t t2 : TypeId} {X Y : Operand} {a b c : Int} (ho : o.op = .binOp .mul t X Y t2) (hX : evl N s X = .int .i64 a) (hY : evl N s Y = .int .i64 b) (h : a * b = c) (hb : -9223372036854775808 ≤ c ∧ c ≤ 9223372036854775807) : (execOp (evl N s) o).run P W = .ok (.value (.int .i64 c)) W := by
  subst h
  refine wr_ok (run := fun W => (execOp (evl N s) o).run P W) hb ?_
  unfold execOp
  simp only [ho, hX, hY]
  simp [binOp, Op.intArith, eqGuard, Sem.run_bind, Sem.run_pure]
end Go.Proofs.Ytbkaedmabdgdhaa.Hd
