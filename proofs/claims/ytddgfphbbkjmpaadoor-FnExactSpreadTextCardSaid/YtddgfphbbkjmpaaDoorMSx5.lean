/- The walk by slots: regions that draw and change rows of the call's own that nothing in the region reads meanwhile. -/
import Derived.Test.YtddgfphbbkjmpaaDoorMSx4
namespace Go.Proofs.YtddgfphbbkjmpaaDoor.Hd
open Go.RowKit Go.Proofs.YtddgfphbbkjmpaaDoorW.PrintWords Go.Proofs.YtddgfphbbkjmpaaDoorW.PrintLast Go.Proofs.YtddgfphbbkjmpaaDoorW.PrintMore
set_option linter.unusedVariables false
set_option linter.unusedSimpArgs false
section
variable {P : Program} {Q : Exit → Act → World → Prop} {N : Nat} {s : List (Nat × Value)} {W : World} {C : World → Prop} {ops : Array Oper} {l : List Oper} {K : Act → World → Prop} {a : Act}
end
section
variable {P : Program} {N : Nat} {s : List (Nat × Value)} {o : Oper} {W : World}
theorem eqagg_run {t t2 : TypeId} {X Y : Operand} {a b : Array Value} {r : Bool} (ho : o.op = .binOp .eql t X Y t2) (hX : evl N s X = .agg a) (hY : evl N s Y = .agg b) (hq : ∀ (d : Nat) (w : World), (Op.equalIn (d + 2) t (.agg a) (.agg b)).run P w = .ok r w) (hg : P.eqGuardType P.depth t = false) : (execOp (evl N s) o).run P W = .ok (.value (.bool r)) W := by
  have h1 : (Op.equal t (.agg a) (.agg b)).run P W = .ok r W := hq 9998 W
  unfold execOp
  simp only [ho, hX, hY]
  simp [binOp, eqGuard, h1, hg, Sem.run_bind, Sem.run_pure]
theorem wr_w {run : World → Result Next} {W : World} {x : Int} (hr : run W = .ok (.value (.int .i64 (IntKind.wrap .i64 x))) W) : run W = .ok (.value (.int .i64 (wrap64 x))) W := by
  rw [hr, ← i64_w]
end
end Go.Proofs.YtddgfphbbkjmpaaDoor.Hd
