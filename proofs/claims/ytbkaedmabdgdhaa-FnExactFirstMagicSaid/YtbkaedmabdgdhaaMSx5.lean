/- The walk by slots: regions that draw and change rows of the call's own that nothing in the region reads meanwhile. -/
import Derived.Test.YtbkaedmabdgdhaaMSx4
namespace Go.Proofs.Ytbkaedmabdgdhaa.Hd
open Go.RowKit Go.Proofs.YtbkaedmabdgdhaaW.PrintWords Go.Proofs.YtbkaedmabdgdhaaW.PrintLast Go.Proofs.YtbkaedmabdgdhaaW.PrintMore
set_option linter.unusedVariables false
set_option linter.unusedSimpArgs false
section
variable {P : Program} {Q : Exit → Act → World → Prop} {N : Nat} {s : List (Nat × Value)} {W : World} {C : World → Prop} {ops : Array Oper} {l : List Oper} {K : Act → World → Prop} {a : Act}
end
section
variable {P : Program} {N : Nat} {s : List (Nat × Value)} {o : Oper} {W : World}
theorem eqagg_run {t t2 : TypeId} {X Y : Operand} {a b : Array Value} {r : Bool} (ho : o.op = .binOp .eql t X Y t2) (hX : evl N s X = .agg a) (hY : evl N s Y = .agg b) (hq : ∀ (d : Nat) (w : World), (Op.equalIn (d + 2) t (.agg a) (.agg b)).run P w = .ok r w) (hg : P.eqGuardType P.depth t = false) : (execOp (evl N s) o).run P W = .ok (.value (.bool r)) W := by
  have h1 : (Op.equal t (.agg a) (.agg b)).run P W = .ok r W := hq 9998 W
  unfold execOp
  simp only [ho, hX, hY]
  simp [binOp, eqGuard, h1, hg, Sem.run_bind, Sem.run_pure]
theorem reps_map {α : Type} {R : α → List Value → Prop} {f : α → Value} (h : ∀ x, R x [f x]) (xs : List α) : Reps R 1 xs (xs.map f) := by
  refine ⟨by simp, fun j p hj => ?_⟩
  have hlt := (List.getElem?_eq_some_iff.1 hj).1
  have e : ((xs.map f).drop (j * 1)).take 1 = [f p] := by
    rw [Nat.mul_one, List.drop_eq_getElem_cons (by simpa using hlt), List.take_succ_cons, List.take_zero, List.getElem_map, (List.getElem?_eq_some_iff.1 hj).2]
  rw [e]
  exact h p
theorem reps_ints {k : IntKind} {W : World} {b : Nat} {F : Nat → Prop} (xs : List Int) : Reps ((Kd.int k).M W b F) 1 xs (xs.map (Value.int k)) := reps_map (R := (Kd.int k).M W b F) (f := Value.int k) (fun _ => rfl) xs
theorem wr_w {run : World → Result Next} {W : World} {x : Int} (hr : run W = .ok (.value (.int .i64 (IntKind.wrap .i64 x))) W) : run W = .ok (.value (.int .i64 (wrap64 x))) W := by
  rw [hr, ← i64_w]
end
end Go.Proofs.Ytbkaedmabdgdhaa.Hd
