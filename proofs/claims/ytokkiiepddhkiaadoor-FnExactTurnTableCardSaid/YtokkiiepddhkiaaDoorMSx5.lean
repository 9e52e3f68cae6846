/- The walk by slots: regions that draw and change rows of the call's own that nothing in the region reads meanwhile. -/
import Derived.Test.YtokkiiepddhkiaaDoorMSx4
namespace Go.Proofs.YtokkiiepddhkiaaDoor.Hd
open Go.RowKit Go.Proofs.YtokkiiepddhkiaaDoorW.PrintWords Go.Proofs.YtokkiiepddhkiaaDoorW.PrintLast Go.Proofs.YtokkiiepddhkiaaDoorW.PrintMore
set_option linter.unusedVariables false
set_option linter.unusedSimpArgs false
section
variable {P : Program} {Q : Exit → Act → World → Prop} {N : Nat} {s : List (Nat × Value)} {W : World} {C : World → Prop} {ops : Array Oper} {l : List Oper} {K : Act → World → Prop} {a : Act}
end
section
variable {P : Program} {N : Nat} {s : List (Nat × Value)} {o : Oper} {W : World}
theorem stri_run {t : TypeId} {X I : Operand} {a : ByteArray} {k : IntKind} {n : Int} (ho : o.op = .index t X I) (hX : evl N s X = .string a) (hI : evl N s I = .int k n) (ht : P.underlying t = some .string) (h0 : 0 ≤ n) (h : n < (a.size : Int)) : (execOp (evl N s) o).run P W = .ok (.value (.int .u8 (bt a n))) W := by
  have h1 : n.toNat < a.size := by omega
  have h2 := bt_at a n h1
  unfold execOp
  simp only [ho, hX, hI]
  simp [Instr.index, asIntOf, run_underlying ht, h0, h1, h2, Sem.run_bind, Sem.run_pure]
theorem cvt_run {t1 t2 : TypeId} {X : Operand} {k k1 k2 : IntKind} {n : Int} (ho : o.op = .convert t1 t2 X) (hX : evl N s X = .int k n) (h1 : P.underlying t1 = some (.int k1)) (h2 : P.underlying t2 = some (.int k2)) : (execOp (evl N s) o).run P W = .ok (.value (.int k2 (k2.wrap n))) W := by
  unfold execOp
  simp only [ho, hX]
  simp [convert, run_underlying h1, run_underlying h2, Conv.intToInt, Sem.run_bind, Sem.run_pure]
theorem reps_map {α : Type} {R : α → List Value → Prop} {f : α → Value} (h : ∀ x, R x [f x]) (xs : List α) : Reps R 1 xs (xs.map f) := by
  refine ⟨by simp, fun j p hj => ?_⟩
  have hlt := (List.getElem?_eq_some_iff.1 hj).1
  have e : ((xs.map f).drop (j * 1)).take 1 = [f p] := by
    rw [Nat.mul_one, List.drop_eq_getElem_cons (by simpa using hlt), List.take_succ_cons, List.take_zero, List.getElem_map, (List.getElem?_eq_some_iff.1 hj).2]
  rw [e]
  exact h p
theorem reps_strs {W : World} {b : Nat} {F : Nat → Prop} (xs : List ByteArray) : Reps (Kd.string.M W b F) 1 xs (xs.map Value.string) := reps_map (R := Kd.string.M W b F) (f := Value.string) (fun _ => rfl) xs
theorem wr_w {run : World → Result Next} {W : World} {x : Int} (hr : run W = .ok (.value (.int .i64 (IntKind.wrap .i64 x))) W) : run W = .ok (.value (.int .i64 (wrap64 x))) W := by
  rw [hr, ← i64_w]
end
end Go.Proofs.YtokkiiepddhkiaaDoor.Hd
