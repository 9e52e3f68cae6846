/- The walk by slots: regions that draw and change rows of the call's own that nothing in the region reads meanwhile. -/
import Derived.Test.YtokkiiepddhkiaaGreatDoorMSx4
namespace Go.Proofs.YtokkiiepddhkiaaGreatDoor.Hd
open Go.RowKit Go.Proofs.YtokkiiepddhkiaaGreatDoorW.PrintWords Go.Proofs.YtokkiiepddhkiaaGreatDoorW.PrintLast Go.Proofs.YtokkiiepddhkiaaGreatDoorW.PrintMore
set_option linter.unusedVariables false
set_option linter.unusedSimpArgs false
section
variable {P : Program} {Q : Exit → Act → World → Prop} {N : Nat} {s : List (Nat × Value)} {W : World} {C : World → Prop} {ops : Array Oper} {l : List Oper} {K : Act → World → Prop} {a : Act}
/-- C: what every read leans on, all along; C1: what holds at the start. -/
theorem sx_drawT2 {id : Nat} {l : List Oper} (pre : List Nat) (t : STree) (k : Nat) (C1 : World → Prop) (h1C : ∀ W, C1 W → C W) (hm : P.follows .mixedOrders = true) (hB : treeAllB l pre t k = true) (hQ : ∀ d v c a w, Q (.panic c) (Act.put a d v) w → Q (.panic c) a w)
    (hC : ∀ W, C1 W → C1 W.drew) (hW : C1 W) (h' : preI P l.toArray l (fun a => ∀ W, C1 W → treeI P l.toArray Q C l (WL P l.toArray Q (l.drop k)) t a W) pre (fr N s)) : (Code.region id l.toArray true).wp P Q (fr N s) W := by
  simp only [treeAllB, Bool.and_eq_true, decide_eq_true_eq] at hB
  obtain ⟨⟨⟨⟨⟨⟨r1, hsel⟩, hb1⟩, hb3⟩, hb4⟩, hk⟩, hn⟩ := hB
  have hsz : l.toArray.size = l.length := by simp
  have h := preI_quiet pre r1 _ h'
  refine region_G (C := fun _ => True) (T := []) hm (fun hcl => ?_)
  have e1 : l.toArray.size = (t.depth + (l.length - k)) + pre.length := by rw [hsz]; omega
  have G1 := G_batch (P := P) (md := .any) (C := fun _ => True) (T := []) (Q := Q) hsel hQ (f := t.depth + (l.length - k)) (w := W.drew) trivial pre (pick l pre) (Array.replicate l.toArray.size false) (fr N s) (pick_map r1) hcl hb1 (wpQuiet_mono' (fun a1 h1 hcl1 => ?_) (pick l pre) (fr N s) h)
  · rw [← e1] at G1; exact G1
  · refine G_weaken (C := C) (T := List.range' k (l.length - k)) _ _ _ _ ?_
    rw [Nat.add_comm]
    refine (G_tree hsel hQ (fun a3 w3 hcl3 h3 => ?_) t _ a1 W.drew hcl1 (h1C _ (hC W hW)) (h1 W.drew (hC W hW))).1 hb3
    have hdl : (l.drop k).length = l.length - k := by simp
    rw [← hdl]
    refine G_tail (l.drop k) k _ a3 w3 (fun j => by simp [List.getElem?_drop]) (by rw [hdl]; exact hb4) (fun j hj => ?_) h3.out
    rw [hdl] at hj
    simp
    omega
end
section
variable {P : Program} {N : Nat} {s : List (Nat × Value)} {o : Oper} {W : World}
theorem stri_run {t : TypeId} {X I : Operand} {a : ByteArray} {k : IntKind} {n : Int} (ho : o.op = .index t X I) (hX : evl N s X = .string a) (hI : evl N s I = .int k n) (ht : P.underlying t = some .string) (h0 : 0 ≤ n) (h : n < (a.size : Int)) : (execOp (evl N s) o).run P W = .ok (.value (.int .u8 (bt a n))) W := by
  have h1 : n.toNat < a.size := by omega
  have h2 := bt_at a n h1
  unfold execOp
  simp only [ho, hX, hI]
  simp [Instr.index, asIntOf, run_underlying ht, h0, h1, h2, Sem.run_bind, Sem.run_pure]
theorem cvt_run {t1 t2 : TypeId} {X : Operand} {k k1 k2 : IntKind} {n : Int} (ho : o.op = .convert t1 t2 X) (hX : evl N s X = .int k n) (h1 : P.underlying t1 = some (.int k1)) (h2 : P.underlying t2 = some (.int k2)) : (execOp (evl N s) o).run P W = .ok (.value (.int k2 (k2.wrap n))) W := by
  unfold execOp
  simp only [ho, hX]
  simp [convert, run_underlying h1, run_underlying h2, Conv.intToInt, Sem.run_bind, Sem.run_pure]
theorem eqagg_run {t t2 : TypeId} {X Y : Operand} {a b : Array Value} {r : Bool} (ho : o.op = .binOp .eql t X Y t2) (hX : evl N s X = .agg a) (hY : evl N s Y = .agg b) (hq : ∀ (d : Nat) (w : World), (Op.equalIn (d + 2) t (.agg a) (.agg b)).run P w = .ok r w) (hg : P.eqGuardType P.depth t = false) : (execOp (evl N s) o).run P W = .ok (.value (.bool r)) W := by
  have h1 : (Op.equal t (.agg a) (.agg b)).run P W = .ok r W := hq 9998 W
  unfold execOp
  simp only [ho, hX, hY]
  simp [binOp, eqGuard, h1, hg, Sem.run_bind, Sem.run_pure]
theorem row_Cn {α : Type} {d : Kd α} {e base : Nat} {A : Option Addr} {n c : Nat} {xs : List α} {F : Nat → Prop} (h : (row d e base (.slice A n c) xs F).ok W) : d.C W A n xs := by
  have q := (Kd.R_reads' h.1).1
  have r := row_C h
  rw [← q] at r
  exact r
theorem reps_map {α : Type} {R : α → List Value → Prop} {f : α → Value} (h : ∀ x, R x [f x]) (xs : List α) : Reps R 1 xs (xs.map f) := by
  refine ⟨by simp, fun j p hj => ?_⟩
  have hlt := (List.getElem?_eq_some_iff.1 hj).1
  have e : ((xs.map f).drop (j * 1)).take 1 = [f p] := by
    rw [Nat.mul_one, List.drop_eq_getElem_cons (by simpa using hlt), List.take_succ_cons, List.take_zero, List.getElem_map, (List.getElem?_eq_some_iff.1 hj).2]
  rw [e]
  exact h p
theorem reps_strs {W : World} {b : Nat} {F : Nat → Prop} (xs : List ByteArray) : Reps (Kd.string.M W b F) 1 xs (xs.map Value.string) := reps_map (R := Kd.string.M W b F) (f := Value.string) (fun _ => rfl) xs
theorem wr_w {run : World → Result Next} {W : World} {x : Int} (hr : run W = .ok (.value (.int .i64 (IntKind.wrap .i64 x))) W) : run W = .ok (.value (.int .i64 (wrap64 x))) W := by
  rw [hr, ← i64_w]
end
end Go.Proofs.YtokkiiepddhkiaaGreatDoor.Hd
