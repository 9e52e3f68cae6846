/- The walk by slots: rows that are made; headers of rows as plain values. -/
import Derived.Test.YtokkiiepddhkiaaGreatDoorMSx5
import Derived.Test.YtokkiiepddhkiaaGreatDoorMSxL
namespace Go.Proofs.YtokkiiepddhkiaaGreatDoor.Hd
open Go.RowKit Go.Proofs.YtokkiiepddhkiaaGreatDoorW.PrintWords Go.Proofs.YtokkiiepddhkiaaGreatDoorW.PrintLast Go.Proofs.YtokkiiepddhkiaaGreatDoorW.PrintMore
set_option linter.unusedVariables false
set_option linter.unusedSimpArgs false
section
variable {α : Type} {P : Program} {ops : Array Oper} {Q : Exit → Act → World → Prop} {N : Nat} {s : List (Nat × Value)} {rest : List Oper} {o : Oper} {w0 W : World} {cs : List Chunk}
theorem sx_make (q : Nat) (hk : okB o q N = true) (d : Kd α) (base e : Nat) (m : Nat) {t : TypeId} {x y : Operand} (ho : o.op = .makeSlice t x y) {n : Int} (hx : evl N s x = .int .i64 n) (hy : evl N s y = .int .i64 n) (hn : n = (m : Int)) (ht : P.underlying t = some (.slice e)) (z : Value) (bytes : Nat)
    (hinfo : (P.info? e).map (fun i => (i.zero, i.size, i.bytes)) = some (some z, d.sz, bytes)) (hz : z.cells.size = d.sz) (hs0 : 0 < d.sz) (hb0 : 0 < bytes) (z0 : α) (hzero : d.M W base (fun _ => False) z0 z.cells.toList) (hl : m * bytes ≤ 281474976710656) (hbase : base ≤ W.heap.size) (hp : Hp w0 cs W)
    (h : ∀ g F' W', Hp w0 (row d e base (.slice (some ⟨g, 0, none⟩) (List.replicate m z0).length (List.replicate m z0).length) (List.replicate m z0) F' :: cs) W' → WL P ops Q rest (fr N ((q, .slice (some ⟨g, 0, none⟩) (List.replicate m z0).length (List.replicate m z0).length) :: s)) W') : WL P ops Q (o :: rest) (fr N s) W := by
  subst hn
  obtain ⟨i0, hi, hzz⟩ := Option.map_eq_some_iff.1 hinfo
  simp only [Prod.mk.injEq] at hzz
  obtain ⟨hz0, hz1, hz2⟩ := hzz
  have hm : m ≤ 281474976710656 := Nat.le_trans (Nat.le_mul_of_pos_right _ hb0) hl
  refine sx_lit q hk d base e (List.replicate m z0) (madeCells z.cells (m * d.sz)).toList (fun W => ?_) (Kd.reps_made hz hs0 hzero m) (by simp; omega) hbase hp (fun g F' W' hp' _ => h g F' W' hp')
  have hr := run_make (P := P) W t e i0 z ht hi hz0 .i64 .i64 (m : Int) (m : Int) (by omega) (by omega)
    (by
      have h3 : ((i0.bytes * m : Nat) : Int) ≤ 281474976710656 := by rw [hz2, Nat.mul_comm]; omega
      rwa [Int.natCast_mul] at h3) (by omega)
  simp only [Int.toNat_natCast] at hr
  rw [hz1] at hr
  rw [List.length_replicate]
  simp [execOp, ho, hx, hy, hr]
end
theorem mul_run {P : Program} {N : Nat} {s : List (Nat × Value)} {o : Oper} {W : World} {t t2 : TypeId} {X Y : Operand} {a b c : Int} (ho : o.op = .binOp .mul t X Y t2) (hX : evl N s X = .int .i64 a) (hY : evl N s Y = .int .i64 b) (h : a * b = c) (hb : -9223372036854775808 ≤ c ∧ c ≤ 9223372036854775807) : (execOp (evl N s) o).run P W = .ok (.value (.int .i64 c)) W := by
  subst h
  refine wr_ok (run := fun W => (execOp (evl N s) o).run P W) hb ?_
  unfold execOp
  simp only [ho, hX, hY]
  simp [binOp, Op.intArith, eqGuard, Sem.run_bind, Sem.run_pure]
theorem ix_some {P : Program} {N : Nat} {s : List (Nat × Value)} {o : Oper} {W : World} {ad : Addr} {n c sz : Nat} {t e : TypeId} {X I : Operand} {k : IntKind} {i : Int} (ho : o.op = .indexAddr t X I) (hX : evl N s X = .slice (some ad) n c) (hI : evl N s I = .int k i) (hu : P.underlying t = some (.slice e)) (hz : (P.info? e).map (·.size) = some sz) (h0 : 0 ≤ i) (h1 : i < (n : Int)) :
    (execOp (evl N s) o).run P W = .ok (.value (.pointer (some (adr (some ad) i sz)))) W := by
  obtain ⟨q, hq, hs⟩ := Option.map_eq_some_iff.1 hz
  unfold execOp
  simp only [ho, hX, hI]
  simp [Instr.indexAt, run_underlying hu, asIntOf, h0, h1, sizeOf, typeInfo, hq, hs, adr]
end Go.Proofs.YtokkiiepddhkiaaGreatDoor.Hd
