/- The walk by slots: slicing of slices. -/
import Derived.Test.YtkjaahmlnbgnjaaMSx2
namespace Go.Proofs.Ytkjaahmlnbgnjaa.Hd
open Go.RowKit Go.Proofs.YtkjaahmlnbgnjaaW.PrintWords Go.Proofs.YtkjaahmlnbgnjaaW.PrintLast Go.Proofs.YtkjaahmlnbgnjaaW.PrintMore
set_option linter.unusedVariables false
theorem Hp.apart_rows {w0 W : World} {cs : List Chunk} {α β : Type} (hp : Hp w0 cs W) {d1 : Kd α} {d2 : Kd β} {e1 e2 b1 b2 : Nat} {v1 v2 : Value} {x1 : List α} {x2 : List β} {F1 F2 : Nat → Prop} (i j : Nat) (hne : i ≠ j) (hi : cs[i]? = some (row d1 e1 b1 v1 x1 F1)) (hj : cs[j]? = some (row d2 e2 b2 v2 x2 F2)) : ∀ k, F1 k → some k ≠ v2.ownBlock :=
  fun k hk e => hp.ap i j _ _ hne hi hj k hk ((hp.at_ j _ hj).1.1 k e.symm)
section
variable {P : Program} {N : Nat} {s : List (Nat × Value)} {o : Oper} {W : World} {A : Option Addr} {c : Nat} {α : Type} {xs : List α}
theorem sl_lo (m : Nat) {t e : TypeId} {X L : Operand} {k : IntKind} {i : Int} {sz : Nat} (ho : o.op = .slice t X (some L) none none) (hX : evl N s X = .slice A xs.length c) (hL : evl N s L = .int k i) (hi : i = (m : Int)) (hu : P.underlying t = some (.slice e)) (hz : (P.info? e).map (·.size) = some sz) (h2 : m ≤ xs.length) :
    (execOp (evl N s) o).run P W = .ok (.value (.slice (if c = m then A else A.map (·.add (m * sz))) (xs.drop m).length (c - m))) W := by
  obtain ⟨q, hq, hs⟩ := Option.map_eq_some_iff.1 hz
  have he : P.elem t = e := by simp [Program.elem, hu]
  have hu' : P.underlying t = some (.slice (P.elem t)) := by rw [he]; exact hu
  subst hi
  unfold execOp
  simp only [ho, hX, hL, Option.map_some, Option.map_none]
  rw [Sem.run_bind, run_sliceAt_slice (h := hu'), run_slice_l (ht := hu') (h0 := by omega) (h1 := by omega)]
  simp [sizeOf, typeInfo, he, hq, hs, sliced]
theorem sl_hi (m : Nat) {t e : TypeId} {X H : Operand} {k : IntKind} {i : Int} {sz : Nat} (ho : o.op = .slice t X none (some H) none) (hX : evl N s X = .slice A xs.length c) (hH : evl N s H = .int k i) (hi : i = (m : Int)) (hu : P.underlying t = some (.slice e)) (hz : (P.info? e).map (·.size) = some sz) (h2 : m ≤ xs.length) (hc : xs.length ≤ c) :
    (execOp (evl N s) o).run P W = .ok (.value (.slice A (xs.take m).length c)) W := by
  obtain ⟨q, hq, hs⟩ := Option.map_eq_some_iff.1 hz
  have he : P.elem t = e := by simp [Program.elem, hu]
  have hu' : P.underlying t = some (.slice (P.elem t)) := by rw [he]; exact hu
  subst hi
  have e1 : A.map (fun x => x.add (0 * sz)) = A := by cases A <;> simp [Addr.add]
  unfold execOp
  simp only [ho, hX, hH, Option.map_some, Option.map_none]
  rw [Sem.run_bind, run_sliceAt_slice (h := hu'), run_slice_h (ht := hu') (h0 := by omega) (h2 := by omega)]
  simp [sizeOf, typeInfo, he, hq, hs, sliced, Addr.add, Nat.min_eq_left h2]
end
end Go.Proofs.Ytkjaahmlnbgnjaa.Hd
