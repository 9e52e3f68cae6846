/- The walk by slots: slicing of slices. -/
import Derived.Test.YtokkiiepddhkiaaGreatDoorMSx2
namespace Go.Proofs.YtokkiiepddhkiaaGreatDoor.Hd
open Go.RowKit Go.Proofs.YtokkiiepddhkiaaGreatDoorW.PrintWords Go.Proofs.YtokkiiepddhkiaaGreatDoorW.PrintLast Go.Proofs.YtokkiiepddhkiaaGreatDoorW.PrintMore
set_option linter.unusedVariables false
section
variable {P : Program} {N : Nat} {s : List (Nat × Value)} {o : Oper} {W : World} {A : Option Addr} {c : Nat} {α : Type} {xs : List α}
theorem sl_lo (m : Nat) {t e : TypeId} {X L : Operand} {k : IntKind} {i : Int} {sz : Nat} (ho : o.op = .slice t X (some L) none none) (hX : evl N s X = .slice A xs.length c) (hL : evl N s L = .int k i) (hi : i = (m : Int)) (hu : P.underlying t = some (.slice e)) (hz : (P.info? e).map (·.size) = some sz) (h2 : m ≤ xs.length) :
    (execOp (evl N s) o).run P W = .ok (.value (.slice (if c = m then A else A.map (·.add (m * sz))) (xs.drop m).length (c - m))) W := by
  obtain ⟨q, hq, hs⟩ := Option.map_eq_some_iff.1 hz
  have he : P.elem t = e := by simp [Program.elem, hu]
  have hu' : P.underlying t = some (.slice (P.elem t)) := by rw [he]; exact hu
  subst hi
  unfold execOp
  simp only [ho, hX, hL, Option.map_some, Option.map_none]
  rw [Sem.run_bind, run_sliceAt_slice (h := hu'), run_slice_l (ht := hu') (h0 := by omega) (h1 := by omega)]
  simp [sizeOf, typeInfo, he, hq, hs, sliced]
theorem sl_hi (m : Nat) {t e : TypeId} {X H : Operand} {k : IntKind} {i : Int} {sz : Nat} (ho : o.op = .slice t X none (some H) none) (hX : evl N s X = .slice A xs.length c) (hH : evl N s H = .int k i) (hi : i = (m : Int)) (hu : P.underlying t = some (.slice e)) (hz : (P.info? e).map (·.size) = some sz) (h2 : m ≤ xs.length) (hc : xs.length ≤ c) :
    (execOp (evl N s) o).run P W = .ok (.value (.slice A (xs.take m).length c)) W := by
  obtain ⟨q, hq, hs⟩ := Option.map_eq_some_iff.1 hz
  have he : P.elem t = e := by simp [Program.elem, hu]
  have hu' : P.underlying t = some (.slice (P.elem t)) := by rw [he]; exact hu
  subst hi
  have e1 : A.map (fun x => x.add (0 * sz)) = A := by cases A <;> simp [Addr.add]
  unfold execOp
  simp only [ho, hX, hH, Option.map_some, Option.map_none]
  rw [Sem.run_bind, run_sliceAt_slice (h := hu'), run_slice_h (ht := hu') (h0 := by omega) (h2 := by omega)]
  simp [sizeOf, typeInfo, he, hq, hs, sliced, Addr.add, Nat.min_eq_left h2]
end
end Go.Proofs.YtokkiiepddhkiaaGreatDoor.Hd
