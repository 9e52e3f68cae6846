/- The walk by slots: sums of texts, remainders by what is no constant, slices within a capacity. -/
import Derived.Test.YtbkaedmabdgdhaaMSx3
namespace Go.Proofs.Ytbkaedmabdgdhaa.Hd
open Go.RowKit Go.Proofs.YtbkaedmabdgdhaaW.PrintWords Go.Proofs.YtbkaedmabdgdhaaW.PrintLast Go.Proofs.YtbkaedmabdgdhaaW.PrintMore
set_option linter.unusedVariables false
set_option linter.unusedSimpArgs false
section
variable {P : Program} {N : Nat} {s : List (Nat × Value)} {o : Oper} {W : World}
theorem sl_lhm (m h mx : Nat) {t e : TypeId} {X L H M : Operand} {k k' k'' : IntKind} {i j q0 : Int} {sz n c : Nat} {A : Option Addr} (ho : o.op = .slice t X (some L) (some H) (some M)) (hX : evl N s X = .slice A n c) (hL : evl N s L = .int k i) (hi : i = (m : Int)) (hH : evl N s H = .int k' j) (hj : j = (h : Int)) (hM : evl N s M = .int k'' q0) (hq0 : q0 = (mx : Int)) (hu : P.underlying t = some (.slice e)) (hz : (P.info? e).map (·.size) = some sz) (h1 : m ≤ h) (h2 : h ≤ mx) (h3 : mx ≤ n) (hc : n ≤ c) :
    (execOp (evl N s) o).run P W = .ok (.value (.slice (if mx = m then A else A.map (·.add (m * sz))) (h - m) (mx - m))) W := by
  obtain ⟨q, hq, hs⟩ := Option.map_eq_some_iff.1 hz
  have he : P.elem t = e := by simp [Program.elem, hu]
  have hu' : P.underlying t = some (.slice (P.elem t)) := by rw [he]; exact hu
  subst hi; subst hj; subst hq0
  unfold execOp
  simp only [ho, hX, hL, hH, hM, Option.map_some, Option.map_none]
  rw [Sem.run_bind, run_sliceAt_slice (h := hu'), run_slice_lhm (ht := hu') (h0 := by omega) (h1 := by omega) (h2 := by omega) (h3 := by omega)]
  simp [sizeOf, typeInfo, he, hq, hs, sliced]
theorem sl_cap (m h : Nat) {t e : TypeId} {X L H : Operand} {k k' : IntKind} {i j : Int} {sz n c : Nat} {A : Option Addr} (ho : o.op = .slice t X (some L) (some H) none) (hX : evl N s X = .slice A n c) (hL : evl N s L = .int k i) (hi : i = (m : Int)) (hH : evl N s H = .int k' j) (hj : j = (h : Int)) (hu : P.underlying t = some (.slice e)) (hz : (P.info? e).map (·.size) = some sz) (h1 : m ≤ h) (h2 : h ≤ c) :
    (execOp (evl N s) o).run P W = .ok (.value (.slice (if c = m then A else A.map (·.add (m * sz))) (h - m) (c - m))) W := by
  obtain ⟨q, hq, hs⟩ := Option.map_eq_some_iff.1 hz
  have he : P.elem t = e := by simp [Program.elem, hu]
  have hu' : P.underlying t = some (.slice (P.elem t)) := by rw [he]; exact hu
  subst hi; subst hj
  unfold execOp
  simp only [ho, hX, hL, hH, Option.map_some, Option.map_none]
  rw [Sem.run_bind, run_sliceAt_slice (h := hu'), run_slice_lh (ht := hu') (h0 := by omega) (h1 := by omega) (h2 := by omega)]
  simp [sizeOf, typeInfo, he, hq, hs, sliced]
end
end Go.Proofs.Ytbkaedmabdgdhaa.Hd
