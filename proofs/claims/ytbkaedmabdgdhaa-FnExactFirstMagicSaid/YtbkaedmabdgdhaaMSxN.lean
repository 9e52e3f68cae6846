/- Rows of rows that lie apart (Kd.S), as pieces. -/
import Derived.Test.YtbkaedmabdgdhaaMSxL
namespace Go.Proofs.Ytbkaedmabdgdhaa.Hd
open Go Go.RowKit Go.Proofs.YtbkaedmabdgdhaaW.PrintWords Go.Proofs.YtbkaedmabdgdhaaW.PrintLast Go.Proofs.YtbkaedmabdgdhaaW.PrintMore
set_option linter.unusedVariables false
section
variable {α : Type} {d : Kd α} {e base n c : Nat} {v : Value} {xs ys : List α} {F ok : Nat → Prop} {W W' w0 : World} {A : Option Addr} {cs : List Chunk}
def rowS {α : Type} (d : Kd α) (e base : Nat) (v : Value) (xs : List α) (F : Nat → Prop) : Chunk where
  fp := F
  ok W := Kd.S d e W base F v xs ∧ ∀ k, F k → k < W.heap.size
  move h e := ⟨Kd.S_move h.1 e, fun k hk => by
    have h1 := e k hk
    rw [Array.getElem?_eq_getElem (h.2 k hk)] at h1
    exact (Array.getElem?_eq_some_iff.1 h1).1⟩
  live h := h.2
theorem rowS_C (h : (rowS d e base (.slice A n c) xs F).ok W) : d.C W A xs.length xs := (Kd.S_reads' h.1).2.2
theorem rowS_S (h : (rowS d e base v xs F).ok W) : Kd.S d e W base F v xs := h.1
theorem rowS_len (h : (rowS d e base (.slice A n c) xs F).ok W) : n = xs.length ∧ n ≤ c := ⟨(Kd.S_reads' h.1).1, (Kd.S_reads' h.1).2.1⟩
theorem Hp.madeS (hp : Hp w0 cs W) (hb : Below W.heap.size W W') (h : Kd.S d e W' W.heap.size ok v xs) : Hp w0 (rowS d e w0.heap.size v xs (fun k => ok k ∧ W.heap.size ≤ k ∧ k < W'.heap.size) :: cs) W' :=
  hp.add (Mv.quiet hb) _ ⟨Kd.S_lower (Kd.S_mono (Kd.S_bound h) (fun k hk => ⟨hk.1, hk.2.1, hk.2.2.1⟩)) hp.size, fun k hk => hk.2.2⟩ (fun k hk => hk.2.1)
theorem Hp.nilrowS (hp : Hp w0 cs W) (d : Kd α) (e base : Nat) : Hp w0 (rowS d e base (.slice none 0 0) [] (fun _ => False) :: cs) W :=
  hp.add (Mv.refl _ W) _ ⟨Kd.S_nil _ _ _ _ _, fun _ hk => hk.elim⟩ (fun _ hk => hk.elim)
theorem Hp.markedS (hp : Hp w0 (rowS d e w0.heap.size v xs F :: cs) W) (hB : Below w0.heap.size w0 W') (hK : Kept W W' (fun k => F k)) (hR : Kd.S d e W' w0.heap.size (fun k => F k ∨ W.heap.size ≤ k) v ys) :
    Hp w0 (rowS d e w0.heap.size v ys (fun k => (F k ∨ W.heap.size ≤ k) ∧ w0.heap.size ≤ k ∧ k < W'.heap.size) :: cs) W' := by
  refine hp.upd 0 _ (rowS d e w0.heap.size v ys (fun k => (F k ∨ W.heap.size ≤ k) ∧ w0.heap.size ≤ k ∧ k < W'.heap.size)) rfl ⟨hB.os.trans hp.os.symm, hB.tape.trans hp.tape.symm, hB.output.trans hp.output.symm, hK.1, fun k hk hn => hK.2 k hk hn⟩ ⟨Kd.S_mono (Kd.S_bound hR) (fun k hk => ⟨hk.1, hk.2.1, hk.2.2.1⟩), fun k hk => hk.2.2⟩ (fun k hk => hk.1)
end
end Go.Proofs.Ytbkaedmabdgdhaa.Hd
