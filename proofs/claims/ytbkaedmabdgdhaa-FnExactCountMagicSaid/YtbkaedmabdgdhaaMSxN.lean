/- Rows of rows that lie apart (Kd.S), as pieces. -/
import Derived.Test.YtbkaedmabdgdhaaMSxL
namespace Go.Proofs.Ytbkaedmabdgdhaa.Hd
open Go Go.RowKit Go.Proofs.YtbkaedmabdgdhaaW.PrintWords Go.Proofs.YtbkaedmabdgdhaaW.PrintLast Go.Proofs.YtbkaedmabdgdhaaW.PrintMore
set_option linter.unusedVariables false
section
variable {α : Type} {d : Kd α} {e base n c : Nat} {v : Value} {xs ys : List α} {F ok : Nat → Prop} {W W' w0 : World} {A : Option Addr} {cs : List Chunk}
def rowS {α : Type} (d : Kd α) (e base : Nat) (v : Value) (xs : List α) (F : Nat → Prop) : Chunk where
  fp := F
  ok W := Kd.S d e W base F v xs ∧ ∀ k, F k → k < W.heap.size
  move h e := ⟨Kd.S_move h.1 e, fun k hk => by
    have h1 := e k hk
    rw [Array.getElem?_eq_getElem (h.2 k hk)] at h1
    exact (Array.getElem?_eq_some_iff.1 h1).1⟩
  live h := h.2
theorem rowS_C (h : (rowS d e base (.slice A n c) xs F).ok W) : d.C W A xs.length xs := (Kd.S_reads' h.1).2.2
theorem rowS_S (h : (rowS d e base v xs F).ok W) : Kd.S d e W base F v xs := h.1
theorem rowS_len (h : (rowS d e base (.slice A n c) xs F).ok W) : n = xs.length ∧ n ≤ c := ⟨(Kd.S_reads' h.1).1, (Kd.S_reads' h.1).2.1⟩
theorem Hp.nilrowS (hp : Hp w0 cs W) (d : Kd α) (e base : Nat) : Hp w0 (rowS d e base (.slice none 0 0) [] (fun _ => False) :: cs) W :=
  hp.add (Mv.refl _ W) _ ⟨Kd.S_nil _ _ _ _ _, fun _ hk => hk.elim⟩ (fun _ hk => hk.elim)
end
end Go.Proofs.Ytbkaedmabdgdhaa.Hd
