/- Rows of rows that lie apart (Kd.S), as pieces. -/
import Derived.Test.YtjhbnkplpaffoaaGreatDoorMSxL
namespace Go.Proofs.YtjhbnkplpaffoaaGreatDoor.Hd
open Go Go.RowKit Go.Proofs.YtjhbnkplpaffoaaGreatDoorW.PrintWords Go.Proofs.YtjhbnkplpaffoaaGreatDoorW.PrintLast Go.Proofs.YtjhbnkplpaffoaaGreatDoorW.PrintMore
set_option linter.unusedVariables false
section
variable {α : Type} {d : Kd α} {e base n c : Nat} {v : Value} {xs ys : List α} {F ok : Nat → Prop} {W W' w0 : World} {A : Option Addr} {cs : List Chunk}
def rowS {α : Type} (d : Kd α) (e base : Nat) (v : Value) (xs : List α) (F : Nat → Prop) : Chunk where
  fp := F
  ok W := Kd.S d e W base F v xs ∧ ∀ k, F k → k < W.heap.size
  move h e := ⟨Kd.S_move h.1 e, fun k hk => by
    have h1 := e k hk
    rw [Array.getElem?_eq_getElem (h.2 k hk)] at h1
    exact (Array.getElem?_eq_some_iff.1 h1).1⟩
  live h := h.2
theorem Hp.madeS (hp : Hp w0 cs W) (hb : Below W.heap.size W W') (h : Kd.S d e W' W.heap.size ok v xs) : Hp w0 (rowS d e w0.heap.size v xs (fun k => ok k ∧ W.heap.size ≤ k ∧ k < W'.heap.size) :: cs) W' :=
  hp.add (Mv.quiet hb) _ ⟨Kd.S_lower (Kd.S_mono (Kd.S_bound h) (fun k hk => ⟨hk.1, hk.2.1, hk.2.2.1⟩)) hp.size, fun k hk => hk.2.2⟩ (fun k hk => hk.2.1)
end
end Go.Proofs.YtjhbnkplpaffoaaGreatDoor.Hd
