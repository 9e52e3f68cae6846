/- Rows of rows that lie apart: two of them exchanged. -/
import Derived.Sort.Row
import Derived.Test.YtokkiiepddhkiaaGreatDoorMSxL
namespace Go.Proofs.YtokkiiepddhkiaaGreatDoor.Hd
open Go Go.RowKit Go.Proofs.YtokkiiepddhkiaaGreatDoorW.PrintWords Go.Proofs.YtokkiiepddhkiaaGreatDoorW.PrintLast Go.Proofs.YtokkiiepddhkiaaGreatDoorW.PrintMore
set_option linter.unusedVariables false
section
variable {α : Type} {d : Kd α} {e base n c : Nat} {v : Value} {xs ys : List α} {F ok : Nat → Prop} {W W' w0 : World} {A : Option Addr} {cs : List Chunk}
def rowS {α : Type} (d : Kd α) (e base : Nat) (v : Value) (xs : List α) (F : Nat → Prop) : Chunk where
  fp := F
  ok W := Kd.S d e W base F v xs ∧ ∀ k, F k → k < W.heap.size
  move h e := ⟨Kd.S_move h.1 e, fun k hk => by
    have h1 := e k hk
    rw [Array.getElem?_eq_getElem (h.2 k hk)] at h1
    exact (Array.getElem?_eq_some_iff.1 h1).1⟩
  live h := h.2
theorem rowS_C (h : (rowS d e base (.slice A n c) xs F).ok W) : d.C W A xs.length xs := (Kd.S_reads' h.1).2.2
theorem rowS_len (h : (rowS d e base (.slice A n c) xs F).ok W) : n = xs.length ∧ n ≤ c := ⟨(Kd.S_reads' h.1).1, (Kd.S_reads' h.1).2.1⟩
theorem Hp.nilrowS (hp : Hp w0 cs W) (d : Kd α) (e base : Nat) : Hp w0 (rowS d e base (.slice none 0 0) [] (fun _ => False) :: cs) W :=
  hp.add (Mv.refl _ W) _ ⟨Kd.S_nil _ _ _ _ _, fun _ hk => hk.elim⟩ (fun _ hk => hk.elim)
end
end Go.Proofs.YtokkiiepddhkiaaGreatDoor.Hd
namespace Go.Proofs.YtokkiiepddhkiaaGreatDoor.Hd
open Go Go.RowKit Go.Proofs.YtokkiiepddhkiaaGreatDoorW.PrintWords Go.Proofs.YtokkiiepddhkiaaGreatDoorW.PrintLast Go.Proofs.YtokkiiepddhkiaaGreatDoorW.PrintMore
set_option linter.unusedVariables false
/-- Two pieces as one. -/
def joinC (a b : Chunk) : Chunk where
  fp k := a.fp k ∨ b.fp k
  ok W := a.ok W ∧ b.ok W
  move h e := ⟨a.move h.1 (fun k hk => e k (.inl hk)), b.move h.2 (fun k hk => e k (.inr hk))⟩
  live h k hk := hk.elim (a.live h.1 k) (b.live h.2 k)
theorem Hp.join {w0 W : World} {cs : List Chunk} {a b : Chunk} (h : Hp w0 (a :: b :: cs) W) : Hp w0 (joinC a b :: cs) W := by
  refine ⟨fun i c hc => ?_, fun i j c d hne hc hd k hk hk' => ?_, h.os, h.tape, h.output, h.size⟩
  · cases i with
    | zero => injection hc with hc; subst hc; exact ⟨h.ok 0 a rfl, h.ok 1 b rfl⟩
    | succ i => exact h.ok (i + 2) c hc
  · cases i with
    | zero =>
      injection hc with hc
      subst hc
      cases j with
      | zero => exact hne rfl
      | succ j =>
        rcases hk with hk | hk
        · exact h.ap 0 (j + 2) a d (by omega) rfl hd k hk hk'
        · exact h.ap 1 (j + 2) b d (by omega) rfl hd k hk hk'
    | succ i =>
      cases j with
      | zero =>
        injection hd with hd
        subst hd
        rcases hk' with hk' | hk'
        · exact h.ap (i + 2) 0 c a (by omega) hc rfl k hk hk'
        · exact h.ap (i + 2) 1 c b (by omega) hc rfl k hk hk'
      | succ j => exact h.ap (i + 2) (j + 2) c d (by omega) hc hd k hk hk'
section
variable {P : Program} {N : Nat} {s : List (Nat × Value)} {o1 o2 : Oper} {rest : List Oper} {ops : Array Oper} {Q : Exit → Act → World → Prop} {W w0 : World} {cs : List Chunk} {α : Type}
end
end Go.Proofs.YtokkiiepddhkiaaGreatDoor.Hd
