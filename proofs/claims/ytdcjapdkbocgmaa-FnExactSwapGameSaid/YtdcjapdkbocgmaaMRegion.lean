/- A region that draws its order, walked in one order of the prover's choice: operations that only read (in every world of a class C) are taken as soon as they may come up; any other operation is met when it alone may come up. -/
import Derived.Test.YtdcjapdkbocgmaaMQuietB
namespace Go.Proofs.Ytdcjapdkbocgmaa.Hd
open Go.RowKit Go.Proofs.YtdcjapdkbocgmaaW.PrintWords Go.Proofs.YtdcjapdkbocgmaaW.PrintLast Go.Proofs.YtdcjapdkbocgmaaW.PrintMore
set_option linter.unusedVariables false
section
variable {P : Program} {ops : Array Oper} {md : Region.Mode} {C : World → Prop} {Q : Exit → Act → World → Prop} {T : List Nat}
/-- r is ahead of t along the edges. -/
def forced (md : Region.Mode) (ops : Array Oper) : Nat → Nat → Nat → Bool
  | 0, _, _ => false
  | n + 1, r, t => match ops[t]? with
    | some o => o.after.any fun e => Region.binds md e && (e.on == r || forced md ops n r e.on)
    | none => false
def Closed (md : Region.Mode) (ops : Array Oper) (listed : Array Bool) : Prop := ∀ j oj, ops[j]? = some oj → listed.getD j false = true → ∀ e ∈ oj.after, Region.binds md e = true → listed.getD e.on false = true
theorem Closed.set {listed : Array Bool} (h : Closed md ops listed) {i : Nat} (hi : i ∈ Region.ready md ops listed) : Closed md ops (listed.setIfInBounds i true) := by
  intro j oj hj hl e he hb
  obtain ⟨_, oi, hoi, hall⟩ := mem_ready.1 hi
  by_cases hij : i = j
  · subst hij
    obtain rfl : oj = oi := Option.some.inj (hj.symm.trans hoi)
    exact getD_set_true (hall e he hb)
  · rw [getD_set_ne false hij] at hl
    exact getD_set_true (h j oj hj hl e he hb)
/-- What is left of a region behind one operation. -/
def evQ (Q : Exit → Act → World → Prop) (K : Act → World → Prop) : Exit → Act → World → Prop
  | .normal, a, w => K a w
  | e, a, w => Q e a w
end
section
variable {P : Program} {ops : Array Oper} {md : Region.Mode} {C : World → Prop} {Q : Exit → Act → World → Prop} {T : List Nat}
/-- The operations of these numbers. -/
def pick (l : List Oper) (is : List Nat) : List Oper := is.filterMap (fun i => l[i]?)
end
section
variable {P : Program} {ops : Array Oper} {md : Region.Mode} {C : World → Prop} {Q : Exit → Act → World → Prop} {T : List Nat}
/-- Steps: reads (true) and events (false), in one order. -/
def steps (P : Program) (ops : Array Oper) (Q : Exit → Act → World → Prop) (C : World → Prop) (K : Act → World → Prop) : List (Bool × Oper) → Act → World → Prop
  | [], a, w => K a w
  | (true, o) :: r, a, w => wpQuiet P ops C (fun a' => steps P ops Q C K r a' w) [o] a
  | (false, o) :: r, a, w => wpList P ops (evQ Q (fun a' w' => C w' ∧ steps P ops Q C K r a' w')) [o] a w
theorem steps_nil {K : Act → World → Prop} {a : Act} {w : World} (h : K a w) : steps P ops Q C K [] a w := h
/-- Behind an event: a world of the class. -/
theorem step_end {w : World} {K : Act → World → Prop} {a : Act} {W : World} (hb : Below w.heap.size w W) (h : K a W) : wpList P ops (evQ Q (fun a' w' => (∃ x : After w, w' = x.1) ∧ K a' w')) [] a W := ⟨⟨⟨W, hb⟩, rfl⟩, h⟩
end
section
variable {P : Program} {ops : Array Oper} {rest : List Oper} {o : Oper} {a : Act} {Q : Exit → Act → World → Prop} {W : World}
end
end Go.Proofs.Ytdcjapdkbocgmaa.Hd
