/- The walk by slots: rows (slices) that are read, made, appended to, stored into. -/
import Derived.Test.YtdcjapdkbocgmaaMSx
namespace Go.Proofs.Ytdcjapdkbocgmaa.Hd
open Go.RowKit Go.Proofs.YtdcjapdkbocgmaaW.PrintWords Go.Proofs.YtdcjapdkbocgmaaW.PrintLast Go.Proofs.YtdcjapdkbocgmaaW.PrintMore
set_option linter.unusedVariables false
section
variable {α : Type} {d : Kd α} {P : Program} {N : Nat} {s : List (Nat × Value)} {o : Oper} {W : World} {A : Option Addr} {n c : Nat} {xs : List α}
end
section
variable {α : Type} {P : Program} {ops : Array Oper} {Q : Exit → Act → World → Prop} {N : Nat} {s : List (Nat × Value)} {rest : List Oper} {o : Oper} {w0 W W' : World} {cs : List Chunk}
theorem row_R {d : Kd α} {e base : Nat} {v : Value} {xs : List α} {F : Nat → Prop} (h : (row d e base v xs F).ok W) : d.R e W base F v xs := h.1
/-- A row that a callee has made. -/
theorem Hp.made (hp : Hp w0 cs W) {d : Kd α} {e : Nat} {v : Value} {xs : List α} {ok : Nat → Prop} (hb : Below W.heap.size W W') (h : d.R e W' W.heap.size ok v xs) : Hp w0 (row d e w0.heap.size v xs (fun k => ok k ∧ W.heap.size ≤ k ∧ k < W'.heap.size) :: cs) W' :=
  hp.add (Mv.quiet hb) _ ⟨Kd.R_lower (Kd.R_mono (Kd.R_bound h) (fun k hk => ⟨hk.1, hk.2.1, hk.2.2.1⟩)) hp.size, fun k hk => hk.2.2⟩ (fun k hk => hk.2.1)
end
end Go.Proofs.Ytdcjapdkbocgmaa.Hd
