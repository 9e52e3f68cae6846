/- Rows of rows: opened for two stores of headers, and closed again. -/
import Derived.Test.YtbkaedmabdgdhaaMSxS
import Derived.Test.YtbkaedmabdgdhaaMSxM
import Derived.Test.YtbkaedmabdgdhaaMRowStep
namespace Go.Proofs.Ytbkaedmabdgdhaa.Hd
open Go Go.RowKit Go.Proofs.YtbkaedmabdgdhaaW.PrintWords Go.Proofs.YtbkaedmabdgdhaaW.PrintLast Go.Proofs.YtbkaedmabdgdhaaW.PrintMore
set_option linter.unusedVariables false
section
variable {α : Type} {d : Kd α} {e base n c g : Nat} {v : Value} {xs : List α} {F : Nat → Prop} {W w0 : World} {A : Option Addr} {cs : List Chunk}
theorem Hp.litS0 {f : Nat → Nat} (hp : Hp w0 (row (Kd.tag f d) e base v [] F :: cs) W) : Hp w0 (rowS d e base v [] F :: cs) W :=
  hp.upd 0 _ (rowS d e base v [] F) rfl (Mv.refl _ _) ⟨⟨f, (hp.at_ 0 _ rfl).1⟩, (hp.at_ 0 _ rfl).2⟩ (fun k hk => .inl hk)
theorem Hp.split {a b x : Chunk} (h : Hp w0 (x :: cs) W) (ha : a.ok W) (hb : b.ok W) (hfa : ∀ k, a.fp k → x.fp k) (hfb : ∀ k, b.fp k → x.fp k) (hab : ∀ k, a.fp k → b.fp k → False) : Hp w0 (a :: b :: cs) W := by
  refine ⟨fun i c hc => ?_, fun i j c d hne hc hd k hk hk' => ?_, h.os, h.tape, h.output, h.size⟩
  · match i, hc with
    | 0, hc => injection hc with hc; subst hc; exact ha
    | 1, hc => injection hc with hc; subst hc; exact hb
    | i + 2, hc => exact h.ok (i + 1) c hc
  · match i, j, hc, hd with
    | 0, 0, _, _ => exact hne rfl
    | 1, 1, _, _ => exact hne rfl
    | 0, 1, hc, hd => injection hc with hc; injection hd with hd; subst hc; subst hd; exact hab k hk hk'
    | 1, 0, hc, hd => injection hc with hc; injection hd with hd; subst hc; subst hd; exact hab k hk' hk
    | 0, j + 2, hc, hd => injection hc with hc; subst hc; exact h.ap 0 (j + 1) x d (by omega) rfl hd k (hfa k hk) hk'
    | 1, j + 2, hc, hd => injection hc with hc; subst hc; exact h.ap 0 (j + 1) x d (by omega) rfl hd k (hfb k hk) hk'
    | i + 2, 0, hc, hd => injection hd with hd; subst hd; exact h.ap (i + 1) 0 c x (by omega) hc rfl k hk (hfa k hk')
    | i + 2, 1, hc, hd => injection hd with hd; subst hd; exact h.ap (i + 1) 0 c x (by omega) hc rfl k hk (hfb k hk')
    | i + 2, j + 2, hc, hd => exact h.ap (i + 1) (j + 1) c d (by omega) hc hd k hk hk'
theorem cell_at {cur : Array Value} {e : TypeId} (hh : W.heap[g]? = some (.cells cur e (0, 0))) (i : Nat) : W.cell? ⟨g, i, none⟩ = cur[i]? := by
  unfold World.cell?
  rw [hh]
  simp
end
end Go.Proofs.Ytbkaedmabdgdhaa.Hd
