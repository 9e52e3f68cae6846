/- The walk by slots: more words (several rows that a callee has made, results of several parts). -/
import Derived.Test.YtdcjapdkbocgmaaMSxR
namespace Go.Proofs.Ytdcjapdkbocgmaa.Hd
open Go.RowKit Go.Proofs.YtdcjapdkbocgmaaW.PrintWords Go.Proofs.YtdcjapdkbocgmaaW.PrintLast Go.Proofs.YtdcjapdkbocgmaaW.PrintMore
set_option linter.unusedVariables false
section
variable {w0 W W' : World} {cs : List Chunk}
theorem Hp.cons_ (h : Hp w0 cs W) (c : Chunk) (hok : c.ok W) (hd : ∀ (i : Nat) (d : Chunk), cs[i]? = some d → ∀ k, c.fp k → d.fp k → False) : Hp w0 (c :: cs) W := by
  refine ⟨fun i d hi => ?_, fun i j d d' hne hi hj k hk hk' => ?_, h.os, h.tape, h.output, h.size⟩
  · cases i with
    | zero => injection hi with hi; subst hi; exact hok
    | succ i => exact h.ok i d hi
  · cases i with
    | zero =>
      injection hi with hi
      subst hi
      cases j with
      | zero => exact hne rfl
      | succ j => exact hd j d' hj k hk hk'
    | succ i =>
      cases j with
      | zero => injection hj with hj; subst hj; exact hd i d hi k hk' hk
      | succ j => exact h.ap i j d d' (fun e => hne (by rw [e])) hi hj k hk hk'
/-- A flat row, told by its own block alone. -/
def own1 (v : Value) (lo hi : Nat) (k : Nat) : Prop := some k = v.ownBlock ∧ lo ≤ k ∧ k < hi
theorem row_own {α : Type} {d : Kd α} {e base lo : Nat} {v : Value} {xs : List α} {ok : Nat → Prop} (hE : d.E = []) (h : d.R e W lo ok v xs) (hb : base ≤ lo) : (row d e base v xs (own1 v lo W.heap.size)).ok W :=
  ⟨Kd.R_lower (Kd.R_mono (Kd.R_bound (Kd.R_tight hE h)) (fun k hk => ⟨hk.1, hk.2.1, hk.2.2.1⟩)) hb, fun k hk => hk.2.2⟩
theorem typed_apart {α β : Type} {d1 : Kd α} {d2 : Kd β} {e1 e2 b1 b2 : Nat} {o1 o2 : Nat → Prop} {v1 v2 : Value} {x1 : List α} {x2 : List β} (h1 : d1.R e1 W b1 o1 v1 x1) (h2 : d2.R e2 W b2 o2 v2 x2) (hne : e1 ≠ e2) : ∀ k, some k = v1.ownBlock → some k = v2.ownBlock → False := by
  intro k hk hk'
  obtain ⟨c1, q1⟩ := Kd.R_typed h1 k hk.symm
  obtain ⟨c2, q2⟩ := Kd.R_typed h2 k hk'.symm
  rw [q1] at q2
  injection q2 with q2
  injection q2 with _ q2
  exact hne q2
theorem ok_apart {α : Type} {d1 : Kd α} {e1 b1 : Nat} {o1 : Nat → Prop} {v1 v2 : Value} {x1 : List α} (h1 : d1.R e1 W b1 o1 v1 x1) (ho : ∀ k, o1 k → some k ≠ v2.ownBlock) : ∀ k, some k = v1.ownBlock → some k = v2.ownBlock → False :=
  fun k hk hk' => ho k (h1.1 k hk.symm) hk'
theorem Hp.made1 (hp : Hp w0 cs W) (hb : Below W.heap.size W W') {α : Type} {d : Kd α} {e : Nat} {v : Value} {xs : List α} {ok : Nat → Prop} (hE : d.E = []) (h : d.R e W' W.heap.size ok v xs) : Hp w0 (row d e w0.heap.size v xs (own1 v W.heap.size W'.heap.size) :: cs) W' :=
  (hp.below hb).cons_ _ (row_own hE h hp.size) (fun i c hc k hk hk' => by have := c.live (hp.ok i c hc) k hk'; have := hk.2.1; omega)
theorem Hp.made2 (hp : Hp w0 cs W) (hb : Below W.heap.size W W') {α β : Type} {d1 : Kd α} {d2 : Kd β} {e1 e2 : Nat} {v1 v2 : Value} {x1 : List α} {x2 : List β} {o1 o2 : Nat → Prop} (hE1 : d1.E = []) (hE2 : d2.E = []) (h1 : d1.R e1 W' W.heap.size o1 v1 x1) (h2 : d2.R e2 W' W.heap.size o2 v2 x2)
    (ha : ∀ k, some k = v1.ownBlock → some k = v2.ownBlock → False) : Hp w0 (row d1 e1 w0.heap.size v1 x1 (own1 v1 W.heap.size W'.heap.size) :: row d2 e2 w0.heap.size v2 x2 (own1 v2 W.heap.size W'.heap.size) :: cs) W' := by
  refine (hp.made1 hb hE2 h2).cons_ _ (row_own hE1 h1 hp.size) (fun i c hc k hk hk' => ?_)
  cases i with
  | zero => injection hc with hc; subst hc; exact ha k hk.1 hk'.1
  | succ i => have := c.live (hp.ok i c hc) k hk'; have := hk.2.1; omega
theorem Hp.made3 (hp : Hp w0 cs W) (hb : Below W.heap.size W W') {α β γ : Type} {d1 : Kd α} {d2 : Kd β} {d3 : Kd γ} {e1 e2 e3 : Nat} {v1 v2 v3 : Value} {x1 : List α} {x2 : List β} {x3 : List γ} {o1 o2 o3 : Nat → Prop} (hE1 : d1.E = []) (hE2 : d2.E = []) (hE3 : d3.E = []) (h1 : d1.R e1 W' W.heap.size o1 v1 x1) (h2 : d2.R e2 W' W.heap.size o2 v2 x2) (h3 : d3.R e3 W' W.heap.size o3 v3 x3)
    (ha : ∀ k, some k = v1.ownBlock → some k = v2.ownBlock → False) (hb1 : ∀ k, some k = v1.ownBlock → some k = v3.ownBlock → False) (hb2 : ∀ k, some k = v2.ownBlock → some k = v3.ownBlock → False) :
    Hp w0 (row d1 e1 w0.heap.size v1 x1 (own1 v1 W.heap.size W'.heap.size) :: row d2 e2 w0.heap.size v2 x2 (own1 v2 W.heap.size W'.heap.size) :: row d3 e3 w0.heap.size v3 x3 (own1 v3 W.heap.size W'.heap.size) :: cs) W' := by
  refine (hp.made2 hb hE2 hE3 h2 h3 hb2).cons_ _ (row_own hE1 h1 hp.size) (fun i c hc k hk hk' => ?_)
  match i, hc with
  | 0, hc => injection hc with hc; subst hc; exact ha k hk.1 hk'.1
  | 1, hc => injection hc with hc; subst hc; exact hb1 k hk.1 hk'.1
  | i + 2, hc => have := c.live (hp.ok i c hc) k hk'; have := hk.2.1; omega
end
section
variable {P : Program} {N : Nat} {s : List (Nat × Value)} {W : World}
end
inductive STree where
  | fin : STree
  | rd (i : Nat) (t : STree) : STree
  | alt (i : Nat) (s t : STree) : STree
  | non : STree
def STree.depth : STree → Nat
  | .fin => 0
  | .rd _ t => t.depth + 1
  | .alt _ s _ => s.depth + 1
  | .non => 0
section
variable {P : Program} {ops : Array Oper} {md : Region.Mode} {C : World → Prop} {Q : Exit → Act → World → Prop} {T : List Nat}
end
section
variable {P : Program} {Q : Exit → Act → World → Prop} {N : Nat} {s : List (Nat × Value)} {W : World} {C : World → Prop} {ops : Array Oper} {l : List Oper} {K : Act → World → Prop} {a : Act}
end
end Go.Proofs.Ytdcjapdkbocgmaa.Hd
