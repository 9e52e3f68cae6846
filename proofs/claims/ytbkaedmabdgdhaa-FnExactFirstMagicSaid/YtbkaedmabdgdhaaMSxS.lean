/- Rows of rows that lie apart: two of them exchanged. -/
import Derived.Test.YtbkaedmabdgdhaaMSxN
import Derived.Sort.Row
namespace Go.Proofs.Ytbkaedmabdgdhaa.Hd
open Go Go.RowKit Go.Proofs.YtbkaedmabdgdhaaW.PrintWords Go.Proofs.YtbkaedmabdgdhaaW.PrintLast Go.Proofs.YtbkaedmabdgdhaaW.PrintMore
set_option linter.unusedVariables false
/-- Two pieces as one. -/
def joinC (a b : Chunk) : Chunk where
  fp k := a.fp k ∨ b.fp k
  ok W := a.ok W ∧ b.ok W
  move h e := ⟨a.move h.1 (fun k hk => e k (.inl hk)), b.move h.2 (fun k hk => e k (.inr hk))⟩
  live h k hk := hk.elim (a.live h.1 k) (b.live h.2 k)
theorem Hp.join {w0 W : World} {cs : List Chunk} {a b : Chunk} (h : Hp w0 (a :: b :: cs) W) : Hp w0 (joinC a b :: cs) W := by
  refine ⟨fun i c hc => ?_, fun i j c d hne hc hd k hk hk' => ?_, h.os, h.tape, h.output, h.size⟩
  · cases i with
    | zero => injection hc with hc; subst hc; exact ⟨h.ok 0 a rfl, h.ok 1 b rfl⟩
    | succ i => exact h.ok (i + 2) c hc
  · cases i with
    | zero =>
      injection hc with hc
      subst hc
      cases j with
      | zero => exact hne rfl
      | succ j =>
        rcases hk with hk | hk
        · exact h.ap 0 (j + 2) a d (by omega) rfl hd k hk hk'
        · exact h.ap 1 (j + 2) b d (by omega) rfl hd k hk hk'
    | succ i =>
      cases j with
      | zero =>
        injection hd with hd
        subst hd
        rcases hk' with hk' | hk'
        · exact h.ap (i + 2) 0 c a (by omega) hc rfl k hk hk'
        · exact h.ap (i + 2) 1 c b (by omega) hc rfl k hk hk'
      | succ j => exact h.ap (i + 2) (j + 2) c d (by omega) hc hd k hk hk'
section
variable {P : Program} {N : Nat} {s : List (Nat × Value)} {o1 o2 : Oper} {rest : List Oper} {ops : Array Oper} {Q : Exit → Act → World → Prop} {W w0 : World} {cs : List Chunk} {α : Type}
/-- A literal of one row of the call's own, and its append to a row of rows: the row goes in. -/
theorem sx_pushS (q1 q2 : Nat) (hk1 : okB o1 q1 N = true) (hk2 : okB o2 q2 N = true) {di : Kd α} {ei e base : Nat} {v hv : Value} {xs : List (List α)} {ys : List α} {F G : Nat → Prop}
    (hr1 : ∀ W : World, (execOp (evl N s) o1).run P W = .ok (.value (.slice (some ⟨W.heap.size, 0, none⟩) 1 1)) (W.alloc (.cells #[hv] e (0, 0))))
    {S X : Operand} {t : TypeId} (z : Value) (bytes : Nat) (ho : o2.op = .call { callee := .builtin .append, args := #[S, X], argTypes := #[t, t] }) (ht : P.underlying t = some (.slice e)) (hinfo : (P.info? e).map (fun i => (i.zero, i.size, i.bytes)) = some (some z, 1, bytes)) (hz : z.cells.size = 1) (hb0 : 0 < bytes)
    (hs : evl N ((q1, .slice (some ⟨W.heap.size, 0, none⟩) 1 1) :: s) S = v) (hx : evl N ((q1, .slice (some ⟨W.heap.size, 0, none⟩) 1 1) :: s) X = .slice (some ⟨W.heap.size, 0, none⟩) 1 1)
    (hbase : base ≤ W.heap.size) (hl : (xs.length + 1) * bytes ≤ 140737488355328) (hp : Hp w0 (rowS (Kd.slice ei di) e base v xs F :: row di ei base hv ys G :: cs) W)
    (h : ∀ A' c' F' W', Hp w0 (rowS (Kd.slice ei di) e base (.slice A' (xs ++ [ys]).length c') (xs ++ [ys]) F' :: cs) W' → WL P ops Q rest (fr N ((q2, .slice A' (xs ++ [ys]).length c') :: (q1, .slice (some ⟨W.heap.size, 0, none⟩) 1 1) :: s)) W') : WL P ops Q (o1 :: o2 :: rest) (fr N s) W := by
  refine sx_val q1 _ hk1 (hr1 W) ⟨?_⟩
  obtain ⟨h1, h2, h3⟩ := okB_spec hk2
  have hS := hp.at_ 0 _ rfl
  have hR := hp.at_ 1 _ rfl
  have hap : ∀ k, F k → G k → False := fun k a b => hp.ap 0 1 _ _ (by omega) rfl rfl k a b
  have hown : ∀ k, G k → some k ≠ v.ownBlock := fun k hk e => hap k (by obtain ⟨f, hf, _⟩ := hS.1; exact hf k e.symm) hk
  refine Kd.S_append (Kd.slice ei di) (w0 := W) (W := W) base h1 S X t e z bytes ho ht hinfo hz (Nat.lt_succ_self 0) hb0 v xs ys [hv] (fun k => F k ∨ G k ∨ W.heap.size ≤ k) G (by rw [fr_eval]; exact hs) (by rw [fr_eval]; exact hx) ⟨hv, rfl, hR.1⟩ (fun k hk => ⟨.inr (.inl hk), hown k hk⟩) (fun k hk => .inr (.inr hk)) (Kd.S_mono hS.1 (fun k hk => ⟨.inl hk, fun q => hap k hk q⟩)) (Below.refl _ _) hbase hl ?_
  intro v1 w1 hS1 hB hG hat
  obtain ⟨A', c', rfl, hc'⟩ := Kd.S_reads hS1
  rw [h2, fr_put _ _ h3]
  refine (h A' c' (fun k => (F k ∨ G k ∨ W.heap.size ≤ k) ∧ base ≤ k ∧ k < w1.heap.size) w1 ?_).out
  exact hp.join.upd 0 _ (rowS (Kd.slice ei di) e base (.slice A' (xs ++ [ys]).length c') (xs ++ [ys]) (fun k => (F k ∨ G k ∨ W.heap.size ≤ k) ∧ base ≤ k ∧ k < w1.heap.size)) rfl ((Mv.of_grown hG).mono (fun k hk => .inl (by obtain ⟨f, hf, _⟩ := hS.1; exact hf k hk))) ⟨Kd.S_mono (Kd.S_bound hS1) (fun k hk => ⟨hk.1, hk.2.1, hk.2.2.1⟩), fun k hk => hk.2.2⟩ (fun k hk => hk.1.elim (fun a => .inl (.inl a)) (fun a => a.elim (fun b => .inl (.inr b)) .inr))
end
end Go.Proofs.Ytbkaedmabdgdhaa.Hd
