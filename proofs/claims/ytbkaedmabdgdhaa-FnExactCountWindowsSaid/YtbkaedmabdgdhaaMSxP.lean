/- A literal of one row as a block of its own, and its append to a row of rows (the two are events of a region that draws). -/
import Derived.Test.YtbkaedmabdgdhaaMSxS
namespace Go.Proofs.Ytbkaedmabdgdhaa.Hd
open Go Go.RowKit Go.Proofs.YtbkaedmabdgdhaaW.PrintWords Go.Proofs.YtbkaedmabdgdhaaW.PrintLast Go.Proofs.YtbkaedmabdgdhaaW.PrintMore
set_option linter.unusedVariables false
section
variable {P : Program} {N : Nat} {s : List (Nat × Value)} {o o2 : Oper} {rest : List Oper} {ops : Array Oper} {Q : Exit → Act → World → Prop} {W w0 : World} {cs : List Chunk} {α : Type}
theorem sx_blit (q : Nat) (hk : okB o q N = true) {hv : Value} {e : TypeId} (hr : ∀ W : World, (execOp (evl N s) o).run P W = .ok (.value (.slice (some ⟨W.heap.size, 0, none⟩) 1 1)) (W.alloc (.cells #[hv] e (0, 0)))) (hp : Hp w0 cs W)
    (h : ∀ g W', Hp w0 (blk g #[hv] e :: cs) W' → WL P ops Q rest (fr N ((q, .slice (some ⟨g, 0, none⟩) 1 1) :: s)) W') : WL P ops Q (o :: rest) (fr N s) W :=
  sx_val q _ hk (hr W) (h W.heap.size _ (hp.add (Mv.quiet (below_alloc (Below.refl _ _) _)) (blk _ _ _) (heap_alloc_new W _) (fun k hk => by have : k = W.heap.size := hk; omega)))
theorem sx_pushP (q2 : Nat) (hk2 : okB o2 q2 N = true) {di : Kd α} {ei e base g : Nat} {v hv : Value} {xs : List (List α)} {ys : List α} {F G : Nat → Prop} {T : TypeId}
    {S X : Operand} {t : TypeId} (z : Value) (bytes : Nat) (ho : o2.op = .call { callee := .builtin .append, args := #[S, X], argTypes := #[t, t] }) (ht : P.underlying t = some (.slice e)) (hinfo : (P.info? e).map (fun i => (i.zero, i.size, i.bytes)) = some (some z, 1, bytes)) (hz : z.cells.size = 1) (hb0 : 0 < bytes)
    (hs : evl N s S = v) (hx : evl N s X = .slice (some ⟨g, 0, none⟩) 1 1)
    (hbase : base ≤ W.heap.size) (hl : (xs.length + 1) * bytes ≤ 140737488355328) (hp : Hp w0 (rowS (Kd.slice ei di) e base v xs F :: row di ei base hv ys G :: blk g #[hv] T :: cs) W)
    (h : ∀ A' c' F' W', Hp w0 (rowS (Kd.slice ei di) e base (.slice A' (xs ++ [ys]).length c') (xs ++ [ys]) F' :: blk g #[hv] T :: cs) W' → WL P ops Q rest (fr N ((q2, .slice A' (xs ++ [ys]).length c') :: s)) W') : WL P ops Q (o2 :: rest) (fr N s) W := by
  refine ⟨?_⟩
  obtain ⟨h1, h2, h3⟩ := okB_spec hk2
  have hS := hp.at_ 0 _ rfl
  have hR := hp.at_ 1 _ rfl
  have hap : ∀ k, F k → G k → False := fun k a b => hp.ap 0 1 _ _ (by omega) rfl rfl k a b
  have hown : ∀ k, G k → some k ≠ v.ownBlock := fun k hk e => hap k (by obtain ⟨f, hf, _⟩ := hS.1; exact hf k e.symm) hk
  obtain ⟨f, hf, hT⟩ := Kd.S_tag hS.1 xs.length G (fun k hk hF => hap k hF hk)
  have hM : (Kd.slice ei di).M W base G ys [hv] := ⟨hv, rfl, hR.1⟩
  refine Kd.R_append_rows (Kd.tag f (Kd.slice ei di)) (Rr := fun x cs => x = (ys, xs.length) ∧ cs = [hv]) (w0 := W) (W := W) base h1 S X t e z bytes ho ht hinfo hz (Nat.lt_succ_self 0) hb0 v xs.zipIdx [(ys, xs.length)] (some ⟨g, 0, none⟩) 1 1 (fun k => F k ∨ G k ∨ W.heap.size ≤ k) G (by rw [fr_eval]; exact hs) (by rw [fr_eval]; exact hx)
    (Kd.R_mono hT (fun k hk => .inl hk)) ⟨rfl, by omega, fun _ => ⟨_, rfl, fun j p hj => ?_⟩⟩ (fun x cs hx => ?_) (fun k hk => ⟨.inr (.inl hk), hown k hk⟩) (fun k hk => .inr (.inr hk)) (Below.refl _ _) hbase (by rw [List.length_zipIdx]; exact hl) ?_
  · cases j with
    | succ j => simp at hj
    | zero =>
      injection hj with hj
      refine ⟨[hv], rfl, ⟨hj.symm, rfl⟩, fun i u hu => ?_⟩
      cases i with
      | succ i => simp at hu
      | zero =>
        injection hu with hu
        subst hu
        exact hp.cell 2 (by rfl) 0 _ rfl
  · obtain ⟨rfl, rfl⟩ := hx
    exact (Kd.slice ei di).M_mono (fun k hk => ⟨hk, hf k hk⟩) hM
  intro v1 w1 hr hB hG hat
  rw [← Kd.zip_snoc] at hr
  have hS1 : Kd.S (Kd.slice ei di) e w1 base (fun k => F k ∨ G k ∨ W.heap.size ≤ k) v1 (xs ++ [ys]) := ⟨f, hr⟩
  obtain ⟨A', c', rfl, hc'⟩ := Kd.S_reads hS1
  rw [h2, fr_put _ _ h3]
  refine (h A' c' (fun k => (F k ∨ G k ∨ W.heap.size ≤ k) ∧ base ≤ k ∧ k < w1.heap.size) w1 ?_).out
  exact hp.join.upd 0 _ (rowS (Kd.slice ei di) e base (.slice A' (xs ++ [ys]).length c') (xs ++ [ys]) (fun k => (F k ∨ G k ∨ W.heap.size ≤ k) ∧ base ≤ k ∧ k < w1.heap.size)) rfl ((Mv.of_grown hG).mono (fun k hk => .inl (by obtain ⟨f, hf, _⟩ := hS.1; exact hf k hk))) ⟨Kd.S_mono (Kd.S_bound hS1) (fun k hk => ⟨hk.1, hk.2.1, hk.2.2.1⟩), fun k hk => hk.2.2⟩ (fun k hk => hk.1.elim (fun a => .inl (.inl a)) (fun a => a.elim (fun b => .inl (.inr b)) .inr))
end
end Go.Proofs.Ytbkaedmabdgdhaa.Hd
