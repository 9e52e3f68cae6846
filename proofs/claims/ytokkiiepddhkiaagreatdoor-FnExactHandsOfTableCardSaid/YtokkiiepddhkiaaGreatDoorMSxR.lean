/- The walk by slots: rows (slices) that are read, made, appended to, stored into. -/
import Derived.Test.YtokkiiepddhkiaaGreatDoorMSx
namespace Go.Proofs.YtokkiiepddhkiaaGreatDoor.Hd
open Go.RowKit Go.Proofs.YtokkiiepddhkiaaGreatDoorW.PrintWords Go.Proofs.YtokkiiepddhkiaaGreatDoorW.PrintLast Go.Proofs.YtokkiiepddhkiaaGreatDoorW.PrintMore
set_option linter.unusedVariables false
/-- Where element i of a row lies. -/
def adr (A : Option Addr) (i : Int) (sz : Nat) : Addr := (A.getD ⟨0, 0, none⟩).add (i.toNat * sz)
section
variable {α : Type} {d : Kd α} {P : Program} {N : Nat} {s : List (Nat × Value)} {o : Oper} {W : World} {A : Option Addr} {n c : Nat} {xs : List α}
theorem ix_run (hC : d.C W A n xs) {t e : TypeId} {X I : Operand} {k : IntKind} {i : Int} (ho : o.op = .indexAddr t X I) (hX : evl N s X = .slice A n c) (hI : evl N s I = .int k i) (hu : P.underlying t = some (.slice e)) (hz : (P.info? e).map (·.size) = some d.sz) (h0 : 0 ≤ i) (h1 : i < (n : Int)) :
    (execOp (evl N s) o).run P W = .ok (.value (.pointer (some (adr A i d.sz)))) W := by
  obtain ⟨ad, rfl, _⟩ := hC.2.2 (by omega)
  obtain ⟨q, hq, hs⟩ := Option.map_eq_some_iff.1 hz
  unfold execOp
  simp only [ho, hX, hI]
  simp [Instr.indexAt, run_underlying hu, asIntOf, h0, h1, sizeOf, typeInfo, hq, hs, adr]
theorem el_cell (hC : d.C W A xs.length xs) (z : α) (i : Int) (h0 : 0 ≤ i) (h1 : i < (xs.length : Int)) {cells : List Value} (hop : ∀ cs, d.K W (xs.getD i.toNat z) cs → cs = cells) (j : Nat) (u : Value) (hj : cells[j]? = some u) : W.cell? ((adr A i d.sz).add j) = some u := by
  obtain ⟨ad, c, rfl, hcl, hK, hcell⟩ := ReadsRow.get_ hC z i h0 h1
  have := hop c hK
  subst this
  have h := hcell j u hj
  unfold adr
  rw [Option.getD_some, add_add]
  exact h
theorem el_run (hC : d.C W A xs.length xs) (z : α) (i : Int) (h0 : 0 ≤ i) (h1 : i < (xs.length : Int)) {cells : List Value} (hop : ∀ cs, d.K W (xs.getD i.toNat z) cs → cs = cells) (j : Nat) (seg : List Value) (hs : (cells.drop j).take seg.length = seg) {t : TypeId} {p : Operand} (ho : o.op = .load t p) (hp : evl N s p = .pointer (some ((adr A i d.sz).add j)))
    (ht : rowB P t = true) (hz : (P.info? t).map (·.size) = some seg.length) : (execOp (evl N s) o).run P W = .ok (.value (.agg seg.toArray)) W := by
  have hl : (loadCells ((adr A i d.sz).add j) seg.length).run P W = .ok seg.toArray W :=
    run_loadCells_list (P := P) W ((adr A i d.sz).add j) seg (fun q v hv => by
      rw [add_add]
      refine el_cell hC z i h0 h1 hop (j + q) v ?_
      rw [← hs, List.getElem?_take] at hv
      split at hv
      · rw [List.getElem?_drop] at hv; exact hv
      · cases hv)
  obtain ⟨q, hq, hsz⟩ := Option.map_eq_some_iff.1 hz
  have hagg : (isAgg t).run P W = .ok true W := by
    unfold rowB at ht
    cases hu : P.underlying t with
    | none => rw [hu] at ht; cases ht
    | some d =>
      unfold isAgg
      rw [Sem.run_bind, run_underlying hu W]
      rw [hu] at ht
      cases d <;> simp_all
  unfold execOp
  simp only [ho, hp, Instr.loadAt, Instr.sureAddr, Sem.run_bind, Sem.run_pure, Result.andThen_ok, loadVar, hagg]
  simp [sizeOf, typeInfo, hq, hsz, hl]
end
section
variable {α : Type} {P : Program} {ops : Array Oper} {Q : Exit → Act → World → Prop} {N : Nat} {s : List (Nat × Value)} {rest : List Oper} {o : Oper} {w0 W W' : World} {cs : List Chunk}
theorem row_C {d : Kd α} {e base : Nat} {A : Option Addr} {n c : Nat} {xs : List α} {F : Nat → Prop} (h : (row d e base (.slice A n c) xs F).ok W) : d.C W A xs.length xs := (Kd.R_reads' h.1).2.2
theorem row_R {d : Kd α} {e base : Nat} {v : Value} {xs : List α} {F : Nat → Prop} (h : (row d e base v xs F).ok W) : d.R e W base F v xs := h.1
theorem row_len {d : Kd α} {e base : Nat} {A : Option Addr} {n c : Nat} {xs : List α} {F : Nat → Prop} (h : (row d e base (.slice A n c) xs F).ok W) : n = xs.length ∧ n ≤ c := ⟨(Kd.R_reads' h.1).1, (Kd.R_reads' h.1).2.1⟩
theorem row_of {d : Kd α} {e base : Nat} {v : Value} {xs : List α} {ok : Nat → Prop} (h : d.R e W base ok v xs) : (row d e base v xs (fun k => ok k ∧ base ≤ k ∧ k < W.heap.size)).ok W :=
  ⟨Kd.R_mono (Kd.R_bound h) (fun k hk => ⟨hk.1, hk.2.1, hk.2.2.1⟩), fun k hk => hk.2.2⟩
/-- A nil row. -/
theorem Hp.nilrow (hp : Hp w0 cs W) (d : Kd α) (e base : Nat) : Hp w0 (row d e base (.slice none 0 0) [] (fun _ => False) :: cs) W :=
  hp.add (Mv.refl _ _) _ ⟨Kd.R_nil d e W base _, fun k hk => hk.elim⟩ (fun k hk => hk.elim)
/-- A row that a callee has made. -/
theorem Hp.made (hp : Hp w0 cs W) {d : Kd α} {e : Nat} {v : Value} {xs : List α} {ok : Nat → Prop} (hb : Below W.heap.size W W') (h : d.R e W' W.heap.size ok v xs) : Hp w0 (row d e w0.heap.size v xs (fun k => ok k ∧ W.heap.size ≤ k ∧ k < W'.heap.size) :: cs) W' :=
  hp.add (Mv.quiet hb) _ ⟨Kd.R_lower (Kd.R_mono (Kd.R_bound h) (fun k hk => ⟨hk.1, hk.2.1, hk.2.2.1⟩)) hp.size, fun k hk => hk.2.2⟩ (fun k hk => hk.2.1)
/-- append: rows of the call's own grow. -/
theorem sx_append (q : Nat) (hk : okB o q N = true) (d : Kd α) (i : Nat) {e base : Nat} {v : Value} {xs : List α} {F : Nat → Prop} (hc : cs[i]? = some (row d e base v xs F)) {S X : Operand} {t : TypeId} (z : Value) (bytes : Nat)
    (ho : o.op = .call { callee := .builtin .append, args := #[S, X], argTypes := #[t, t] }) (ht : P.underlying t = some (.slice e)) (hinfo : (P.info? e).map (fun i => (i.zero, i.size, i.bytes)) = some (some z, d.sz, bytes)) (hz : z.cells.size = d.sz) (hs0 : 0 < d.sz) (hb0 : 0 < bytes)
    {A : Option Addr} {m c : Nat} (ys : List α) (hs : evl N s S = v) (hx : evl N s X = .slice A m c) (HR : d.C W A m ys) (hKM : ∀ x cs, d.K W x cs → d.M W base (fun _ => False) x cs) (hbase : base ≤ W.heap.size) (hl : (xs.length + m) * bytes ≤ 140737488355328) (hp : Hp w0 cs W)
    (h : ∀ A' c' F' W', Hp w0 (cs.set i (row d e base (.slice A' (xs ++ ys).length c') (xs ++ ys) F')) W' → W.heap.size ≤ W'.heap.size → WL P ops Q rest (fr N ((q, .slice A' (xs ++ ys).length c') :: s)) W') : WL P ops Q (o :: rest) (fr N s) W := by
  refine ⟨?_⟩
  obtain ⟨h1, h2, h3⟩ := okB_spec hk
  have hrow := hp.at_ i _ hc
  refine Kd.R_append_rows d (w0 := W) (W := W) base h1 S X t e z bytes ho ht hinfo hz hs0 hb0 v xs ys A m c (fun k => F k ∨ W.heap.size ≤ k) (fun _ => False) (by rw [fr_eval]; exact hs) (by rw [fr_eval]; exact hx) (Kd.R_mono hrow.1 (fun k hk => .inl hk)) HR hKM (fun _ hk => hk.elim) (fun k hk => .inr hk) (Below.refl _ _) hbase hl ?_
  intro v1 w1 hR hB hG hat
  obtain ⟨A', c', rfl, hc', _⟩ := Kd.R_reads hR
  rw [h2, fr_put _ _ h3]
  refine (h A' c' (fun k => (F k ∨ W.heap.size ≤ k) ∧ base ≤ k ∧ k < w1.heap.size) w1 (hp.upd i _ _ hc ((Mv.of_grown hG).mono (fun k hk => hrow.1.1 k hk)) (row_of hR) (fun k hk => hk.1)) hG.size).out
/-- A literal. -/
theorem sx_lit (q : Nat) (hk : okB o q N = true) (d : Kd α) (base e : Nat) (xs : List α) (inner : List Value) (hr : ∀ W : World, (execOp (evl N s) o).run P W = .ok (.value (.slice (some ⟨W.heap.size, 0, none⟩) xs.length xs.length)) (W.alloc (.cells inner.toArray e (0, 0))))
    (hrep : Reps (d.M W base (fun _ => False)) d.sz xs inner) (hm : xs.length ≤ 9223372036854775807) (hbase : base ≤ W.heap.size) (hp : Hp w0 cs W)
    (h : ∀ g F' W', Hp w0 (row d e base (.slice (some ⟨g, 0, none⟩) xs.length xs.length) xs F' :: cs) W' → W.heap.size ≤ W'.heap.size → WL P ops Q rest (fr N ((q, .slice (some ⟨g, 0, none⟩) xs.length xs.length) :: s)) W') : WL P ops Q (o :: rest) (fr N s) W := by
  have hR : d.R e (W.alloc (.cells inner.toArray e (0, 0))) base (fun k => W.heap.size ≤ k) (.slice (some ⟨W.heap.size, 0, none⟩) xs.length xs.length) xs := by
    refine ⟨fun k hk => ?_, inner, ?_, ?_⟩
    · have : W.heap.size = k := by simpa [Value.ownBlock] using hk
      exact Nat.le_of_eq this
    · have h2 := World.ownsRow_lit (base := base) (e := e) (size := d.sz) W inner.toArray xs.length hbase (by simpa [maxLen] using hm) (by simpa using hrep.1)
      simpa using h2
    · refine hrep.imp_ (fun p c hp => d.M_mono (fun k hk => ?_) (Kd.M_below (d.M_bound hp) (below_alloc (Below.refl _ _) _)))
      exact hk.1.elim
  refine sx_val q _ hk (hr W) (h W.heap.size _ _ (hp.add (Mv.quiet (below_alloc (Below.refl _ _) _)) _ (row_of hR) (fun k hk => hk.1)) (below_alloc (Below.refl _ _) _).size)
/-- A store of a whole element into a row of the call's own. -/
theorem sx_rowstore {t : TypeId} {p x : Operand} (hk : noB o = true) (ho : o.op = .store t p x) (q : Nat) (d : Kd α) {e base n c g : Nat} {xs : List α} {F : Nat → Prop} (hc : cs[q]? = some (row d e base (.slice (some ⟨g, 0, none⟩) n c) xs F)) (i : Int) (x' : α) (seg : List Value)
    (ha : evl N s p = .pointer (some (adr (some ⟨g, 0, none⟩) i d.sz))) (hu : (evl N s x).cells.toList = seg) (hz : (P.info? t).map (·.size) = some seg.length) (h1 : ∀ q ∈ seg, q.oneCell' = true) (hsz : seg.length = d.sz) (h0 : 0 ≤ i) (hi : i < (n : Int)) (z : α) (hM : ∀ W : World, d.M W base (fun _ => False) x' seg)
    (hp : Hp w0 cs W) (h : ∀ F' W', Hp w0 (cs.set q (row d e base (.slice (some ⟨g, 0, none⟩) n c) (xs.set i.toNat x') F')) W' → WL P ops Q rest (fr N s) W') : WL P ops Q (o :: rest) (fr N s) W := by
  refine ⟨?_⟩
  obtain ⟨h1', h2'⟩ := noB_spec hk
  have hrow := hp.at_ q _ hc
  obtain ⟨c0, hcl, hM0, hcc, hfz⟩ := Kd.R_elem hrow.1 z i h0 hi
  refine Kd.R_store d (w0 := W) (W := W) base h2' h1' t p x ho e (g := g) i 0 xs x' (evl N s x) seg c0 F (fun _ => False) (o' := i.toNat * d.sz) (by rw [fr_eval, ha]; simp [adr, add_plain]) (by rw [Nat.add_zero]) (by rw [fr_eval]) hu hz h1 hrow.1 h0 hi hcl hcc (by rw [hsz, Nat.zero_add]; exact Nat.le_refl _) ?_ (fun _ hk => hk.elim) (Below.refl _ _) ?_
  · rw [List.take_zero, List.nil_append, List.drop_eq_nil_of_le (by rw [hcl, hsz, Nat.zero_add]; exact Nat.le_refl _), List.append_nil]
    exact hM W
  intro w1 hR hB hG
  exact (h (fun k => F k ∧ base ≤ k ∧ k < w1.heap.size) w1 (hp.upd q _ _ hc ((Mv.of_grown hG).mono (fun k hk => by injection hk with hk; subst hk; exact hrow.1.1 g (by simp [Value.ownBlock]))) (row_of hR) (fun k hk => .inl hk.1))).out
end
end Go.Proofs.YtokkiiepddhkiaaGreatDoor.Hd
