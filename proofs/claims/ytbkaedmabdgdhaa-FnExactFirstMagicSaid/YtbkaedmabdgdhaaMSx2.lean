/- The walk by slots: more words (several rows that a callee has made, results of several parts). -/
import Derived.Test.YtbkaedmabdgdhaaMSx
namespace Go.Proofs.Ytbkaedmabdgdhaa.Hd
open Go.RowKit Go.Proofs.YtbkaedmabdgdhaaW.PrintWords Go.Proofs.YtbkaedmabdgdhaaW.PrintLast Go.Proofs.YtbkaedmabdgdhaaW.PrintMore
set_option linter.unusedVariables false
/-- Where element i of a row lies. -/
def adr (A : Option Addr) (i : Int) (sz : Nat) : Addr := (A.getD ⟨0, 0, none⟩).add (i.toNat * sz)
section
variable {α : Type} {d : Kd α} {P : Program} {N : Nat} {s : List (Nat × Value)} {o : Oper} {W : World} {A : Option Addr} {n c : Nat} {xs : List α}
theorem ix_run (hC : d.C W A n xs) {t e : TypeId} {X I : Operand} {k : IntKind} {i : Int} (ho : o.op = .indexAddr t X I) (hX : evl N s X = .slice A n c) (hI : evl N s I = .int k i) (hu : P.underlying t = some (.slice e)) (hz : (P.info? e).map (·.size) = some d.sz) (h0 : 0 ≤ i) (h1 : i < (n : Int)) :
    (execOp (evl N s) o).run P W = .ok (.value (.pointer (some (adr A i d.sz)))) W := by
  obtain ⟨ad, rfl, _⟩ := hC.2.2 (by omega)
  obtain ⟨q, hq, hs⟩ := Option.map_eq_some_iff.1 hz
  unfold execOp
  simp only [ho, hX, hI]
  simp [Instr.indexAt, run_underlying hu, asIntOf, h0, h1, sizeOf, typeInfo, hq, hs, adr]
theorem el_cell (hC : d.C W A xs.length xs) (z : α) (i : Int) (h0 : 0 ≤ i) (h1 : i < (xs.length : Int)) {cells : List Value} (hop : ∀ cs, d.K W (xs.getD i.toNat z) cs → cs = cells) (j : Nat) (u : Value) (hj : cells[j]? = some u) : W.cell? ((adr A i d.sz).add j) = some u := by
  obtain ⟨ad, c, rfl, hcl, hK, hcell⟩ := ReadsRow.get_ hC z i h0 h1
  have := hop c hK
  subst this
  have h := hcell j u hj
  unfold adr
  rw [Option.getD_some, add_add]
  exact h
theorem el_run (hC : d.C W A xs.length xs) (z : α) (i : Int) (h0 : 0 ≤ i) (h1 : i < (xs.length : Int)) {cells : List Value} (hop : ∀ cs, d.K W (xs.getD i.toNat z) cs → cs = cells) (j : Nat) (seg : List Value) (hs : (cells.drop j).take seg.length = seg) {t : TypeId} {p : Operand} (ho : o.op = .load t p) (hp : evl N s p = .pointer (some ((adr A i d.sz).add j)))
    (ht : rowB P t = true) (hz : (P.info? t).map (·.size) = some seg.length) : (execOp (evl N s) o).run P W = .ok (.value (.agg seg.toArray)) W := by
  have hl : (loadCells ((adr A i d.sz).add j) seg.length).run P W = .ok seg.toArray W :=
    run_loadCells_list (P := P) W ((adr A i d.sz).add j) seg (fun q v hv => by
      rw [add_add]
      refine el_cell hC z i h0 h1 hop (j + q) v ?_
      rw [← hs, List.getElem?_take] at hv
      split at hv
      · rw [List.getElem?_drop] at hv; exact hv
      · cases hv)
  obtain ⟨q, hq, hsz⟩ := Option.map_eq_some_iff.1 hz
  have hagg : (isAgg t).run P W = .ok true W := by
    unfold rowB at ht
    cases hu : P.underlying t with
    | none => rw [hu] at ht; cases ht
    | some d =>
      unfold isAgg
      rw [Sem.run_bind, run_underlying hu W]
      rw [hu] at ht
      cases d <;> simp_all
  unfold execOp
  simp only [ho, hp, Instr.loadAt, Instr.sureAddr, Sem.run_bind, Sem.run_pure, Result.andThen_ok, loadVar, hagg]
  simp [sizeOf, typeInfo, hq, hsz, hl]
end
section
variable {α : Type} {P : Program} {ops : Array Oper} {Q : Exit → Act → World → Prop} {N : Nat} {s : List (Nat × Value)} {rest : List Oper} {o : Oper} {w0 W W' : World} {cs : List Chunk}
theorem row_C {d : Kd α} {e base : Nat} {A : Option Addr} {n c : Nat} {xs : List α} {F : Nat → Prop} (h : (row d e base (.slice A n c) xs F).ok W) : d.C W A xs.length xs := (Kd.R_reads' h.1).2.2
theorem row_R {d : Kd α} {e base : Nat} {v : Value} {xs : List α} {F : Nat → Prop} (h : (row d e base v xs F).ok W) : d.R e W base F v xs := h.1
theorem row_len {d : Kd α} {e base : Nat} {A : Option Addr} {n c : Nat} {xs : List α} {F : Nat → Prop} (h : (row d e base (.slice A n c) xs F).ok W) : n = xs.length ∧ n ≤ c := ⟨(Kd.R_reads' h.1).1, (Kd.R_reads' h.1).2.1⟩
theorem row_form {d : Kd α} {e base : Nat} {A : Option Addr} {n c : Nat} {xs : List α} {F : Nat → Prop} (h : (row d e base (.slice A n c) xs F).ok W) (h0 : 0 < xs.length) : ∃ g, A = some ⟨g, 0, none⟩ := by
  obtain ⟨g, cap, e1, _⟩ := Kd.R_form h.1 h0
  injection e1 with e2
  exact ⟨g, e2⟩
theorem row_of {d : Kd α} {e base : Nat} {v : Value} {xs : List α} {ok : Nat → Prop} (h : d.R e W base ok v xs) : (row d e base v xs (fun k => ok k ∧ base ≤ k ∧ k < W.heap.size)).ok W :=
  ⟨Kd.R_mono (Kd.R_bound h) (fun k hk => ⟨hk.1, hk.2.1, hk.2.2.1⟩), fun k hk => hk.2.2⟩
/-- A nil row. -/
theorem Hp.nilrow (hp : Hp w0 cs W) (d : Kd α) (e base : Nat) : Hp w0 (row d e base (.slice none 0 0) [] (fun _ => False) :: cs) W :=
  hp.add (Mv.refl _ _) _ ⟨Kd.R_nil d e W base _, fun k hk => hk.elim⟩ (fun k hk => hk.elim)
/-- A row that a callee has made. -/
theorem Hp.made (hp : Hp w0 cs W) {d : Kd α} {e : Nat} {v : Value} {xs : List α} {ok : Nat → Prop} (hb : Below W.heap.size W W') (h : d.R e W' W.heap.size ok v xs) : Hp w0 (row d e w0.heap.size v xs (fun k => ok k ∧ W.heap.size ≤ k ∧ k < W'.heap.size) :: cs) W' :=
  hp.add (Mv.quiet hb) _ ⟨Kd.R_lower (Kd.R_mono (Kd.R_bound h) (fun k hk => ⟨hk.1, hk.2.1, hk.2.2.1⟩)) hp.size, fun k hk => hk.2.2⟩ (fun k hk => hk.2.1)
/-- append: rows of the call's own grow. -/
theorem sx_append (q : Nat) (hk : okB o q N = true) (d : Kd α) (i : Nat) {e base : Nat} {v : Value} {xs : List α} {F : Nat → Prop} (hc : cs[i]? = some (row d e base v xs F)) {S X : Operand} {t : TypeId} (z : Value) (bytes : Nat)
    (ho : o.op = .call { callee := .builtin .append, args := #[S, X], argTypes := #[t, t] }) (ht : P.underlying t = some (.slice e)) (hinfo : (P.info? e).map (fun i => (i.zero, i.size, i.bytes)) = some (some z, d.sz, bytes)) (hz : z.cells.size = d.sz) (hs0 : 0 < d.sz) (hb0 : 0 < bytes)
    {A : Option Addr} {m c : Nat} (ys : List α) (hs : evl N s S = v) (hx : evl N s X = .slice A m c) (HR : d.C W A m ys) (hKM : ∀ x cs, d.K W x cs → d.M W base (fun _ => False) x cs) (hbase : base ≤ W.heap.size) (hl : (xs.length + m) * bytes ≤ 140737488355328) (hp : Hp w0 cs W)
    (h : ∀ A' c' F' W', Hp w0 (cs.set i (row d e base (.slice A' (xs ++ ys).length c') (xs ++ ys) F')) W' → W.heap.size ≤ W'.heap.size → WL P ops Q rest (fr N ((q, .slice A' (xs ++ ys).length c') :: s)) W') : WL P ops Q (o :: rest) (fr N s) W := by
  refine ⟨?_⟩
  obtain ⟨h1, h2, h3⟩ := okB_spec hk
  have hrow := hp.at_ i _ hc
  refine Kd.R_append_rows d (w0 := W) (W := W) base h1 S X t e z bytes ho ht hinfo hz hs0 hb0 v xs ys A m c (fun k => F k ∨ W.heap.size ≤ k) (fun _ => False) (by rw [fr_eval]; exact hs) (by rw [fr_eval]; exact hx) (Kd.R_mono hrow.1 (fun k hk => .inl hk)) HR hKM (fun _ hk => hk.elim) (fun k hk => .inr hk) (Below.refl _ _) hbase hl ?_
  intro v1 w1 hR hB hG hat
  obtain ⟨A', c', rfl, hc', _⟩ := Kd.R_reads hR
  rw [h2, fr_put _ _ h3]
  refine (h A' c' (fun k => (F k ∨ W.heap.size ≤ k) ∧ base ≤ k ∧ k < w1.heap.size) w1 (hp.upd i _ _ hc ((Mv.of_grown hG).mono (fun k hk => hrow.1.1 k hk)) (row_of hR) (fun k hk => hk.1)) hG.size).out
/-- A literal. -/
theorem sx_lit (q : Nat) (hk : okB o q N = true) (d : Kd α) (base e : Nat) (xs : List α) (inner : List Value) (hr : ∀ W : World, (execOp (evl N s) o).run P W = .ok (.value (.slice (some ⟨W.heap.size, 0, none⟩) xs.length xs.length)) (W.alloc (.cells inner.toArray e (0, 0))))
    (hrep : Reps (d.M W base (fun _ => False)) d.sz xs inner) (hm : xs.length ≤ 9223372036854775807) (hbase : base ≤ W.heap.size) (hp : Hp w0 cs W)
    (h : ∀ g F' W', Hp w0 (row d e base (.slice (some ⟨g, 0, none⟩) xs.length xs.length) xs F' :: cs) W' → W.heap.size ≤ W'.heap.size → WL P ops Q rest (fr N ((q, .slice (some ⟨g, 0, none⟩) xs.length xs.length) :: s)) W') : WL P ops Q (o :: rest) (fr N s) W := by
  have hR : d.R e (W.alloc (.cells inner.toArray e (0, 0))) base (fun k => W.heap.size ≤ k) (.slice (some ⟨W.heap.size, 0, none⟩) xs.length xs.length) xs := by
    refine ⟨fun k hk => ?_, inner, ?_, ?_⟩
    · have : W.heap.size = k := by simpa [Value.ownBlock] using hk
      exact Nat.le_of_eq this
    · have h2 := World.ownsRow_lit (base := base) (e := e) (size := d.sz) W inner.toArray xs.length hbase (by simpa [maxLen] using hm) (by simpa using hrep.1)
      simpa using h2
    · refine hrep.imp_ (fun p c hp => d.M_mono (fun k hk => ?_) (Kd.M_below (d.M_bound hp) (below_alloc (Below.refl _ _) _)))
      exact hk.1.elim
  refine sx_val q _ hk (hr W) (h W.heap.size _ _ (hp.add (Mv.quiet (below_alloc (Below.refl _ _) _)) _ (row_of hR) (fun k hk => hk.1)) (below_alloc (Below.refl _ _) _).size)
end
end Go.Proofs.Ytbkaedmabdgdhaa.Hd
namespace Go.Proofs.Ytbkaedmabdgdhaa.Hd
open Go.RowKit Go.Proofs.YtbkaedmabdgdhaaW.PrintWords Go.Proofs.YtbkaedmabdgdhaaW.PrintLast Go.Proofs.YtbkaedmabdgdhaaW.PrintMore
set_option linter.unusedVariables false
section
variable {w0 W W' : World} {cs : List Chunk}
/-- A flat row, told by its own block alone. -/
def own1 (v : Value) (lo hi : Nat) (k : Nat) : Prop := some k = v.ownBlock ∧ lo ≤ k ∧ k < hi
theorem row_own {α : Type} {d : Kd α} {e base lo : Nat} {v : Value} {xs : List α} {ok : Nat → Prop} (hE : d.E = []) (h : d.R e W lo ok v xs) (hb : base ≤ lo) : (row d e base v xs (own1 v lo W.heap.size)).ok W :=
  ⟨Kd.R_lower (Kd.R_mono (Kd.R_bound (Kd.R_tight hE h)) (fun k hk => ⟨hk.1, hk.2.1, hk.2.2.1⟩)) hb, fun k hk => hk.2.2⟩
end
section
variable {P : Program} {N : Nat} {s : List (Nat × Value)} {W : World}
end
inductive STree where
  | fin : STree
  | rd (i : Nat) (t : STree) : STree
  | alt (i : Nat) (s t : STree) : STree
  | non : STree
def STree.depth : STree → Nat
  | .fin => 0
  | .rd _ t => t.depth + 1
  | .alt _ s _ => s.depth + 1
  | .non => 0
def STree.isNon : STree → Bool
  | .non => true
  | _ => false
section
variable {P : Program} {ops : Array Oper} {md : Region.Mode} {C : World → Prop} {Q : Exit → Act → World → Prop} {T : List Nat}
theorem wpOp_ev {j : Nat} {o : Oper} {a : Act} {w : World} {K : Act → World → Prop} (hj : ops[j]? = some o) (h : wpList P ops (evQ Q K) [o] a w) : wpOp P ops Q j K a w := by
  unfold wpOp
  simp only [hj]
  simp only [wpList] at h
  split
  · rename_i hw
    rw [if_pos hw] at h
    rcases h with h | ⟨h1, h2⟩
    · exact .inl (wp_evQ h)
    · exact .inr ⟨h1, h2⟩
  · rename_i hw
    rw [if_neg hw] at h
    exact h
def treeI (P : Program) (ops : Array Oper) (Q : Exit → Act → World → Prop) (C : World → Prop) (l : List Oper) (K : Act → World → Prop) : STree → Act → World → Prop
  | .fin, a, w => K a w
  | .rd i t, a, w => ∀ o, l[i]? = some o → wpQuiet P ops C (fun a' => treeI P ops Q C l K t a' w) [o] a
  | .alt i s t, a, w => (∀ o, l[i]? = some o → wpList P ops (evQ Q (fun a' w' => C w' ∧ treeI P ops Q C l K s a' w')) [o] a w) ∧ treeI P ops Q C l K t a w
  | .non, _, _ => True
def treeB (md : Region.Mode) (ops : Array Oper) (T : List Nat) (last : Array Bool) : Option (List Nat) → STree → Array Bool → Bool
  | q, .fin, listed => q.isNone && decide (listed = last)
  | q, .rd i t, listed => q.isNone && decide (i < ops.size) && batchB md ops T [i] listed && treeB md ops T last none t (listed.setIfInBounds i true)
  | q, .alt i s t, listed => match q.getD (Region.ready md ops listed) with
    | [] => false
    | j :: r => decide (j = i) && decide (i < ops.size) && (t.isNon || decide (t.depth = s.depth + 1)) && treeB md ops T last none s (listed.setIfInBounds i true) && treeB md ops T last (some r) t listed
  | q, .non, _ => match q with | some [] => true | _ => false
theorem G_tree {l : List Oper} {K : Act → World → Prop} {last : Array Bool} {g : Nat} (hsel : Region.noSelect l.toArray = true) (hQ : ∀ d v c a w, Q (.panic c) (Act.put a d v) w → Q (.panic c) a w) (hK : ∀ a w, Closed md l.toArray last → K a w → anyG P md l.toArray Q C T g last a w) :
    ∀ (t : STree) (listed : Array Bool) (a : Act) (w : World), Closed md l.toArray listed → C w → treeI P l.toArray Q C l K t a w →
      (treeB md l.toArray T last none t listed = true → anyG P md l.toArray Q C T (g + t.depth) listed a w) ∧
      (∀ r d, treeB md l.toArray T last (some r) t listed = true → (t.isNon = true ∨ t.depth = d + 1) → ∀ j ∈ r, j ∈ Region.ready md l.toArray listed → wpOp P l.toArray Q j (fun a' w' => (T.contains j = false → C w') ∧ anyG P md l.toArray Q C T (g + d) (listed.setIfInBounds j true) a' w') a w) := by
  intro t
  induction t with
  | fin =>
    intro listed a w hcl hC h
    refine ⟨fun hB => ?_, fun r d hB => by simp [treeB] at hB⟩
    have e : listed = last := by simpa [treeB] using hB
    subst e
    exact hK a w hcl h
  | rd i t ih =>
    intro listed a w hcl hC h
    refine ⟨fun hB => ?_, fun r d hB => by simp [treeB] at hB⟩
    simp only [treeB, Bool.and_eq_true, decide_eq_true_eq] at hB
    have hi : i < l.length := by simpa using hB.1.1.2
    have e : l[i]? = some l[i] := List.getElem?_eq_getElem hi
    have hG := G_batch (P := P) (md := md) (C := C) (T := T) (Q := Q) hsel hQ (f := g + t.depth) (w := w) hC [i] [l[i]] listed a (by simp [e]) hcl hB.1.2 (wpQuiet_mono' (fun a1 h1 hcl1 => (ih _ a1 w hcl1 hC h1).1 hB.2) [l[i]] a (h l[i] e))
    exact hG
  | non =>
    intro listed a w hcl hC h
    refine ⟨fun hB => by simp [treeB] at hB, fun r d hB hd j hj => ?_⟩
    cases r with
    | nil => cases hj
    | cons x r => simp [treeB] at hB
  | alt i s t ih1 ih2 =>
    intro listed a w hcl hC h
    have key : ∀ r0 d, treeB md l.toArray T last (some r0) (.alt i s t) listed = true → s.depth = d → ∀ j ∈ r0, j ∈ Region.ready md l.toArray listed → wpOp P l.toArray Q j (fun a' w' => (T.contains j = false → C w') ∧ anyG P md l.toArray Q C T (g + d) (listed.setIfInBounds j true) a' w') a w := by
      intro r0 d hB hd j hj hr
      cases r0 with
      | nil => cases hj
      | cons x r =>
        simp only [treeB, Option.getD_some, Bool.and_eq_true, decide_eq_true_eq, Bool.or_eq_true] at hB
        obtain ⟨⟨⟨⟨hx, hi⟩, hdt⟩, hb1⟩, hb2⟩ := hB
        subst hx
        have hi : x < l.length := by simpa using hi
        have ei : l[x]? = some l[x] := List.getElem?_eq_getElem hi
        rcases List.mem_cons.1 hj with rfl | hj
        · have hcl' := hcl.set hr
          refine wpOp_mono (fun a' w' h' => ⟨fun _ => h'.1, ?_⟩) (wpOp_ev (by rw [List.getElem?_toArray, ei]) (h.1 l[j] ei))
          have := (ih1 _ a' w' hcl' h'.1 h'.2).1 hb1
          rw [hd] at this
          exact this
        · exact (ih2 listed a w hcl hC h.2).2 r d hb2 (hdt.imp (fun q => q) (fun q => by omega)) j hj hr
    refine ⟨fun hB => ?_, fun r d hB hd => key r d hB (hd.elim (fun q => by simp [STree.isNon] at q) (fun q => by simpa [STree.depth] using q))⟩
    have hB' : treeB md l.toArray T last (some (Region.ready md l.toArray listed)) (.alt i s t) listed = true := by simpa [treeB] using hB
    refine ⟨fun h0 => ?_, fun j hj => key _ s.depth hB' rfl j hj hj⟩
    rw [h0] at hB'
    simp [treeB] at hB'
theorem treeI_mono {l : List Oper} {K K' : Act → World → Prop} (hK : ∀ a w, K a w → K' a w) : ∀ (t : STree) (a : Act) (w : World), treeI P ops Q C l K t a w → treeI P ops Q C l K' t a w := by
  intro t
  induction t with
  | fin => intro a w h; exact hK a w h
  | rd i t ih => intro a w h o ho; exact wpQuiet_mono' (fun a1 h1 => ih a1 w h1) [o] a (h o ho)
  | alt i s t ih1 ih2 => intro a w h; exact ⟨fun o ho => wpList_one_mono (fun a' w' h' => ⟨h'.1, ih1 a' w' h'.2⟩) (h.1 o ho), ih2 a w h.2⟩
  | non => intro a w _; trivial
end
section
variable {P : Program} {Q : Exit → Act → World → Prop} {N : Nat} {s : List (Nat × Value)} {W : World} {C : World → Prop} {ops : Array Oper} {l : List Oper} {K : Act → World → Prop} {a : Act}
theorem treeI_fin (h : K a W) : treeI P ops Q C l K .fin a W := h
theorem treeI_rd {i : Nat} {o : Oper} {t : STree} (ho : l[i]? = some o) (h : WQ P ops C (fun a' => treeI P ops Q C l K t a' W) [o] a) : treeI P ops Q C l K (.rd i t) a W :=
  fun o' ho' => by rw [ho] at ho'; injection ho' with e; exact e ▸ h.out
theorem treeI_ev {i : Nat} {o : Oper} {t : STree} (ho : l[i]? = some o) (h : WL P ops (evQ Q (fun a' w' => C w' ∧ treeI P ops Q C l K t a' w')) [o] a W) : treeI P ops Q C l K (.alt i t .non) a W :=
  ⟨fun o' ho' => by rw [ho] at ho'; injection ho' with e; exact e ▸ h.out, trivial⟩
theorem treeI_alt {i : Nat} {o : Oper} {u v : STree} (ho : l[i]? = some o) (h1 : WL P ops (evQ Q (fun a' w' => C w' ∧ treeI P ops Q C l K u a' w')) [o] a W) (h2 : treeI P ops Q C l K v a W) : treeI P ops Q C l K (.alt i u v) a W :=
  ⟨fun o' ho' => by rw [ho] at ho'; injection ho' with e; exact e ▸ h1.out, h2⟩
theorem treeI_non : treeI P ops Q C l K .non a W := trivial
def treeAllB (l : List Oper) (pre : List Nat) (t : STree) (k : Nat) : Bool :=
  let ops := l.toArray
  let T := List.range' k (l.length - k)
  let s1 := setAll pre (Array.replicate ops.size false)
  let s3 := (Array.range ops.size).map (fun i => decide (i < k))
  pre.all (fun i => decide (i < l.length)) && Region.noSelect ops && batchB .any ops [] pre (Array.replicate ops.size false) && treeB .any ops T s3 none t s1 && Region.seqB .any ops (l.length - k) k s3 && decide (k ≤ l.length) && decide (pre.length + t.depth + (l.length - k) = l.length)
theorem sx_drawT {id : Nat} {l : List Oper} (pre : List Nat) (t : STree) (k : Nat) (hm : P.follows .mixedOrders = true) (hB : treeAllB l pre t k = true) (hQ : ∀ d v c a w, Q (.panic c) (Act.put a d v) w → Q (.panic c) a w)
    (hC : ∀ W, C W → C W.drew) (hW : C W) (h' : preI P l.toArray l (fun a => ∀ W, C W → treeI P l.toArray Q C l (WL P l.toArray Q (l.drop k)) t a W) pre (fr N s)) : (Code.region id l.toArray true).wp P Q (fr N s) W := by
  simp only [treeAllB, Bool.and_eq_true, decide_eq_true_eq] at hB
  obtain ⟨⟨⟨⟨⟨⟨r1, hsel⟩, hb1⟩, hb3⟩, hb4⟩, hk⟩, hn⟩ := hB
  have hsz : l.toArray.size = l.length := by simp
  have h := preI_quiet pre r1 _ h'
  refine region_G (C := fun _ => True) (T := []) hm (fun hcl => ?_)
  have e1 : l.toArray.size = (t.depth + (l.length - k)) + pre.length := by rw [hsz]; omega
  have G1 := G_batch (P := P) (md := .any) (C := fun _ => True) (T := []) (Q := Q) hsel hQ (f := t.depth + (l.length - k)) (w := W.drew) trivial pre (pick l pre) (Array.replicate l.toArray.size false) (fr N s) (pick_map r1) hcl hb1 (wpQuiet_mono' (fun a1 h1 hcl1 => ?_) (pick l pre) (fr N s) h)
  · rw [← e1] at G1; exact G1
  · refine G_weaken (C := C) (T := List.range' k (l.length - k)) _ _ _ _ ?_
    rw [Nat.add_comm]
    refine (G_tree hsel hQ (fun a3 w3 hcl3 h3 => ?_) t _ a1 W.drew hcl1 (hC W hW) (h1 W.drew (hC W hW))).1 hb3
    have hdl : (l.drop k).length = l.length - k := by simp
    rw [← hdl]
    refine G_tail (l.drop k) k _ a3 w3 (fun j => by simp [List.getElem?_drop]) (by rw [hdl]; exact hb4) (fun j hj => ?_) h3.out
    rw [hdl] at hj
    simp
    omega
/-- The same, with a word on what holds ahead of the tail: the tail is walked once. -/
theorem sx_drawI {id : Nat} {l : List Oper} (I : Act → World → Prop) (pre : List Nat) (t : STree) (k : Nat) (hm : P.follows .mixedOrders = true) (hB : treeAllB l pre t k = true) (hQ : ∀ d v c a w, Q (.panic c) (Act.put a d v) w → Q (.panic c) a w)
    (hC : ∀ W, C W → C W.drew) (hW : C W) (h' : preI P l.toArray l (fun a => ∀ W, C W → treeI P l.toArray Q C l I t a W) pre (fr N s)) (hI : ∀ a W, I a W → WL P l.toArray Q (l.drop k) a W) : (Code.region id l.toArray true).wp P Q (fr N s) W := by
  refine sx_drawT pre t k hm hB hQ hC hW ?_
  have key : ∀ (pre : List Nat) (a : Act), preI P l.toArray l (fun a => ∀ W, C W → treeI P l.toArray Q C l I t a W) pre a → preI P l.toArray l (fun a => ∀ W, C W → treeI P l.toArray Q C l (WL P l.toArray Q (l.drop k)) t a W) pre a := by
    intro pre
    induction pre with
    | nil => intro a h W hW; exact treeI_mono hI t a W (h W hW)
    | cons i r ih => intro a h o ho; exact wpQuiet_mono' (fun a1 h1 => ih a1 h1) [o] a (h o ho)
  exact key pre _ h'
end
end Go.Proofs.Ytbkaedmabdgdhaa.Hd
