/- A region that draws its order, walked in one order of the prover's choice: operations that only read (in every world of a class C) are taken as soon as they may come up; any other operation is met when it alone may come up. -/
import Derived.Test.YtokkiiepddhkiaaGreatDoorG0
import Derived.StillTail
namespace Go.Proofs.YtokkiiepddhkiaaGreatDoor.Hd
open Go.RowKit Go.Proofs.YtokkiiepddhkiaaGreatDoorW.PrintWords Go.Proofs.YtokkiiepddhkiaaGreatDoorW.PrintLast Go.Proofs.YtokkiiepddhkiaaGreatDoorW.PrintMore
set_option linter.unusedVariables false
/-- A world behind w, in which all that w has is as it was. -/
def After (w : World) : Type := {W : World // Below w.heap.size w W}
instance (w : World) : Inhabited (After w) := ⟨⟨w, Below.refl _ _⟩⟩
theorem After.cell {w : World} {ad : Addr} {v : Value} (h : w.cell? ad = some v) (x : After w) : x.1.cell? ad = some v := pw_cell_below x.2 h
theorem After.call {w : World} {P : Program} {f : FuncId} {args : Array Value} {v : Value} (x : After w) (h : Calls P f args x.1 fun e w' => e = .returned v ∧ Below x.1.heap.size x.1 w') :
    Calls P f args x.1 fun e w'' => e = .returned v ∧ ∃ y : After w, w'' = y.1 :=
  h.mono fun _ w' ⟨he, hb⟩ => ⟨he, ⟨w', below_then x.2 x.2.size hb⟩, rfl⟩
section
variable {P : Program} {ops : Array Oper} {md : Region.Mode} {C : World → Prop}
end
theorem cellv {w : World} {g : Nat} {cs : Array Value} {T : TypeId} (h : w.heap[g]? = some (.cells cs T (0, 0))) (i : Nat) (v : Value) (e : cs[i]? = some v) : w.cell? ⟨g, i, none⟩ = some v := (blk_cell h i).trans e
section
variable {P : Program} {ops : Array Oper} {rest : List Oper} {o : Oper} {a : Act} {Q : Exit → Act → World → Prop}
/-- A store into a block that is known whole. -/
theorem store_blk {W : World} (hN : o.dst = none) (hgd : o.guard = none) (t : TypeId) (p x : Operand) (ho : o.op = .store t p x) {g j : Nat} {cs : Array Value} {T : TypeId} (u : Value) (seg : List Value) (cs' : Array Value)
    (haddr : a.eval p = .pointer (some ⟨g, j, none⟩)) (hx : a.eval x = u) (hu : u.cells.toList = seg) (ht : (P.info? t).map (·.size) = some seg.length) (h1 : ∀ q ∈ seg, q.oneCell' = true)
    (hb : W.heap[g]? = some (.cells cs T (0, 0))) (hfit : j + seg.length ≤ cs.size) (hcs : cs.toList.take j ++ seg ++ cs.toList.drop (j + seg.length) = cs'.toList)
    (h : ∀ w1 : World, w1.heap[g]? = some (.cells cs' T (0, 0)) → W.grownBy w1 (some g) → w1.heap.size = W.heap.size → wpList P ops Q rest a w1) : wpList P ops Q (o :: rest) a W := by
  obtain ⟨cur', h3, h4, h5⟩ := setCells_row seg j W cs hb hfit
  obtain ⟨s1, s2, s3, s4⟩ := setCells_same g seg j W
  have e : cur' = cs' := by
    apply Array.toList_inj.1
    rw [h5, hcs]
  subst e
  refine wpList_plain hgd fun K hK => ?_
  have hrun := run_store_run (P := P) (w := W) (o := j) t u seg hb hu ht hfit h1
  unfold Oper.wp execOp
  simp only [ho, haddr, hx, Sem.run_bind, Sem.run_pure, Result.andThen_ok, hrun]
  show K (a.put o.dst undef) _
  rw [hN]
  exact hK a _ (h _ h3 ⟨s1, s2, s3, by rw [s4]; exact Nat.le_refl _, fun k _ hk => setCells_far seg _ k (fun he => hk (by rw [he]))⟩ s4)
end
end Go.Proofs.YtokkiiepddhkiaaGreatDoor.Hd
namespace Go.Proofs.YtokkiiepddhkiaaGreatDoor.Hd
open Go.RowKit Go.Proofs.YtokkiiepddhkiaaGreatDoorW.PrintWords Go.Proofs.YtokkiiepddhkiaaGreatDoorW.PrintLast Go.Proofs.YtokkiiepddhkiaaGreatDoorW.PrintMore
set_option linter.unusedVariables false
/-- By its form alone: it is no call of a Go function, and hands back a value. -/
def onlyValue (o : Oper) : Bool :=
  match o.op with
  | .move _ | .assign _ | .pick .. | .build .. | .load .. | .binOp .. | .unOp .. | .convert .. | .makeFunc .. | .slice .. | .fieldAddr .. | .field .. | .indexAddr .. | .index .. | .extract .. => true
  | .nilCheck _ => true
  | .call { callee := .builtin .len, .. } | .call { callee := .builtin .min, .. } | .call { callee := .builtin .max, .. } => true
  | _ => false
/-- What it comes to is a value. -/
def isValue (P : Program) (s : Sem Next) : Prop := ∀ w w' n, s.run P w = .ok n w' → ∃ u, n = .value u
theorem isValue_bind {P : Program} {α : Type} {s : Sem α} {k : α → Sem Next} (h : ∀ x, isValue P (k x)) : isValue P (s >>= k) := by
  intro w w' n he
  rw [Sem.run_bind] at he
  cases hs : s.run P w with
  | ok u w1 =>
    rw [hs] at he
    exact h u w1 w' n he
  | halt x w1 =>
    rw [hs] at he
    cases he
theorem isValue_value {P : Program} (v : Value) : isValue P (pure (.value v)) := by
  intro w w' n he
  rw [Sem.run_pure] at he
  injection he with h1 _
  exact ⟨v, h1.symm⟩
theorem isValue_halt {P : Program} (x : Halt) : isValue P (.halt x) := by
  intro w w' n he
  cases he
theorem isValue_panic {P : Program} : isValue P (runtimePanic .nilDeref) := isValue_bind (fun _ => (show isValue P (goPanic _) from isValue_halt _))
theorem isValue_nil {P : Program} (x : Value) : isValue P (execOp (fun _ => x) ⟨none, .nilCheck (.const x), 0, "", #[], none⟩) := by
  unfold execOp
  dsimp only
  split
  · exact isValue_panic
  · exact isValue_panic
  · exact isValue_panic
  · split
    · exact isValue_panic
    · refine isValue_bind (fun p => isValue_bind (fun q => ?_))
      split
      · exact isValue_bind (fun _ => isValue_value _)
      · exact isValue_value _
    · exact isValue_value _
  · exact isValue_value _
theorem onlyValue_spec {P : Program} {o : Oper} {ρ : Operand → Value} (ho : onlyValue o = true) : isValue P (execOp ρ o) := by
  unfold onlyValue at ho
  unfold execOp
  split at ho <;> try (cases ho)
  all_goals (rename_i he; simp only [he])
  all_goals first
    | exact isValue_value _
    | exact isValue_bind (fun _ => isValue_value _)
    | exact (show isValue P (Bind.bind (Builtin.len_ _ _ _) (fun x => pure (Next.value x))) from isValue_bind (fun _ => isValue_value _))
    | exact (show isValue P (Bind.bind (Builtin.min_ _ _ _) (fun x => pure (Next.value x))) from isValue_bind (fun _ => isValue_value _))
    | exact (show isValue P (Bind.bind (Builtin.max_ _ _ _) (fun x => pure (Next.value x))) from isValue_bind (fun _ => isValue_value _))
    | exact isValue_nil (P := P) _
    | trace_state
section
variable {P : Program} {ops : Array Oper} {md : Region.Mode} {C : World → Prop} {Q : Exit → Act → World → Prop} {T : List Nat}
/-- r is ahead of t along the edges. -/
def forced (md : Region.Mode) (ops : Array Oper) : Nat → Nat → Nat → Bool
  | 0, _, _ => false
  | n + 1, r, t => match ops[t]? with
    | some o => o.after.any fun e => Region.binds md e && (e.on == r || forced md ops n r e.on)
    | none => false
def Closed (md : Region.Mode) (ops : Array Oper) (listed : Array Bool) : Prop := ∀ j oj, ops[j]? = some oj → listed.getD j false = true → ∀ e ∈ oj.after, Region.binds md e = true → listed.getD e.on false = true
theorem Closed.set {listed : Array Bool} (h : Closed md ops listed) {i : Nat} (hi : i ∈ Region.ready md ops listed) : Closed md ops (listed.setIfInBounds i true) := by
  intro j oj hj hl e he hb
  obtain ⟨_, oi, hoi, hall⟩ := mem_ready.1 hi
  by_cases hij : i = j
  · subst hij
    obtain rfl : oj = oi := Option.some.inj (hj.symm.trans hoi)
    exact getD_set_true (hall e he hb)
  · rw [getD_set_ne false hij] at hl
    exact getD_set_true (h j oj hj hl e he hb)
theorem forced_listed {listed : Array Bool} (h : Closed md ops listed) : ∀ (n r t : Nat), forced md ops n r t = true → (∀ o, ops[t]? = some o → ∀ e ∈ o.after, Region.binds md e = true → listed.getD e.on false = true) → listed.getD r false = true := by
  intro n
  induction n with
  | zero => intro r t hf; cases hf
  | succ n ih =>
    intro r t hf hd
    unfold forced at hf
    split at hf
    · rename_i o ho
      obtain ⟨e, he, hb⟩ := Array.any_eq_true'.1 hf
      rw [Bool.and_eq_true, Bool.or_eq_true, beq_iff_eq] at hb
      have hl := hd o ho e he hb.1
      rcases hb.2 with h1 | h1
      · rw [← h1]; exact hl
      · exact ih r e.on h1 (fun o' ho' => h e.on o' ho' hl)
    · cases hf
/-- Whatever order is picked; behind every operation that is none of T a world of the class. -/
def anyG (P : Program) (md : Region.Mode) (ops : Array Oper) (Q : Exit → Act → World → Prop) (C : World → Prop) (T : List Nat) : Nat → Array Bool → Act → World → Prop
  | 0, listed, a, w => Region.ready md ops listed = [] ∧ Q .normal a w
  | f + 1, listed, a, w => (Region.ready md ops listed = [] → Q .normal a w) ∧
    ∀ j ∈ Region.ready md ops listed, wpOp P ops Q j (fun a' w' => (T.contains j = false → C w') ∧ anyG P md ops Q C T f (listed.setIfInBounds j true) a' w') a w
theorem any_of_G : ∀ (f : Nat) (listed : Array Bool) (a : Act) (w : World), anyG P md ops Q C T f listed a w → wpAny P md ops Q f listed a w := by
  intro f
  induction f with
  | zero => intro _ _ _ h; exact h
  | succ f ih => intro listed a w h; exact ⟨h.1, fun i hi => wpOp_mono (fun a' w' h' => ih _ a' w' h'.2) (h.2 i hi)⟩
theorem G_first {i n : Nat} {oi : Oper} {v : Value} (hi : ops[i]? = some oi) (hsel : ∀ (j : Nat) (o : Oper) cs b, ops[j]? = some o → o.op ≠ .select cs b)
    (hQ : ∀ c a w, Q (.panic c) (a.put oi.dst v) w → Q (.panic c) a w) (hT : ∀ t, T.contains t = true → forced md ops n i t = true) :
    ∀ (f : Nat) (listed : Array Bool) (a : Act) (w : World), Closed md ops listed →
      (∀ j oj, ops[j]? = some oj → j ≠ i → listed.getD j true = false → (∀ e ∈ oj.after, Region.binds md e = true → e.on ≠ i) → oi.apart ops oj = true) →
      i ∈ Region.ready md ops listed → YieldsIf P ops C oi v a → C w → anyG P md ops Q C T f (listed.setIfInBounds i true) (a.put oi.dst v) w → anyG P md ops Q C T (f + 1) listed a w := by
  intro f
  induction f with
  | zero =>
    intro listed a w _ _ hr hy hC H
    refine ⟨fun h0 => (by rw [h0] at hr; cases hr), fun j hj => ?_⟩
    by_cases hji : j = i
    · subst hji; exact hy.wpOp hi hC ⟨fun _ => hC, H⟩
    · have := ready_mono hj hji
      rw [H.1] at this
      cases this
  | succ f ih =>
    intro listed a w hcl hfree hr hy hC H
    refine ⟨fun h0 => (by rw [h0] at hr; cases hr), fun j hj => ?_⟩
    by_cases hji : j = i
    · subst hji; exact hy.wpOp hi hC ⟨fun _ => hC, H⟩
    obtain ⟨hju, oj, hoj, hall⟩ := mem_ready.1 hj
    have hun : listed.getD i false = true → False := fun h => by rw [getD_both (mem_ready.1 hr).1] at h; cases h
    have hno : ∀ e ∈ oj.after, Region.binds md e = true → e.on ≠ i := fun e he hb q => hun (q ▸ hall e he hb)
    have hjT : T.contains j = false := by
      cases hc : T.contains j with
      | false => rfl
      | true => exact (hun (forced_listed hcl n i j (hT j hc) (fun o ho e he hb => by
          obtain rfl : o = oj := Option.some.inj (ho.symm.trans hoj)
          exact hall e he hb))).elim
    have h2 := wpOp_putIf hoj (hfree j oj hoj hji hju hno) (fun cs b => hsel i oi cs b hi) (fun cs b => hsel j oj cs b hoj) hQ hy (H.2 j (ready_mono hj hji))
    refine wpOp_mono (fun a' w' h3 => ?_) h2
    have hC' := h3.2.1 hjT
    refine ⟨fun _ => hC', ih (listed.setIfInBounds j true) a' w' (hcl.set hj) (fun k ok hk hki hun2 hno2 => hfree k ok hk hki ?_ hno2) (ready_mono hr (Ne.symm hji)) h3.1 hC' ?_⟩
    · by_cases hjk : j = k
      · subst hjk; exact hju
      · rwa [getD_set_ne true hjk] at hun2
    · rw [Array.setIfInBounds_comm _ _ hji]; exact h3.2.2
/-- A run of reads: each may come up, is a value by its form, is apart from what may come ahead of it, and is ahead of all of T. -/
def batchB (md : Region.Mode) (ops : Array Oper) (T : List Nat) : List Nat → Array Bool → Bool
  | [], _ => true
  | i :: is, listed => (Region.ready md ops listed).contains i && Region.free md ops listed i && (match ops[i]? with | some o => onlyValue o | none => false) && T.all (fun t => forced md ops 12 i t) && batchB md ops T is (listed.setIfInBounds i true)
theorem yieldsIf_of_in {o : Oper} {v : Value} {a : Act} (ho : onlyValue o = true) (h : YieldsIn P ops C o v a) : YieldsIf P ops C o v a := by
  rcases h with ⟨hw, h⟩ | h
  · refine .inl ⟨hw, fun w hC => ?_⟩
    have h1 := h w hC
    unfold Oper.quietAt at h1
    cases hr : (execOp a.eval o).run P w with
    | ok n w' =>
      rw [hr] at h1
      obtain ⟨u, rfl⟩ := onlyValue_spec (P := P) (ρ := a.eval) ho w w' n hr
      obtain ⟨rfl, rfl⟩ := h1
      rfl
    | halt x w' => rw [hr] at h1; cases h1
  · exact .inr h
theorem G_batch (hsel : Region.noSelect ops = true) (hQ : ∀ d v c a w, Q (.panic c) (Act.put a d v) w → Q (.panic c) a w) {f : Nat} {w : World} (hC : C w) :
    ∀ (is : List Nat) (l : List Oper) (listed : Array Bool) (a : Act), is.map (fun i => ops[i]?) = l.map some → Closed md ops listed → batchB md ops T is listed = true →
      wpQuiet P ops C (fun a' => Closed md ops (is.foldl (fun s i => s.setIfInBounds i true) listed) → anyG P md ops Q C T f (is.foldl (fun s i => s.setIfInBounds i true) listed) a' w) l a → anyG P md ops Q C T (f + is.length) listed a w := by
  intro is
  induction is with
  | nil =>
    intro l listed a hl hcl _ h
    obtain rfl : l = [] := by cases l with | nil => rfl | cons _ _ => simp at hl
    exact h hcl
  | cons i is ih =>
    intro l listed a hl hcl hB h
    cases l with
    | nil => simp at hl
    | cons o l =>
      simp only [List.map_cons, List.cons.injEq] at hl
      have h0 : ops[i]? = some o := hl.1
      simp only [batchB, h0, Bool.and_eq_true] at hB
      obtain ⟨⟨⟨⟨hr, hf⟩, ho⟩, hT⟩, hB'⟩ := hB
      have hr' : i ∈ Region.ready md ops listed := by simpa using hr
      have hst : qOp P ops C i (wpQuiet P ops C (fun a' => Closed md ops ((i :: is).foldl (fun s i => s.setIfInBounds i true) listed) → anyG P md ops Q C T f ((i :: is).foldl (fun s i => s.setIfInBounds i true) listed) a' w) l) a := by unfold qOp; simp only [h0]; exact h
      obtain ⟨v, hy, hK⟩ := yieldsIn_of_qOp h0 hst
      rw [List.length_cons, ← Nat.add_assoc]
      refine G_first h0 (Region.noSelect_spec hsel) (fun c a w => hQ _ v c a w) (n := 12) (fun t ht => List.all_eq_true.1 hT t (by simpa using ht)) (f + is.length) listed a w hcl (Region.free_spec h0 hf) hr' (yieldsIf_of_in ho hy) hC ?_
      exact ih l (listed.setIfInBounds i true) (a.put o.dst v) hl.2 (hcl.set hr') hB' hK
/-- What is left of a region behind one operation. -/
def evQ (Q : Exit → Act → World → Prop) (K : Act → World → Prop) : Exit → Act → World → Prop
  | .normal, a, w => K a w
  | e, a, w => Q e a w
theorem wp_evQ {o : Oper} {a : Act} {w : World} {K : Act → World → Prop} (h : o.wp P a w (evQ Q K .normal) (evQ Q K)) : o.wp P a w K Q := by
  unfold Oper.wp at *
  generalize (execOp a.eval o).run P w = r at *
  cases r with
  | ok n w' =>
    cases n <;> simp only [Oper.upon] at h ⊢ <;> first
      | exact h
      | exact Calls.mono h (fun e w'' he => by cases e <;> exact he)
  | halt x w' => cases x <;> simp only [Oper.upon] at h ⊢ <;> exact h
/-- The rest of a region comes in one order alone. -/
theorem G_tail : ∀ (l : List Oper) (k : Nat) (listed : Array Bool) (a : Act) (w : World), (∀ j, l[j]? = ops[k + j]?) → Region.seqB md ops l.length k listed = true → (∀ j, j < l.length → T.contains (k + j) = true) →
    wpList P ops Q l a w → anyG P md ops Q C T l.length listed a w := by
  intro l
  induction l with
  | nil => intro k listed a w _ hB _ h; exact ⟨by simpa [Region.seqB] using hB, h⟩
  | cons o l ih =>
    intro k listed a w hl hB hT h
    have h0 : ops[k]? = some o := by simpa using (hl 0).symm
    simp only [List.length_cons, Region.seqB, Bool.and_eq_true, decide_eq_true_eq] at hB
    refine ⟨fun h1 => (by rw [hB.1] at h1; cases h1), fun i hi => ?_⟩
    rw [hB.1] at hi
    obtain rfl : i = k := by simpa using hi
    have hw : wpOp P ops Q i (wpList P ops Q l) a w := by unfold wpOp; simp only [h0]; exact h
    refine wpOp_mono (fun a' w' h' => ⟨fun hc => ?_, ih (i + 1) _ a' w' (fun j => by have := hl (j + 1); simpa [Nat.add_assoc, Nat.add_comm 1 j] using this) hB.2 (fun j hj => by have := hT (j + 1) (by simp; omega); simpa [Nat.add_assoc, Nat.add_comm 1 j] using this) h'⟩) hw
    have := hT 0 (by simp)
    rw [Nat.add_zero] at this
    rw [this] at hc
    cases hc
theorem closed_start (n : Nat) : Closed md ops (Array.replicate n false) := fun j oj _ hl => by rw [getD_replicate_false] at hl; cases hl
theorem region_G {id : Nat} {a : Act} {w : World} (hm : P.follows .mixedOrders = true)
    (h : Closed .any ops (Array.replicate ops.size false) → anyG P .any ops Q C T ops.size (Array.replicate ops.size false) a w.drew) : (Code.region id ops true).wp P Q a w :=
  wp_region_any hm (any_of_G _ _ _ _ (h (closed_start _)))
end
section
variable {P : Program} {ops : Array Oper} {md : Region.Mode} {C : World → Prop} {Q : Exit → Act → World → Prop} {T : List Nat}
theorem G_weaken : ∀ (f : Nat) (listed : Array Bool) (a : Act) (w : World), anyG P md ops Q C T f listed a w → anyG P md ops Q (fun _ => True) [] f listed a w := by
  intro f
  induction f with
  | zero => intro _ _ _ h; exact h
  | succ f ih => intro listed a w h; exact ⟨h.1, fun i hi => wpOp_mono (fun a' w' h' => ⟨fun _ => trivial, ih _ a' w' h'.2⟩) (h.2 i hi)⟩
def setAll (is : List Nat) (listed : Array Bool) : Array Bool := is.foldl (fun s i => s.setIfInBounds i true) listed
theorem wp_evQ_mono {o : Oper} {K K' : Act → World → Prop} (h : ∀ a w, K a w → K' a w) {a : Act} {w : World} (hh : o.wp P a w (evQ Q K .normal) (evQ Q K)) : o.wp P a w (evQ Q K' .normal) (evQ Q K') := by
  unfold Oper.wp at *
  generalize (execOp a.eval o).run P w = r at *
  cases r with
  | ok n w' =>
    cases n <;> simp only [Oper.upon] at hh ⊢ <;> first
      | exact h _ _ hh
      | exact Calls.mono hh (fun e w'' he => by cases e <;> first | exact h _ _ he | exact he)
      | exact Rows.mono hh (fun _ _ he => h _ _ he)
      | exact hh
  | halt x w' => cases x <;> simp only [Oper.upon] at hh ⊢ <;> exact hh
theorem wpList_one_mono {o : Oper} {a : Act} {w : World} {K K' : Act → World → Prop} (h : ∀ a w, K a w → K' a w) (hh : wpList P ops (evQ Q K) [o] a w) : wpList P ops (evQ Q K') [o] a w := by
  simp only [wpList] at hh ⊢
  split
  · rename_i hw
    rw [if_pos hw] at hh
    rcases hh with hh | ⟨h1, ⟨a2, w2, h2⟩⟩
    · exact .inl (wp_evQ_mono h hh)
    · exact .inr ⟨h1, a2, w2, h2⟩
  · rename_i hw
    rw [if_neg hw] at hh
    exact h _ _ hh
theorem wpQuiet_mono' {C : World → Prop} {ops : Array Oper} {K K' : Act → Prop} (h : ∀ a, K a → K' a) : ∀ (l : List Oper) (a : Act), wpQuiet P ops C K l a → wpQuiet P ops C K' l a := by
  intro l
  induction l with
  | nil => intro a hh; exact h a hh
  | cons o l ih =>
    intro a hh
    unfold wpQuiet at hh ⊢
    split
    · rename_i hw
      rw [if_pos hw] at hh
      exact Oper.quiet_mono ih hh
    · rename_i hw
      rw [if_neg hw] at hh
      exact ih _ hh
/-- The operations of these numbers. -/
def pick (l : List Oper) (is : List Nat) : List Oper := is.filterMap (fun i => l[i]?)
theorem pick_map {l : List Oper} : ∀ {is : List Nat}, is.all (fun i => decide (i < l.length)) = true → is.map (fun i => l.toArray[i]?) = (pick l is).map some := by
  intro is
  induction is with
  | nil => intro _; rfl
  | cons i is ih =>
    intro h
    rw [List.all_cons, Bool.and_eq_true, decide_eq_true_eq] at h
    have e : l[i]? = some l[i] := List.getElem?_eq_getElem h.1
    have e2 : pick l (i :: is) = l[i] :: pick l is := by unfold pick; rw [List.filterMap_cons, e]
    rw [List.map_cons, ih h.2, e2, List.map_cons, List.getElem?_toArray, e]
end
section
variable {P : Program} {ops : Array Oper} {md : Region.Mode} {C : World → Prop} {Q : Exit → Act → World → Prop} {T : List Nat}
/-- Steps: reads (true) and events (false), in one order. -/
def steps (P : Program) (ops : Array Oper) (Q : Exit → Act → World → Prop) (C : World → Prop) (K : Act → World → Prop) : List (Bool × Oper) → Act → World → Prop
  | [], a, w => K a w
  | (true, o) :: r, a, w => wpQuiet P ops C (fun a' => steps P ops Q C K r a' w) [o] a
  | (false, o) :: r, a, w => wpList P ops (evQ Q (fun a' w' => C w' ∧ steps P ops Q C K r a' w')) [o] a w
theorem steps_nil {K : Act → World → Prop} {a : Act} {w : World} (h : K a w) : steps P ops Q C K [] a w := h
/-- Behind an event: a world of the class. -/
theorem step_end {w : World} {K : Act → World → Prop} {a : Act} {W : World} (hb : Below w.heap.size w W) (h : K a W) : wpList P ops (evQ Q (fun a' w' => (∃ x : After w, w' = x.1) ∧ K a' w')) [] a W := ⟨⟨⟨W, hb⟩, rfl⟩, h⟩
end
section
variable {P : Program} {ops : Array Oper} {rest : List Oper} {o : Oper} {a : Act} {Q : Exit → Act → World → Prop} {W : World}
end
end Go.Proofs.YtokkiiepddhkiaaGreatDoor.Hd
