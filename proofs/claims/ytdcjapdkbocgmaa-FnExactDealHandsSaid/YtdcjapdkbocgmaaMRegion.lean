/- A region that draws its order, walked in one order of the prover's choice: operations that only read (in every world of a class C) are taken as soon as they may come up; any other operation is met when it alone may come up. -/
import Derived.Test.YtdcjapdkbocgmaaMQuietB
namespace Go.Proofs.Ytdcjapdkbocgmaa.Hd
open Go.RowKit Go.Proofs.YtdcjapdkbocgmaaW.PrintWords Go.Proofs.YtdcjapdkbocgmaaW.PrintLast Go.Proofs.YtdcjapdkbocgmaaW.PrintMore
set_option linter.unusedVariables false
theorem grown_below {w w' : World} (h : w.grownBy w' none) : Below w.heap.size w w' := ⟨h.os, h.tape, h.output, h.size, fun i hi => h.block i hi (by simp)⟩
/-- By its form alone: it is no call of a Go function, and hands back a value. -/
def onlyValue (o : Oper) : Bool :=
  match o.op with
  | .move _ | .assign _ | .pick .. | .build .. | .load .. | .binOp .. | .unOp .. | .convert .. | .makeFunc .. | .slice .. | .fieldAddr .. | .field .. | .indexAddr .. | .index .. | .extract .. => true
  | .nilCheck _ => true
  | .call { callee := .builtin .len, .. } | .call { callee := .builtin .min, .. } | .call { callee := .builtin .max, .. } => true
  | _ => false
/-- What it comes to is a value. -/
def isValue (P : Program) (s : Sem Next) : Prop := ∀ w w' n, s.run P w = .ok n w' → ∃ u, n = .value u
theorem isValue_bind {P : Program} {α : Type} {s : Sem α} {k : α → Sem Next} (h : ∀ x, isValue P (k x)) : isValue P (s >>= k) := by
  intro w w' n he
  rw [Sem.run_bind] at he
  cases hs : s.run P w with
  | ok u w1 =>
    rw [hs] at he
    exact h u w1 w' n he
  | halt x w1 =>
    rw [hs] at he
    cases he
theorem isValue_value {P : Program} (v : Value) : isValue P (pure (.value v)) := by
  intro w w' n he
  rw [Sem.run_pure] at he
  injection he with h1 _
  exact ⟨v, h1.symm⟩
theorem isValue_halt {P : Program} (x : Halt) : isValue P (.halt x) := by
  intro w w' n he
  cases he
theorem isValue_panic {P : Program} : isValue P (runtimePanic .nilDeref) := isValue_bind (fun _ => (show isValue P (goPanic _) from isValue_halt _))
theorem isValue_nil {P : Program} (x : Value) : isValue P (execOp (fun _ => x) ⟨none, .nilCheck (.const x), 0, "", #[], none⟩) := by
  unfold execOp
  dsimp only
  split
  · exact isValue_panic
  · exact isValue_panic
  · exact isValue_panic
  · split
    · exact isValue_panic
    · refine isValue_bind (fun p => isValue_bind (fun q => ?_))
      split
      · exact isValue_bind (fun _ => isValue_value _)
      · exact isValue_value _
    · exact isValue_value _
  · exact isValue_value _
theorem onlyValue_spec {P : Program} {o : Oper} {ρ : Operand → Value} (ho : onlyValue o = true) : isValue P (execOp ρ o) := by
  unfold onlyValue at ho
  unfold execOp
  split at ho <;> try (cases ho)
  all_goals (rename_i he; simp only [he])
  all_goals first
    | exact isValue_value _
    | exact isValue_bind (fun _ => isValue_value _)
    | exact (show isValue P (Bind.bind (Builtin.len_ _ _ _) (fun x => pure (Next.value x))) from isValue_bind (fun _ => isValue_value _))
    | exact (show isValue P (Bind.bind (Builtin.min_ _ _ _) (fun x => pure (Next.value x))) from isValue_bind (fun _ => isValue_value _))
    | exact (show isValue P (Bind.bind (Builtin.max_ _ _ _) (fun x => pure (Next.value x))) from isValue_bind (fun _ => isValue_value _))
    | exact isValue_nil (P := P) _
    | trace_state
section
variable {P : Program} {ops : Array Oper} {md : Region.Mode} {C : World → Prop} {Q : Exit → Act → World → Prop} {T : List Nat}
/-- r is ahead of t along the edges. -/
def forced (md : Region.Mode) (ops : Array Oper) : Nat → Nat → Nat → Bool
  | 0, _, _ => false
  | n + 1, r, t => match ops[t]? with
    | some o => o.after.any fun e => Region.binds md e && (e.on == r || forced md ops n r e.on)
    | none => false
def Closed (md : Region.Mode) (ops : Array Oper) (listed : Array Bool) : Prop := ∀ j oj, ops[j]? = some oj → listed.getD j false = true → ∀ e ∈ oj.after, Region.binds md e = true → listed.getD e.on false = true
theorem Closed.set {listed : Array Bool} (h : Closed md ops listed) {i : Nat} (hi : i ∈ Region.ready md ops listed) : Closed md ops (listed.setIfInBounds i true) := by
  intro j oj hj hl e he hb
  obtain ⟨_, oi, hoi, hall⟩ := mem_ready.1 hi
  by_cases hij : i = j
  · subst hij
    obtain rfl : oj = oi := Option.some.inj (hj.symm.trans hoi)
    exact getD_set_true (hall e he hb)
  · rw [getD_set_ne false hij] at hl
    exact getD_set_true (h j oj hj hl e he hb)
theorem forced_listed {listed : Array Bool} (h : Closed md ops listed) : ∀ (n r t : Nat), forced md ops n r t = true → (∀ o, ops[t]? = some o → ∀ e ∈ o.after, Region.binds md e = true → listed.getD e.on false = true) → listed.getD r false = true := by
  intro n
  induction n with
  | zero => intro r t hf; cases hf
  | succ n ih =>
    intro r t hf hd
    unfold forced at hf
    split at hf
    · rename_i o ho
      obtain ⟨e, he, hb⟩ := Array.any_eq_true'.1 hf
      rw [Bool.and_eq_true, Bool.or_eq_true, beq_iff_eq] at hb
      have hl := hd o ho e he hb.1
      rcases hb.2 with h1 | h1
      · rw [← h1]; exact hl
      · exact ih r e.on h1 (fun o' ho' => h e.on o' ho' hl)
    · cases hf
/-- Whatever order is picked; behind every operation that is none of T a world of the class. -/
def anyG (P : Program) (md : Region.Mode) (ops : Array Oper) (Q : Exit → Act → World → Prop) (C : World → Prop) (T : List Nat) : Nat → Array Bool → Act → World → Prop
  | 0, listed, a, w => Region.ready md ops listed = [] ∧ Q .normal a w
  | f + 1, listed, a, w => (Region.ready md ops listed = [] → Q .normal a w) ∧
    ∀ j ∈ Region.ready md ops listed, wpOp P ops Q j (fun a' w' => (T.contains j = false → C w') ∧ anyG P md ops Q C T f (listed.setIfInBounds j true) a' w') a w
theorem any_of_G : ∀ (f : Nat) (listed : Array Bool) (a : Act) (w : World), anyG P md ops Q C T f listed a w → wpAny P md ops Q f listed a w := by
  intro f
  induction f with
  | zero => intro _ _ _ h; exact h
  | succ f ih => intro listed a w h; exact ⟨h.1, fun i hi => wpOp_mono (fun a' w' h' => ih _ a' w' h'.2) (h.2 i hi)⟩
theorem G_first {i n : Nat} {oi : Oper} {v : Value} (hi : ops[i]? = some oi) (hsel : ∀ (j : Nat) (o : Oper) cs b, ops[j]? = some o → o.op ≠ .select cs b)
    (hQ : ∀ c a w, Q (.panic c) (a.put oi.dst v) w → Q (.panic c) a w) (hT : ∀ t, T.contains t = true → forced md ops n i t = true) :
    ∀ (f : Nat) (listed : Array Bool) (a : Act) (w : World), Closed md ops listed →
      (∀ j oj, ops[j]? = some oj → j ≠ i → listed.getD j true = false → (∀ e ∈ oj.after, Region.binds md e = true → e.on ≠ i) → oi.apart ops oj = true) →
      i ∈ Region.ready md ops listed → YieldsIf P ops C oi v a → C w → anyG P md ops Q C T f (listed.setIfInBounds i true) (a.put oi.dst v) w → anyG P md ops Q C T (f + 1) listed a w := by
  intro f
  induction f with
  | zero =>
    intro listed a w _ _ hr hy hC H
    refine ⟨fun h0 => (by rw [h0] at hr; cases hr), fun j hj => ?_⟩
    by_cases hji : j = i
    · subst hji; exact hy.wpOp hi hC ⟨fun _ => hC, H⟩
    · have := ready_mono hj hji
      rw [H.1] at this
      cases this
  | succ f ih =>
    intro listed a w hcl hfree hr hy hC H
    refine ⟨fun h0 => (by rw [h0] at hr; cases hr), fun j hj => ?_⟩
    by_cases hji : j = i
    · subst hji; exact hy.wpOp hi hC ⟨fun _ => hC, H⟩
    obtain ⟨hju, oj, hoj, hall⟩ := mem_ready.1 hj
    have hun : listed.getD i false = true → False := fun h => by rw [getD_both (mem_ready.1 hr).1] at h; cases h
    have hno : ∀ e ∈ oj.after, Region.binds md e = true → e.on ≠ i := fun e he hb q => hun (q ▸ hall e he hb)
    have hjT : T.contains j = false := by
      cases hc : T.contains j with
      | false => rfl
      | true => exact (hun (forced_listed hcl n i j (hT j hc) (fun o ho e he hb => by
          obtain rfl : o = oj := Option.some.inj (ho.symm.trans hoj)
          exact hall e he hb))).elim
    have h2 := wpOp_putIf hoj (hfree j oj hoj hji hju hno) (fun cs b => hsel i oi cs b hi) (fun cs b => hsel j oj cs b hoj) hQ hy (H.2 j (ready_mono hj hji))
    refine wpOp_mono (fun a' w' h3 => ?_) h2
    have hC' := h3.2.1 hjT
    refine ⟨fun _ => hC', ih (listed.setIfInBounds j true) a' w' (hcl.set hj) (fun k ok hk hki hun2 hno2 => hfree k ok hk hki ?_ hno2) (ready_mono hr (Ne.symm hji)) h3.1 hC' ?_⟩
    · by_cases hjk : j = k
      · subst hjk; exact hju
      · rwa [getD_set_ne true hjk] at hun2
    · rw [Array.setIfInBounds_comm _ _ hji]; exact h3.2.2
/-- A run of reads: each may come up, is a value by its form, is apart from what may come ahead of it, and is ahead of all of T. -/
def batchB (md : Region.Mode) (ops : Array Oper) (T : List Nat) : List Nat → Array Bool → Bool
  | [], _ => true
  | i :: is, listed => (Region.ready md ops listed).contains i && Region.free md ops listed i && (match ops[i]? with | some o => onlyValue o | none => false) && T.all (fun t => forced md ops 6 i t) && batchB md ops T is (listed.setIfInBounds i true)
theorem yieldsIf_of_in {o : Oper} {v : Value} {a : Act} (ho : onlyValue o = true) (h : YieldsIn P ops C o v a) : YieldsIf P ops C o v a := by
  rcases h with ⟨hw, h⟩ | h
  · refine .inl ⟨hw, fun w hC => ?_⟩
    have h1 := h w hC
    unfold Oper.quietAt at h1
    cases hr : (execOp a.eval o).run P w with
    | ok n w' =>
      rw [hr] at h1
      obtain ⟨u, rfl⟩ := onlyValue_spec (P := P) (ρ := a.eval) ho w w' n hr
      obtain ⟨rfl, rfl⟩ := h1
      rfl
    | halt x w' => rw [hr] at h1; cases h1
  · exact .inr h
theorem G_batch (hsel : Region.noSelect ops = true) (hQ : ∀ d v c a w, Q (.panic c) (Act.put a d v) w → Q (.panic c) a w) {f : Nat} {w : World} (hC : C w) :
    ∀ (is : List Nat) (l : List Oper) (listed : Array Bool) (a : Act), is.map (fun i => ops[i]?) = l.map some → Closed md ops listed → batchB md ops T is listed = true →
      wpQuiet P ops C (fun a' => Closed md ops (is.foldl (fun s i => s.setIfInBounds i true) listed) → anyG P md ops Q C T f (is.foldl (fun s i => s.setIfInBounds i true) listed) a' w) l a → anyG P md ops Q C T (f + is.length) listed a w := by
  intro is
  induction is with
  | nil =>
    intro l listed a hl hcl _ h
    obtain rfl : l = [] := by cases l with | nil => rfl | cons _ _ => simp at hl
    exact h hcl
  | cons i is ih =>
    intro l listed a hl hcl hB h
    cases l with
    | nil => simp at hl
    | cons o l =>
      simp only [List.map_cons, List.cons.injEq] at hl
      have h0 : ops[i]? = some o := hl.1
      simp only [batchB, h0, Bool.and_eq_true] at hB
      obtain ⟨⟨⟨⟨hr, hf⟩, ho⟩, hT⟩, hB'⟩ := hB
      have hr' : i ∈ Region.ready md ops listed := by simpa using hr
      have hst : qOp P ops C i (wpQuiet P ops C (fun a' => Closed md ops ((i :: is).foldl (fun s i => s.setIfInBounds i true) listed) → anyG P md ops Q C T f ((i :: is).foldl (fun s i => s.setIfInBounds i true) listed) a' w) l) a := by unfold qOp; simp only [h0]; exact h
      obtain ⟨v, hy, hK⟩ := yieldsIn_of_qOp h0 hst
      rw [List.length_cons, ← Nat.add_assoc]
      refine G_first h0 (Region.noSelect_spec hsel) (fun c a w => hQ _ v c a w) (n := 6) (fun t ht => List.all_eq_true.1 hT t (by simpa using ht)) (f + is.length) listed a w hcl (Region.free_spec h0 hf) hr' (yieldsIf_of_in ho hy) hC ?_
      exact ih l (listed.setIfInBounds i true) (a.put o.dst v) hl.2 (hcl.set hr') hB' hK
/-- What is left of a region behind one operation. -/
def evQ (Q : Exit → Act → World → Prop) (K : Act → World → Prop) : Exit → Act → World → Prop
  | .normal, a, w => K a w
  | e, a, w => Q e a w
theorem wp_evQ {o : Oper} {a : Act} {w : World} {K : Act → World → Prop} (h : o.wp P a w (evQ Q K .normal) (evQ Q K)) : o.wp P a w K Q := by
  unfold Oper.wp at *
  generalize (execOp a.eval o).run P w = r at *
  cases r with
  | ok n w' =>
    cases n <;> simp only [Oper.upon] at h ⊢ <;> first
      | exact h
      | exact Calls.mono h (fun e w'' he => by cases e <;> exact he)
  | halt x w' => cases x <;> simp only [Oper.upon] at h ⊢ <;> exact h
theorem G_event (j : Nat) {o : Oper} {f : Nat} {listed : Array Bool} {a : Act} {w : World} (hj : ops[j]? = some o) (hr : Region.ready md ops listed = [j]) (hcl : Closed md ops listed)
    (h : wpList P ops (evQ Q (fun a' w' => Closed md ops (listed.setIfInBounds j true) → (T.contains j = false → C w') ∧ anyG P md ops Q C T f (listed.setIfInBounds j true) a' w')) [o] a w) : anyG P md ops Q C T (f + 1) listed a w := by
  refine ⟨fun h0 => (by rw [hr] at h0; cases h0), fun i hi => ?_⟩
  rw [hr] at hi
  obtain rfl : i = j := by simpa using hi
  have hcl' : Closed md ops (listed.setIfInBounds i true) := hcl.set (by rw [hr]; simp)
  unfold wpOp
  simp only [hj]
  simp only [wpList] at h
  split
  · rename_i hw
    rw [if_pos hw] at h
    rcases h with h | ⟨h1, h2⟩
    · exact .inl (Oper.wp_mono (fun a w h => h hcl') (wp_evQ h))
    · exact .inr ⟨h1, h2⟩
  · rename_i hw
    rw [if_neg hw] at h
    exact h hcl'
/-- The rest of a region comes in one order alone. -/
theorem G_tail : ∀ (l : List Oper) (k : Nat) (listed : Array Bool) (a : Act) (w : World), (∀ j, l[j]? = ops[k + j]?) → Region.seqB md ops l.length k listed = true → (∀ j, j < l.length → T.contains (k + j) = true) →
    wpList P ops Q l a w → anyG P md ops Q C T l.length listed a w := by
  intro l
  induction l with
  | nil => intro k listed a w _ hB _ h; exact ⟨by simpa [Region.seqB] using hB, h⟩
  | cons o l ih =>
    intro k listed a w hl hB hT h
    have h0 : ops[k]? = some o := by simpa using (hl 0).symm
    simp only [List.length_cons, Region.seqB, Bool.and_eq_true, decide_eq_true_eq] at hB
    refine ⟨fun h1 => (by rw [hB.1] at h1; cases h1), fun i hi => ?_⟩
    rw [hB.1] at hi
    obtain rfl : i = k := by simpa using hi
    have hw : wpOp P ops Q i (wpList P ops Q l) a w := by unfold wpOp; simp only [h0]; exact h
    refine wpOp_mono (fun a' w' h' => ⟨fun hc => ?_, ih (i + 1) _ a' w' (fun j => by have := hl (j + 1); simpa [Nat.add_assoc, Nat.add_comm 1 j] using this) hB.2 (fun j hj => by have := hT (j + 1) (by simp; omega); simpa [Nat.add_assoc, Nat.add_comm 1 j] using this) h'⟩) hw
    have := hT 0 (by simp)
    rw [Nat.add_zero] at this
    rw [this] at hc
    cases hc
theorem closed_start (n : Nat) : Closed md ops (Array.replicate n false) := fun j oj _ hl => by rw [getD_replicate_false] at hl; cases hl
theorem region_G {id : Nat} {a : Act} {w : World} (hm : P.follows .mixedOrders = true)
    (h : Closed .any ops (Array.replicate ops.size false) → anyG P .any ops Q C T ops.size (Array.replicate ops.size false) a w.drew) : (Code.region id ops true).wp P Q a w :=
  wp_region_any hm (any_of_G _ _ _ _ (h (closed_start _)))
end
section
variable {P : Program} {ops : Array Oper} {md : Region.Mode} {C : World → Prop} {Q : Exit → Act → World → Prop} {T : List Nat}
theorem G_weaken : ∀ (f : Nat) (listed : Array Bool) (a : Act) (w : World), anyG P md ops Q C T f listed a w → anyG P md ops Q (fun _ => True) [] f listed a w := by
  intro f
  induction f with
  | zero => intro _ _ _ h; exact h
  | succ f ih => intro listed a w h; exact ⟨h.1, fun i hi => wpOp_mono (fun a' w' h' => ⟨fun _ => trivial, ih _ a' w' h'.2⟩) (h.2 i hi)⟩
/-- Events, one behind the other, each alone when it comes up; behind each a world of the class. -/
def evs (P : Program) (ops : Array Oper) (Q : Exit → Act → World → Prop) (C : World → Prop) (K : Act → World → Prop) : List Oper → Act → World → Prop
  | [], a, w => K a w
  | o :: r, a, w => wpList P ops (evQ Q (fun a' w' => C w' ∧ evs P ops Q C K r a' w')) [o] a w
def evB (md : Region.Mode) (ops : Array Oper) : List Nat → Array Bool → Bool
  | [], _ => true
  | j :: js, listed => decide (Region.ready md ops listed = [j]) && evB md ops js (listed.setIfInBounds j true)
def setAll (is : List Nat) (listed : Array Bool) : Array Bool := is.foldl (fun s i => s.setIfInBounds i true) listed
theorem evQ_mono {K K' : Act → World → Prop} (h : ∀ a w, K a w → K' a w) : ∀ (e : Exit) (a : Act) (w : World), evQ Q K e a w → evQ Q K' e a w := by
  intro e a w
  cases e <;> first | exact h a w | exact id
theorem wp_evQ_mono {o : Oper} {K K' : Act → World → Prop} (h : ∀ a w, K a w → K' a w) {a : Act} {w : World} (hh : o.wp P a w (evQ Q K .normal) (evQ Q K)) : o.wp P a w (evQ Q K' .normal) (evQ Q K') := by
  unfold Oper.wp at *
  generalize (execOp a.eval o).run P w = r at *
  cases r with
  | ok n w' =>
    cases n <;> simp only [Oper.upon] at hh ⊢ <;> first
      | exact h _ _ hh
      | exact Calls.mono hh (fun e w'' he => by cases e <;> first | exact h _ _ he | exact he)
      | exact Rows.mono hh (fun _ _ he => h _ _ he)
      | exact hh
  | halt x w' => cases x <;> simp only [Oper.upon] at hh ⊢ <;> exact hh
theorem wpList_one_mono {o : Oper} {a : Act} {w : World} {K K' : Act → World → Prop} (h : ∀ a w, K a w → K' a w) (hh : wpList P ops (evQ Q K) [o] a w) : wpList P ops (evQ Q K') [o] a w := by
  simp only [wpList] at hh ⊢
  split
  · rename_i hw
    rw [if_pos hw] at hh
    rcases hh with hh | ⟨h1, ⟨a2, w2, h2⟩⟩
    · exact .inl (wp_evQ_mono h hh)
    · exact .inr ⟨h1, a2, w2, h2⟩
  · rename_i hw
    rw [if_neg hw] at hh
    exact h _ _ hh
theorem G_evs {K : Act → World → Prop} : ∀ (js : List Nat) (os : List Oper) (g : Nat) (listed : Array Bool) (a : Act) (w : World), js.map (fun i => ops[i]?) = os.map some → evB md ops js listed = true → Closed md ops listed →
    (∀ a w, Closed md ops (setAll js listed) → K a w → anyG P md ops Q C T g (setAll js listed) a w) → evs P ops Q C K os a w → anyG P md ops Q C T (g + js.length) listed a w := by
  intro js
  induction js with
  | nil =>
    intro os g listed a w hl _ hcl hK h
    obtain rfl : os = [] := by cases os with | nil => rfl | cons _ _ => simp at hl
    exact hK a w hcl h
  | cons j js ih =>
    intro os g listed a w hl hB hcl hK h
    cases os with
    | nil => simp at hl
    | cons o os =>
      simp only [List.map_cons, List.cons.injEq] at hl
      simp only [evB, Bool.and_eq_true, decide_eq_true_eq] at hB
      rw [List.length_cons, ← Nat.add_assoc]
      refine G_event j hl.1 hB.1 hcl (wpList_one_mono (fun a' w' h' hcl' => ⟨fun _ => h'.1, ?_⟩) h)
      exact ih os g _ a' w' hl.2 hB.2 hcl' hK h'.2
theorem wpQuiet_mono' {C : World → Prop} {ops : Array Oper} {K K' : Act → Prop} (h : ∀ a, K a → K' a) : ∀ (l : List Oper) (a : Act), wpQuiet P ops C K l a → wpQuiet P ops C K' l a := by
  intro l
  induction l with
  | nil => intro a hh; exact h a hh
  | cons o l ih =>
    intro a hh
    unfold wpQuiet at hh ⊢
    split
    · rename_i hw
      rw [if_pos hw] at hh
      exact Oper.quiet_mono ih hh
    · rename_i hw
      rw [if_neg hw] at hh
      exact ih _ hh
/-- The operations of these numbers. -/
def pick (l : List Oper) (is : List Nat) : List Oper := is.filterMap (fun i => l[i]?)
theorem pick_map {l : List Oper} : ∀ {is : List Nat}, is.all (fun i => decide (i < l.length)) = true → is.map (fun i => l.toArray[i]?) = (pick l is).map some := by
  intro is
  induction is with
  | nil => intro _; rfl
  | cons i is ih =>
    intro h
    rw [List.all_cons, Bool.and_eq_true, decide_eq_true_eq] at h
    have e : l[i]? = some l[i] := List.getElem?_eq_getElem h.1
    have e2 : pick l (i :: is) = l[i] :: pick l is := by unfold pick; rw [List.filterMap_cons, e]
    rw [List.map_cons, ih h.2, e2, List.map_cons, List.getElem?_toArray, e]
theorem evs_cons {o : Oper} {r : List Oper} {K : Act → World → Prop} {a : Act} {w : World} (h : wpList P ops (evQ Q (fun a' w' => C w' ∧ evs P ops Q C K r a' w')) [o] a w) : evs P ops Q C K (o :: r) a w := h
theorem evs_nil {K : Act → World → Prop} {a : Act} {w : World} (h : K a w) : evs P ops Q C K [] a w := h
theorem ev_end {K : Act → World → Prop} {a : Act} {w : World} (h : K a w) : wpList P ops (evQ Q K) [] a w := h
def planB (l : List Oper) (pre reads ev : List Nat) (k : Nat) : Bool :=
  let ops := l.toArray
  let T := List.range' k (l.length - k)
  let s0 := Array.replicate ops.size false
  let s1 := setAll pre s0
  let s2 := setAll reads s1
  let s3 := setAll ev s2
  pre.all (fun i => decide (i < l.length)) && reads.all (fun i => decide (i < l.length)) && ev.all (fun i => decide (i < l.length)) && Region.noSelect ops && batchB .any ops [] pre s0 && batchB .any ops T reads s1 && evB .any ops ev s2 && Region.seqB .any ops (l.length - k) k s3 && decide (k ≤ l.length) && decide (pre.length + reads.length + ev.length + (l.length - k) = l.length)
/-- A region that draws its order: what hangs on no world (pre), the reads, events that keep all that was there, and a tail that comes in one order and may write. -/
theorem region_plan {P : Program} {id : Nat} {Q : Exit → Act → World → Prop} {a : Act} {w : World} {l : List Oper} (pre reads ev : List Nat) (k : Nat) (hm : P.follows .mixedOrders = true) (hB : planB l pre reads ev k = true)
    (hQ : ∀ d v c a w, Q (.panic c) (Act.put a d v) w → Q (.panic c) a w)
    (h : wpQuiet P l.toArray (fun _ => True) (fun a1 => wpQuiet P l.toArray (fun W => ∃ x : After w, W = x.1) (fun a2 => ∀ W, Below w.heap.size w W → evs P l.toArray Q (fun W => Below w.heap.size w W) (wpList P l.toArray Q (l.drop k)) (pick l ev) a2 W) (pick l reads) a1) (pick l pre) a) :
    (Code.region id l.toArray true).wp P Q a w := by
  simp only [planB, Bool.and_eq_true, decide_eq_true_eq] at hB
  obtain ⟨⟨⟨⟨⟨⟨⟨⟨⟨r1, r2⟩, r3⟩, hsel⟩, hb1⟩, hb2⟩, hb3⟩, hb4⟩, hk⟩, hn⟩ := hB
  have hsz : l.toArray.size = l.length := by simp
  refine region_G (C := fun _ => True) (T := []) hm (fun hcl => ?_)
  have e1 : l.toArray.size = (reads.length + ev.length + (l.length - k)) + pre.length := by rw [hsz]; omega
  have G1 := G_batch (P := P) (md := .any) (C := fun _ => True) (T := []) (Q := Q) hsel hQ (f := reads.length + ev.length + (l.length - k)) (w := w.drew) trivial pre (pick l pre) (Array.replicate l.toArray.size false) a (pick_map r1) hcl hb1 (wpQuiet_mono' (fun a1 h1 hcl1 => ?_) (pick l pre) a h)
  · rw [← e1] at G1; exact G1
  · refine G_weaken (C := fun W => Below w.heap.size w W) (T := List.range' k (l.length - k)) _ _ _ _ ?_
    have h1' : wpQuiet P l.toArray (fun W => Below w.heap.size w W) (fun a2 => ∀ W, Below w.heap.size w W → evs P l.toArray Q (fun W => Below w.heap.size w W) (wpList P l.toArray Q (l.drop k)) (pick l ev) a2 W) (pick l reads) a1 := by
      have e : (fun W => ∃ x : After w, W = x.1) = fun W => Below w.heap.size w W := by
        funext W
        exact propext ⟨fun ⟨x, hx⟩ => hx ▸ x.2, fun h => ⟨⟨W, h⟩, rfl⟩⟩
      rw [e] at h1
      exact h1
    have hC : Below w.heap.size w w.drew := below_drew (Below.refl _ _)
    have G2 := G_batch (P := P) (md := .any) (C := fun W => Below w.heap.size w W) (T := List.range' k (l.length - k)) (Q := Q) hsel hQ (f := ev.length + (l.length - k)) (w := w.drew) hC reads (pick l reads) _ a1 (pick_map r2) hcl1 hb2 (wpQuiet_mono' (fun a2 h2 hcl2 => ?_) (pick l reads) a1 h1')
    · have e2 : ev.length + (l.length - k) + reads.length = reads.length + ev.length + (l.length - k) := by omega
      rw [← e2]; exact G2
    · rw [Nat.add_comm]
      refine G_evs ev (pick l ev) (l.length - k) _ a2 w.drew (pick_map r3) hb3 hcl2 (fun a3 w3 hcl3 h3 => ?_) (h2 w.drew hC)
      have hdl : (l.drop k).length = l.length - k := by simp
      rw [← hdl]
      refine G_tail (l.drop k) k _ a3 w3 (fun j => by simp [List.getElem?_drop]) (by rw [hdl]; exact hb4) (fun j hj => ?_) h3
      rw [hdl] at hj
      simp
      omega
end
section
variable {P : Program} {ops : Array Oper} {md : Region.Mode} {C : World → Prop} {Q : Exit → Act → World → Prop} {T : List Nat}
/-- Steps: reads (true) and events (false), in one order. -/
def steps (P : Program) (ops : Array Oper) (Q : Exit → Act → World → Prop) (C : World → Prop) (K : Act → World → Prop) : List (Bool × Oper) → Act → World → Prop
  | [], a, w => K a w
  | (true, o) :: r, a, w => wpQuiet P ops C (fun a' => steps P ops Q C K r a' w) [o] a
  | (false, o) :: r, a, w => wpList P ops (evQ Q (fun a' w' => C w' ∧ steps P ops Q C K r a' w')) [o] a w
def stB (md : Region.Mode) (ops : Array Oper) (T : List Nat) : List (Bool × Nat) → Array Bool → Bool
  | [], _ => true
  | (true, i) :: r, listed => batchB md ops T [i] listed && stB md ops T r (listed.setIfInBounds i true)
  | (false, j) :: r, listed => decide (Region.ready md ops listed = [j]) && stB md ops T r (listed.setIfInBounds j true)
def setAll2 (js : List (Bool × Nat)) (listed : Array Bool) : Array Bool := js.foldl (fun s i => s.setIfInBounds i.2 true) listed
theorem G_steps {K : Act → World → Prop} (hsel : Region.noSelect ops = true) (hQ : ∀ d v c a w, Q (.panic c) (Act.put a d v) w → Q (.panic c) a w) : ∀ (js : List (Bool × Nat)) (os : List (Bool × Oper)) (g : Nat) (listed : Array Bool) (a : Act) (w : World), js.map (fun j => (j.1, ops[j.2]?)) = os.map (fun o => (o.1, some o.2)) → stB md ops T js listed = true → Closed md ops listed → C w →
    (∀ a w, Closed md ops (setAll2 js listed) → K a w → anyG P md ops Q C T g (setAll2 js listed) a w) → steps P ops Q C K os a w → anyG P md ops Q C T (g + js.length) listed a w := by
  intro js
  induction js with
  | nil =>
    intro os g listed a w hl _ hcl _ hK h
    obtain rfl : os = [] := by cases os with | nil => rfl | cons _ _ => simp at hl
    exact hK a w hcl h
  | cons j js ih =>
    intro os g listed a w hl hB hcl hC hK h
    cases os with
    | nil => simp at hl
    | cons o os =>
      simp only [List.map_cons, List.cons.injEq, Prod.mk.injEq] at hl
      obtain ⟨⟨hl1, hl2⟩, hl3⟩ := hl
      obtain ⟨b, i⟩ := j
      obtain ⟨b', o⟩ := o
      simp only at hl1 hl2
      subst hl1
      rw [List.length_cons, ← Nat.add_assoc]
      cases b with
      | true =>
        simp only [stB, Bool.and_eq_true] at hB
        have hG := G_batch (P := P) (md := md) (C := C) (T := T) (Q := Q) hsel hQ (f := g + js.length) (w := w) hC [i] [o] listed a (by simp [hl2]) hcl hB.1 (wpQuiet_mono' (fun a1 h1 hcl1 => ih os g _ a1 w hl3 hB.2 hcl1 hC hK h1) [o] a h)
        exact hG
      | false =>
        simp only [stB, Bool.and_eq_true, decide_eq_true_eq] at hB
        refine G_event i hl2 hB.1 hcl (wpList_one_mono (fun a' w' h' hcl' => ⟨fun _ => h'.1, ?_⟩) h)
        exact ih os g _ a' w' hl3 hB.2 hcl' h'.1 hK h'.2
def pick2 (l : List Oper) (is : List (Bool × Nat)) : List (Bool × Oper) := is.filterMap (fun i => (l[i.2]?).map fun o => (i.1, o))
theorem pick2_map {l : List Oper} : ∀ {is : List (Bool × Nat)}, is.all (fun i => decide (i.2 < l.length)) = true → is.map (fun j => (j.1, l.toArray[j.2]?)) = (pick2 l is).map (fun o => (o.1, some o.2)) := by
  intro is
  induction is with
  | nil => intro _; rfl
  | cons i is ih =>
    intro h
    rw [List.all_cons, Bool.and_eq_true, decide_eq_true_eq] at h
    have e : l[i.2]? = some l[i.2] := List.getElem?_eq_getElem h.1
    have e2 : pick2 l (i :: is) = (i.1, l[i.2]) :: pick2 l is := by unfold pick2; rw [List.filterMap_cons, e]; rfl
    rw [List.map_cons, ih h.2, e2, List.map_cons, List.getElem?_toArray, e]
theorem steps_nil {K : Act → World → Prop} {a : Act} {w : World} (h : K a w) : steps P ops Q C K [] a w := h
theorem steps_read {o : Oper} {r : List (Bool × Oper)} {K : Act → World → Prop} {a : Act} {w : World} (h : wpQuiet P ops C (fun a' => steps P ops Q C K r a' w) [o] a) : steps P ops Q C K ((true, o) :: r) a w := h
theorem steps_event {o : Oper} {r : List (Bool × Oper)} {K : Act → World → Prop} {a : Act} {w : World} (h : wpList P ops (evQ Q (fun a' w' => C w' ∧ steps P ops Q C K r a' w')) [o] a w) : steps P ops Q C K ((false, o) :: r) a w := h
def stepsB (l : List Oper) (pre reads : List Nat) (st : List (Bool × Nat)) (k : Nat) : Bool :=
  let ops := l.toArray
  let T := List.range' k (l.length - k)
  let s0 := Array.replicate ops.size false
  let s1 := setAll pre s0
  let s2 := setAll reads s1
  let s3 := setAll2 st s2
  pre.all (fun i => decide (i < l.length)) && reads.all (fun i => decide (i < l.length)) && st.all (fun i => decide (i.2 < l.length)) && Region.noSelect ops && batchB .any ops [] pre s0 && batchB .any ops T reads s1 && stB .any ops T st s2 && Region.seqB .any ops (l.length - k) k s3 && decide (k ≤ l.length) && decide (pre.length + reads.length + st.length + (l.length - k) = l.length)
/-- As region_plan, with reads between the events. -/
theorem region_steps {P : Program} {id : Nat} {Q : Exit → Act → World → Prop} {a : Act} {w : World} {l : List Oper} (pre reads : List Nat) (st : List (Bool × Nat)) (k : Nat) (hm : P.follows .mixedOrders = true) (hB : stepsB l pre reads st k = true)
    (hQ : ∀ d v c a w, Q (.panic c) (Act.put a d v) w → Q (.panic c) a w)
    (h : wpQuiet P l.toArray (fun _ => True) (fun a1 => wpQuiet P l.toArray (fun W => ∃ x : After w, W = x.1) (fun a2 => ∀ W, Below w.heap.size w W → steps P l.toArray Q (fun W => ∃ x : After w, W = x.1) (wpList P l.toArray Q (l.drop k)) (pick2 l st) a2 W) (pick l reads) a1) (pick l pre) a) :
    (Code.region id l.toArray true).wp P Q a w := by
  simp only [stepsB, Bool.and_eq_true, decide_eq_true_eq] at hB
  obtain ⟨⟨⟨⟨⟨⟨⟨⟨⟨r1, r2⟩, r3⟩, hsel⟩, hb1⟩, hb2⟩, hb3⟩, hb4⟩, hk⟩, hn⟩ := hB
  have hsz : l.toArray.size = l.length := by simp
  refine region_G (C := fun _ => True) (T := []) hm (fun hcl => ?_)
  have e1 : l.toArray.size = (reads.length + st.length + (l.length - k)) + pre.length := by rw [hsz]; omega
  have G1 := G_batch (P := P) (md := .any) (C := fun _ => True) (T := []) (Q := Q) hsel hQ (f := reads.length + st.length + (l.length - k)) (w := w.drew) trivial pre (pick l pre) (Array.replicate l.toArray.size false) a (pick_map r1) hcl hb1 (wpQuiet_mono' (fun a1 h1 hcl1 => ?_) (pick l pre) a h)
  · rw [← e1] at G1; exact G1
  · refine G_weaken (C := fun W => ∃ x : After w, W = x.1) (T := List.range' k (l.length - k)) _ _ _ _ ?_
    have hb : Below w.heap.size w w.drew := below_drew (Below.refl _ _)
    have hC : (fun W => ∃ x : After w, W = x.1) w.drew := ⟨⟨w.drew, hb⟩, rfl⟩
    have G2 := G_batch (P := P) (md := .any) (C := fun W => ∃ x : After w, W = x.1) (T := List.range' k (l.length - k)) (Q := Q) hsel hQ (f := st.length + (l.length - k)) (w := w.drew) hC reads (pick l reads) _ a1 (pick_map r2) hcl1 hb2 (wpQuiet_mono' (fun a2 h2 hcl2 => ?_) (pick l reads) a1 h1)
    · have e2 : st.length + (l.length - k) + reads.length = reads.length + st.length + (l.length - k) := by omega
      rw [← e2]; exact G2
    · rw [Nat.add_comm]
      refine G_steps hsel hQ st (pick2 l st) (l.length - k) _ a2 w.drew (pick2_map r3) hb3 hcl2 hC (fun a3 w3 hcl3 h3 => ?_) (h2 w.drew hb)
      have hdl : (l.drop k).length = l.length - k := by simp
      rw [← hdl]
      refine G_tail (l.drop k) k _ a3 w3 (fun j => by simp [List.getElem?_drop]) (by rw [hdl]; exact hb4) (fun j hj => ?_) h3
      rw [hdl] at hj
      simp
      omega
/-- Behind an event: a world of the class. -/
theorem step_end {w : World} {K : Act → World → Prop} {a : Act} {W : World} (hb : Below w.heap.size w W) (h : K a W) : wpList P ops (evQ Q (fun a' w' => (∃ x : After w, w' = x.1) ∧ K a' w')) [] a W := ⟨⟨⟨W, hb⟩, rfl⟩, h⟩
end
section
variable {P : Program} {ops : Array Oper} {rest : List Oper} {o : Oper} {a : Act} {Q : Exit → Act → World → Prop} {W : World}
/-- A call, met by its contract. -/
theorem ev_call (hgd : o.guard = none) {f : FuncId} {args : Array Value} {v : Value} {R : World → Prop} (hrun : (execOp a.eval o).run P W = .ok (.enter f args) W) (hc : Calls P f args W fun e w' => e = .returned v ∧ R w')
    (h : ∀ w', R w' → wpList P ops Q rest (a.put o.dst v) w') : wpList P ops Q (o :: rest) a W := by
  refine wpList_plain hgd fun K hK => ?_
  unfold Oper.wp
  rw [hrun]
  exact hc.mono fun e w' ⟨he, hr⟩ => by subst he; exact hK _ _ (h w' hr)
/-- An operation that hands back a value and leaves the world. -/
theorem ev_value (hgd : o.guard = none) (v : Value) (hrun : (execOp a.eval o).run P W = .ok (.value v) W) (h : wpList P ops Q rest (a.put o.dst v) W) : wpList P ops Q (o :: rest) a W := by
  refine wpList_plain hgd fun K hK => ?_
  unfold Oper.wp
  rw [hrun]
  exact hK _ _ h
end
end Go.Proofs.Ytdcjapdkbocgmaa.Hd
