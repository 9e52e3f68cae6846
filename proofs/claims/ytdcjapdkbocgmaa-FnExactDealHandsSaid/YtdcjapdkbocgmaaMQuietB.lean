/- A region that draws its order, whose operations only read and whose callees only make memory, walked once in the order of the text: the class of worlds is 'all that was there is as it was'. -/
import Derived.Test.YtdcjapdkbocgmaaG0
import Derived.StillTail
namespace Go.Proofs.Ytdcjapdkbocgmaa.Hd
open Go.RowKit Go.Proofs.YtdcjapdkbocgmaaW.PrintWords Go.Proofs.YtdcjapdkbocgmaaW.PrintLast Go.Proofs.YtdcjapdkbocgmaaW.PrintMore
set_option linter.unusedVariables false
/-- A world behind w, in which all that w has is as it was. -/
def After (w : World) : Type := {W : World // Below w.heap.size w W}
instance (w : World) : Inhabited (After w) := ⟨⟨w, Below.refl _ _⟩⟩
theorem After.cell {w : World} {ad : Addr} {v : Value} (h : w.cell? ad = some v) (x : After w) : x.1.cell? ad = some v := pw_cell_below x.2 h
theorem After.call {w : World} {P : Program} {f : FuncId} {args : Array Value} {v : Value} (x : After w) (h : Calls P f args x.1 fun e w' => e = .returned v ∧ Below x.1.heap.size x.1 w') :
    Calls P f args x.1 fun e w'' => e = .returned v ∧ ∃ y : After w, w'' = y.1 :=
  h.mono fun _ w' ⟨he, hb⟩ => ⟨he, ⟨w', below_then x.2 x.2.size hb⟩, rfl⟩
theorem After.callD {w : World} {P : Program} {f : FuncId} {args : Array Value} {v : Value} (x : After w) (h : Calls P f args x.1 fun e w' => e = .returned v ∧ Drawn0 x.1 w') :
    Calls P f args x.1 fun e w'' => e = .returned v ∧ ∃ y : After w, w'' = y.1 :=
  After.call x (h.mono fun _ _ ⟨he, hd⟩ => ⟨he, hd.below⟩)
theorem region_after {P : Program} {id : Nat} {Q : Exit → Act → World → Prop} {a : Act} {w : World} {l : List Oper} (hm : P.follows .mixedOrders = true) (hB : Region.lexB .any l.toArray = true)
    (h : wpQuiet P l.toArray (fun W => ∃ x : After w, W = x.1) (fun a' => ∀ W, Below w.heap.size w W → Q .normal a' W) l a) : (Code.region id l.toArray true).wp P Q a w := by
  refine wp_region_quiet (C := fun W => ∃ x : After w, W = x.1) hm hB ⟨⟨w.drew, below_drew (Below.refl _ _)⟩, rfl⟩ ?_
  have e : (fun a' => ∀ w', (∃ x : After w, w' = x.1) → Q .normal a' w') = fun a' => ∀ W, Below w.heap.size w W → Q .normal a' W := by
    funext a'
    exact propext ⟨fun h W hW => h W ⟨⟨W, hW⟩, rfl⟩, fun h w' ⟨x, hx⟩ => hx ▸ h x.1 x.2⟩
  rw [e]
  simpa using h
section
variable {P : Program} {ops : Array Oper} {md : Region.Mode} {C : World → Prop}
/-- Each number below n, but those of 'pre', is waited for by a later one up to n. -/
def sinkP (md : Region.Mode) (ops : Array Oper) (pre : List Nat) (n : Nat) : Bool := (List.range n).all fun i => pre.contains i || (List.range (n + 1)).any fun j => decide (i < j) && Region.waitsFor md ops j i
theorem tail_waitsP {pre : List Nat} {n : Nat} {listed : Array Bool} (hs : sinkP md ops pre n = true) (hc : Region.chainB md ops n = true) (inv : HeadInv md ops n listed) (hp : ∀ i ∈ pre, listed.getD i true = true) :
    ∀ (d i : Nat), n - i = d → i < n → listed.getD i true = false → ∀ t, n ≤ t → t ∉ Region.ready md ops listed := by
  intro d
  induction d using Nat.strongRecOn with
  | _ d ih =>
    intro i hd hi hun t ht hr
    obtain ⟨_, ot, hot, hall⟩ := mem_ready.1 hr
    have htlt : t < ops.size := (Array.getElem?_eq_some_iff.1 hot).1
    rcases Nat.eq_or_lt_of_le ht with htn | htn
    · subst htn
      have h1 := List.all_eq_true.1 hs i (List.mem_range.2 hi)
      rw [Bool.or_eq_true] at h1
      rcases h1 with h1 | h1
      · rw [hp i (by simpa using h1)] at hun; cases hun
      obtain ⟨j, hj, hj2⟩ := List.any_eq_true.1 h1
      rw [Bool.and_eq_true, decide_eq_true_eq] at hj2
      obtain ⟨oj, hoj, e, he, hb, hon⟩ := Region.waitsFor_spec hj2.2
      have hjle : j ≤ n := by have := List.mem_range.1 hj; omega
      have hno : listed.getD i false = true → False := fun h => by rw [getD_both hun] at h; cases h
      rcases Nat.eq_or_lt_of_le hjle with hjt | hjt
      · subst hjt
        obtain rfl : oj = ot := Option.some.inj (hoj.symm.trans hot)
        exact hno (hon ▸ hall e he hb)
      · cases hl : listed.getD j false with
        | true => exact hno (hon ▸ inv.closed j oj hoj hl e he hb)
        | false => exact ih (n - j) (by omega) j rfl hjt (getD_in (by rw [inv.size]; omega) hl) n (Nat.le_refl _) hr
    · have h1 := List.all_eq_true.1 hc t (List.mem_range.2 htlt)
      rw [Bool.or_eq_true, decide_eq_true_eq] at h1
      rcases h1 with h1 | h1
      · omega
      obtain ⟨o', ho', e, he, hb, hon⟩ := Region.waitsFor_spec h1
      obtain rfl : o' = ot := Option.some.inj (ho'.symm.trans hot)
      have h2 := hall e he hb
      rw [hon, getD_both (inv.tail (t - 1) (by omega) (by omega))] at h2
      cases h2
theorem pre_set {pre : List Nat} {listed : Array Bool} {i : Nat} (hp : ∀ k ∈ pre, listed.getD k true = true) : ∀ k ∈ pre, (listed.setIfInBounds i true).getD k true = true := by
  intro k hk
  by_cases h : i = k
  · subst h
    rcases Nat.lt_or_ge i listed.size with h' | h'
    · simp [h']
    · simp
  · rw [getD_set_ne true h]; exact hp k hk
/-- The head of a region (numbers below n): whichever operation comes up is one of the head and is quiet; behind all of them L. -/
def headAny (P : Program) (md : Region.Mode) (ops : Array Oper) (C : World → Prop) (n : Nat) (L : Array Bool → Act → Prop) : Nat → Array Bool → Act → Prop
  | 0, listed, a => L listed a
  | f + 1, listed, a => Region.ready md ops listed ≠ [] ∧ ∀ i ∈ Region.ready md ops listed, i < n ∧ qOp P ops C i (headAny P md ops C n L f (listed.setIfInBounds i true)) a
theorem any_of_head {n g : Nat} {L : Array Bool → Act → Prop} {Q : Exit → Act → World → Prop} (hL : ∀ listed a w, C w → L listed a → wpAny P md ops Q g listed a w) :
    ∀ (f : Nat) (listed : Array Bool) (a : Act) (w : World), C w → headAny P md ops C n L f listed a → wpAny P md ops Q (f + g) listed a w := by
  intro f
  induction f with
  | zero => intro listed a w hw h; rw [Nat.zero_add]; exact hL _ _ _ hw h
  | succ f ih =>
    intro listed a w hw h
    have e : f + 1 + g = (f + g) + 1 := by omega
    rw [e]
    exact ⟨fun h0 => absurd h0 h.1, fun i hi => wpOp_of_qOp hw (fun a' w' hw' h' => ih _ a' w' hw' h') (h.2 i hi).2⟩
theorem head_first {pre : List Nat} {n i : Nat} {oi : Oper} {v : Value} {L : Array Bool → Act → Prop} (hi : ops[i]? = some oi) (hsel : ∀ (j : Nat) (o : Oper) cs b, ops[j]? = some o → o.op ≠ .select cs b)
    (hs : sinkP md ops pre n = true) (hc : Region.chainB md ops n = true) (hin : i < n)
    (hdone : ∀ listed a, L listed a → ∀ j ∈ Region.ready md ops listed, n ≤ j) :
    ∀ (f : Nat) (listed : Array Bool) (a : Act), HeadInv md ops n listed → (∀ k ∈ pre, listed.getD k true = true) → (∀ j oj, ops[j]? = some oj → j ≠ i → listed.getD j true = false → (∀ e ∈ oj.after, Region.binds md e = true → e.on ≠ i) → oi.apart ops oj = true) →
      i ∈ Region.ready md ops listed → YieldsIn P ops C oi v a → headAny P md ops C n L f (listed.setIfInBounds i true) (a.put oi.dst v) → headAny P md ops C n L (f + 1) listed a := by
  intro f
  induction f with
  | zero =>
    intro listed a inv hp _ hr hy H
    refine ⟨(fun h0 => (by rw [h0] at hr; cases hr)), fun j hj => ?_⟩
    have hjn : j < n := Nat.lt_of_not_le fun hle => tail_waitsP hs hc inv hp _ i rfl hin (mem_ready.1 hr).1 j hle hj
    refine ⟨hjn, ?_⟩
    by_cases hji : j = i
    · subst hji; exact hy.qOp hi H
    · exact absurd (hdone _ _ H j (ready_mono hj hji)) (by omega)
  | succ f ih =>
    intro listed a inv hp hfree hr hy H
    refine ⟨(fun h0 => (by rw [h0] at hr; cases hr)), fun j hj => ?_⟩
    have hjn : j < n := Nat.lt_of_not_le fun hle => tail_waitsP hs hc inv hp _ i rfl hin (mem_ready.1 hr).1 j hle hj
    refine ⟨hjn, ?_⟩
    by_cases hji : j = i
    · subst hji; exact hy.qOp hi H
    obtain ⟨hju, oj, hoj, hall⟩ := mem_ready.1 hj
    have hno : ∀ e ∈ oj.after, Region.binds md e = true → e.on ≠ i := by
      intro e he hb q
      have q2 := hall e he hb
      rw [q, getD_both (mem_ready.1 hr).1] at q2
      cases q2
    refine qOp_mono (fun a' h3 => ?_) (qOp_put hoj (hfree j oj hoj hji hju hno) (fun cs b => hsel i oi cs b hi) (fun cs b => hsel j oj cs b hoj) hy (H.2 j (ready_mono hj hji)).2)
    refine ih (listed.setIfInBounds j true) a' (inv.set hj hjn) (pre_set hp) (fun k ok hk hki hun hno2 => hfree k ok hk hki ?_ hno2) (ready_mono hr (Ne.symm hji)) h3.1 ?_
    · by_cases hjk : j = k
      · subst hjk; exact hju
      · rwa [getD_set_ne true hjk] at hun
    · rw [Array.setIfInBounds_comm _ _ hji]; exact h3.2
theorem head_lex {pre : List Nat} {n g : Nat} {Lq : Act → Prop} (hsel : Region.noSelect ops = true) (hs : sinkP md ops pre n = true) (hc : Region.chainB md ops n = true) :
    ∀ (l : List Oper) (k : Nat) (listed : Array Bool) (a : Act), (∀ j, j < l.length → l[j]? = ops[k + j]?) → k + l.length = n → HeadInv md ops n listed → (∀ k ∈ pre, listed.getD k true = true) →
    Region.lexHead md ops g l.length k listed = true → wpQuiet P ops C Lq l a → headAny P md ops C n (fun listed' a' => Region.seqB md ops g n listed' = true ∧ Lq a') l.length listed a := by
  intro l
  induction l with
  | nil =>
    intro k listed a _ hk _ _ hB h
    obtain rfl : k = n := by simpa using hk
    exact ⟨by simpa [Region.lexHead] using hB, h⟩
  | cons o l ih =>
    intro k listed a hl hk inv hp hB h
    have h0 : ops[k]? = some o := by simpa using (hl 0 (by simp)).symm
    simp only [List.length_cons, Region.lexHead, Bool.and_eq_true] at hB
    have hkn : k < n := by simp only [List.length_cons] at hk; omega
    have hr : k ∈ Region.ready md ops listed := by simpa using hB.1.1
    have hst : qOp P ops C k (wpQuiet P ops C Lq l) a := by unfold qOp; simp only [h0]; exact h
    obtain ⟨v, hy, hK⟩ := yieldsIn_of_qOp h0 hst
    refine head_first h0 (Region.noSelect_spec hsel) hs hc hkn (fun _ _ hL => seqB_ready hL.1) l.length listed a inv hp (Region.free_spec h0 hB.1.2) hr hy ?_
    refine ih (k + 1) _ _ (fun j hj => ?_) (by simp only [List.length_cons] at hk; omega) (inv.set hr hkn) (pre_set hp) hB.2 hK
    have := hl (j + 1) (by simp; omega)
    simpa [Nat.add_assoc, Nat.add_comm 1 j] using this
end
/-- The tail's check, with the numbers 'pre' (0 .. m - 1) taken ahead. -/
def tailB (md : Region.Mode) (ops : Array Oper) (m n : Nat) : Bool :=
  Region.noSelect ops && decide (n < ops.size) && decide (m ≤ n) && sinkP md ops (List.range m) n && Region.chainB md ops n && Region.lexHead md ops (ops.size - n) (n - m) m ((List.range m).foldl (fun s i => s.setIfInBounds i true) (Array.replicate ops.size false))
/-- A region that draws its order, with a tail: the first n operations only read (their callees make memory), those behind come in one order alone and may write. -/
theorem region_tail {P : Program} {id : Nat} {Q : Exit → Act → World → Prop} {a : Act} {w : World} {l : List Oper} (n : Nat) (hm : P.follows .mixedOrders = true) (hB : tailB .any l.toArray 0 n = true)
    (h : wpQuiet P l.toArray (fun W => ∃ x : After w, W = x.1) (fun a' => ∀ W, Below w.heap.size w W → wpList P l.toArray Q (l.drop n) a' W) (l.take n) a) : (Code.region id l.toArray true).wp P Q a w := by
  simp only [tailB, Bool.and_eq_true, decide_eq_true_eq, List.range_zero, List.foldl_nil, Nat.sub_zero] at hB
  obtain ⟨⟨⟨⟨⟨hsel, hn⟩, _⟩, hs⟩, hc⟩, hlex⟩ := hB
  have hn' : n < l.length := by simpa using hn
  have htl : (l.take n).length = n := by simp; omega
  have hdl : (l.drop n).length = l.toArray.size - n := by simp
  have inv0 : HeadInv .any l.toArray n (Array.replicate l.toArray.size false) :=
    ⟨by simp, fun j oj _ hl => (by rw [getD_replicate_false] at hl; cases hl), fun t _ ht => getD_in (by simpa using ht) (getD_replicate_false _ _)⟩
  have H := head_lex (md := .any) (g := l.toArray.size - n) hsel hs hc (l.take n) 0 _ a (fun j hj => by
    have hj' : j < n := by rw [htl] at hj; exact hj
    simp [hj']) (by simpa using htl) inv0 (by simp) (by rw [htl]; exact hlex) h
  refine wp_region_any hm ?_
  have hC : (fun W => ∃ x : After w, W = x.1) { w with drawn := w.drawn + 1 } := ⟨⟨w.drew, below_drew (Below.refl _ _)⟩, rfl⟩
  have := any_of_head (Q := Q) (g := l.toArray.size - n) (fun listed a' w' hw' hL => by
    obtain ⟨x, rfl⟩ := hw'
    have := wpAny_of_seq (md := .any) (Q' := Q) (l.drop n) n listed a' x.1 (fun j => by simp [List.getElem?_drop]) (by rw [hdl]; exact hL.1) (hL.2 x.1 x.2)
    rwa [hdl] at this) _ _ _ _ hC H
  rw [htl] at this
  have e : n + (l.toArray.size - n) = l.toArray.size := by simp; omega
  rwa [e] at this
/-- The same, where the first operation copies a value (the left side's pointer) and may come up late. -/
theorem region_tail1 {P : Program} {id : Nat} {Q : Exit → Act → World → Prop} {a : Act} {w : World} {o : Oper} {l : List Oper} (n : Nat) (x : Operand) (hx : o.op = .move x) (hgd : o.guard = none) (haf : o.after = #[]) (hm : P.follows .mixedOrders = true)
    (hB : tailB .any (o :: l).toArray 1 (n + 1) = true) (hf : Region.free .any (o :: l).toArray (Array.replicate (o :: l).toArray.size false) 0 = true) (hQ : ∀ v c a w, Q (.panic c) (a.put o.dst v) w → Q (.panic c) a w)
    (h0 : wpQuiet P (o :: l).toArray (fun W => ∃ x : After w, W = x.1) (fun a' => ∀ W, Below w.heap.size w W → wpList P (o :: l).toArray Q ((o :: l).drop (n + 1)) a' W) ((o :: l).take (n + 1)) a) : (Code.region id (o :: l).toArray true).wp P Q a w := by
  have h : wpQuiet P (o :: l).toArray (fun W => ∃ x : After w, W = x.1) (fun a' => ∀ W, Below w.heap.size w W → wpList P (o :: l).toArray Q (l.drop n) a' W) (l.take n) (a.put o.dst (a.eval x)) := by
    rw [List.take_succ_cons] at h0
    have hw : Region.wanted o (yielded (o :: l).toArray a.tmps) = true := by simp [Region.wanted, hgd]
    unfold wpQuiet at h0
    rw [if_pos hw] at h0
    obtain ⟨v, h1, h2⟩ := h0
    have h3 := h1 w ⟨⟨w, Below.refl _ _⟩, rfl⟩
    unfold Oper.quietAt at h3
    rw [Go.BigFrame.run_move x hx] at h3
    rw [h3.2]
    exact h2
  simp only [tailB, Bool.and_eq_true, decide_eq_true_eq] at hB
  obtain ⟨⟨⟨⟨⟨hsel, hn⟩, _⟩, hs⟩, hc⟩, hlex⟩ := hB
  have hlex' : Region.lexHead .any (o :: l).toArray ((o :: l).toArray.size - (n + 1)) n 1 ((Array.replicate (o :: l).toArray.size false).setIfInBounds 0 true) = true := hlex
  have hn' : n < l.length := by simpa using hn
  have htl : (l.take n).length = n := by simp; omega
  have hdl : (l.drop n).length = (o :: l).toArray.size - (n + 1) := by simp
  have h00 : (o :: l).toArray[0]? = some o := by simp
  have inv0 : HeadInv .any (o :: l).toArray (n + 1) ((Array.replicate (o :: l).toArray.size false).setIfInBounds 0 true) :=
    ⟨by simp, fun j oj hj hl => (by
      by_cases h0 : 0 = j
      · subst h0
        obtain rfl : o = oj := Option.some.inj (h00.symm.trans hj)
        intro e he
        rw [haf] at he
        simp at he
      · rw [getD_set_ne false h0, getD_replicate_false] at hl; cases hl), fun t ht1 ht => (by rw [getD_set_ne true (by omega)]; exact getD_in (by simpa using ht) (getD_replicate_false _ _))⟩
  have hp : ∀ k ∈ List.range 1, ((Array.replicate (o :: l).toArray.size false).setIfInBounds 0 true).getD k true = true := by
    intro k hk
    obtain rfl : k = 0 := by simpa using hk
    simp
  have H := head_lex (md := .any) (g := (o :: l).toArray.size - (n + 1)) hsel hs hc (l.take n) 1 _ (a.put o.dst (a.eval x)) (fun j hj => by
    have hj' : j < n := by rw [htl] at hj; exact hj
    rw [Nat.add_comm]
    simp [hj']) (by rw [htl, Nat.add_comm]) inv0 hp (by rw [htl]; exact hlex') h
  refine wp_region_any hm ?_
  have hC : (fun W => ∃ x : After w, W = x.1) { w with drawn := w.drawn + 1 } := ⟨⟨w.drew, below_drew (Below.refl _ _)⟩, rfl⟩
  have := any_of_head (Q := Q) (g := (o :: l).toArray.size - (n + 1)) (fun listed a' w' hw' hL => by
    obtain ⟨x, rfl⟩ := hw'
    have := wpAny_of_seq (md := .any) (Q' := Q) (l.drop n) (n + 1) listed a' x.1 (fun j => by rw [Nat.add_right_comm]; simp [List.getElem?_drop]) (by rw [hdl]; exact hL.1) (hL.2 x.1 x.2)
    rwa [hdl] at this) _ _ _ _ hC H
  rw [htl] at this
  have e1 : n + ((o :: l).toArray.size - (n + 1)) + 1 = (o :: l).toArray.size := by simp; omega
  rw [← e1]
  refine wpAny_take h00 hsel (by rw [e1]; exact hf) ?_ (hQ _) (.inl ⟨by simp [Region.wanted, hgd], fun w => Go.BigFrame.run_move x hx w⟩) (by rw [e1]; exact this)
  rw [List.contains_iff_mem, mem_ready]
  refine ⟨?_, o, h00, fun e he => by rw [haf] at he; simp at he⟩
  rw [e1]
  simp
theorem cellv {w : World} {g : Nat} {cs : Array Value} {T : TypeId} (h : w.heap[g]? = some (.cells cs T (0, 0))) (i : Nat) (v : Value) (e : cs[i]? = some v) : w.cell? ⟨g, i, none⟩ = some v := (blk_cell h i).trans e
theorem blk_over {α : Type} {d : Kd α} {e : Nat} {w w1 : World} {base : Nat} {ok : Nat → Prop} {v : Value} {xs : List α} {g : Nat} {cs : Array Value} {T : TypeId} (hb : w.heap[g]? = some (.cells cs T (0, 0))) (hv : d.R e w base ok v xs) (hne : e ≠ T) (hg : w.grownBy w1 v.ownBlock) :
    w1.heap[g]? = some (.cells cs T (0, 0)) := blk_grown hb hg (Kd.R_ne hv hb hne)
theorem row_over {α : Type} {d : Kd α} {e : Nat} {w w1 : World} {base g : Nat} {ok : Nat → Prop} {v : Value} {xs : List α} {cs : Array Value} {T : TypeId} (hv : d.R e w base ok v xs) (hb : w.heap[g]? = some (.cells cs T (0, 0))) (ht : ∀ q, q ∈ e :: d.E → q ≠ T) (hg : w.grownBy w1 (some g)) :
    d.R e w1 base ok v xs := Kd.R_mono (Kd.R_grown (Kd.R_types hv hb ht) hg (fun k hk h => hk.2 (by injection h))) (fun _ hk => hk.1)
theorem below_grow {base : Nat} {w0 w w1 : World} {row : Option Nat} (h : Below base w0 w) (hb : base ≤ w.heap.size) (hg : w.grownBy w1 row) (hr : ∀ k, row = some k → base ≤ k) : Below base w0 w1 := h.grown hg hb hr
section
variable {P : Program} {ops : Array Oper} {rest : List Oper} {o : Oper} {a : Act} {Q : Exit → Act → World → Prop}
/-- A store into a block that is known whole. -/
theorem store_blk {W : World} (hN : o.dst = none) (hgd : o.guard = none) (t : TypeId) (p x : Operand) (ho : o.op = .store t p x) {g j : Nat} {cs : Array Value} {T : TypeId} (u : Value) (seg : List Value) (cs' : Array Value)
    (haddr : a.eval p = .pointer (some ⟨g, j, none⟩)) (hx : a.eval x = u) (hu : u.cells.toList = seg) (ht : (P.info? t).map (·.size) = some seg.length) (h1 : ∀ q ∈ seg, q.oneCell' = true)
    (hb : W.heap[g]? = some (.cells cs T (0, 0))) (hfit : j + seg.length ≤ cs.size) (hcs : cs.toList.take j ++ seg ++ cs.toList.drop (j + seg.length) = cs'.toList)
    (h : ∀ w1 : World, w1.heap[g]? = some (.cells cs' T (0, 0)) → W.grownBy w1 (some g) → w1.heap.size = W.heap.size → wpList P ops Q rest a w1) : wpList P ops Q (o :: rest) a W := by
  obtain ⟨cur', h3, h4, h5⟩ := setCells_row seg j W cs hb hfit
  obtain ⟨s1, s2, s3, s4⟩ := setCells_same g seg j W
  have e : cur' = cs' := by
    apply Array.toList_inj.1
    rw [h5, hcs]
  subst e
  refine wpList_plain hgd fun K hK => ?_
  have hrun := run_store_run (P := P) (w := W) (o := j) t u seg hb hu ht hfit h1
  unfold Oper.wp execOp
  simp only [ho, haddr, hx, Sem.run_bind, Sem.run_pure, Result.andThen_ok, hrun]
  show K (a.put o.dst undef) _
  rw [hN]
  exact hK a _ (h _ h3 ⟨s1, s2, s3, by rw [s4]; exact Nat.le_refl _, fun k _ hk => setCells_far seg _ k (fun he => hk (by rw [he]))⟩ s4)
end
end Go.Proofs.Ytdcjapdkbocgmaa.Hd
