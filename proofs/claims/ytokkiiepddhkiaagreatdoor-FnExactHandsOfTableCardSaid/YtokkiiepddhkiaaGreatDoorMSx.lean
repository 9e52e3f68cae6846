/- The walk by slots: a frame is a list of what its slots hold, one lemma an operation; a world is a list of pieces, each with blocks of its own. -/
import Derived.Test.YtokkiiepddhkiaaGreatDoorMRegion
import Derived.Deep.MidRow
namespace Go.Proofs.YtokkiiepddhkiaaGreatDoor.Hd
open Go.RowKit Go.Proofs.YtokkiiepddhkiaaGreatDoorW.PrintWords Go.Proofs.YtokkiiepddhkiaaGreatDoorW.PrintLast Go.Proofs.YtokkiiepddhkiaaGreatDoorW.PrintMore
set_option linter.unusedVariables false
/-- What slot t holds. -/
def look : List (Nat × Value) → Nat → Value
  | [], _ => undef
  | p :: s, t => bif Nat.beq p.1 t then p.2 else look s t
/-- The frame of N slots. -/
def fr (N : Nat) (s : List (Nat × Value)) : Act := ⟨((List.range N).map (look s)).toArray, []⟩
def evl (N : Nat) (s : List (Nat × Value)) : Operand → Value
  | .tmp t => bif Nat.blt t N then look s t else undef
  | .const v => v
  | .global g => .pointer (some ⟨g, 0, none⟩)
  | .func f => .func (.func f) #[] #[]
theorem fr_get (N : Nat) (s : List (Nat × Value)) (t : Nat) : (fr N s).tmps.getD t undef = bif Nat.blt t N then look s t else undef := by
  unfold fr
  cases h : Nat.blt t N with
  | true =>
    have h2 : t < N := by simpa [Nat.blt_eq] using h
    simp [h2]
  | false =>
    have h2 : ¬ t < N := fun h3 => by have := Nat.blt_eq.symm ▸ h3; rw [h] at this; cases this
    simp [h2]
theorem fr_eval (N : Nat) (s : List (Nat × Value)) : (fr N s).eval = evl N s := by
  funext x
  cases x with
  | tmp t => exact fr_get N s t
  | const v => rfl
  | global g => rfl
  | func f => rfl
theorem fr_put {N d : Nat} (s : List (Nat × Value)) (v : Value) (h : Nat.blt d N = true) : (fr N s).put (some d) v = fr N ((d, v) :: s) := by
  unfold fr Act.put
  simp only [List.setIfInBounds_toArray]
  congr 2
  apply List.ext_getElem?
  intro i
  rw [List.getElem?_set]
  have hd : d < N := by simpa [Nat.blt_eq] using h
  by_cases e : d = i
  · subst e
    simp [hd, look]
  · rw [if_neg e]
    simp only [List.getElem?_map]
    cases hr : (List.range N)[i]? with
    | none => rfl
    | some q =>
      have hq : q = i := by
        obtain ⟨_, h2⟩ := List.getElem?_eq_some_iff.1 hr
        simpa using h2.symm
      subst hq
      have : Nat.beq d q = false := by
        cases hb : Nat.beq d q with
        | false => rfl
        | true => exact absurd (Nat.eq_of_beq_eq_true hb) e
      simp [look, this]
def slots0 : Nat → List Value → List (Nat × Value)
  | _, [] => []
  | i, v :: l => (i, v) :: slots0 (i + 1) l
theorem look_slots0 (l : List Value) : ∀ (i t : Nat), look (slots0 i l) t = if i ≤ t then l.getD (t - i) undef else undef := by
  induction l with
  | nil => intro i t; simp [slots0, look]
  | cons v l ih =>
    intro i t
    unfold slots0 look
    dsimp only
    cases hb : Nat.beq i t with
    | true =>
      obtain rfl := Nat.eq_of_beq_eq_true hb
      simp
    | false =>
      have hne : i ≠ t := fun e => by subst e; rw [Nat.beq_refl] at hb; cases hb
      rw [cond_false, ih]
      by_cases h : i ≤ t
      · rw [if_pos h, if_pos (by omega)]
        obtain ⟨m, hm⟩ : ∃ m, t - i = m + 1 := ⟨t - i - 1, by omega⟩
        have hm2 : t - (i + 1) = m := by omega
        rw [hm, hm2]
        rfl
      · rw [if_neg h, if_neg (by omega)]
theorem fr_enter (N : Nat) (l : List Value) (h : l.length ≤ N) : ({ tmps := l.toArray ++ Array.replicate (N - l.toArray.size) undef, defers := [] } : Act) = fr N (slots0 0 l) := by
  unfold fr
  congr 1
  apply Array.toList_inj.1
  apply List.ext_getElem?
  intro i
  simp only [Array.toList_append, Array.toList_replicate, List.size_toArray]
  rw [List.getElem?_append]
  by_cases h1 : i < l.length
  · rw [if_pos h1, List.getElem?_map, List.getElem?_range (by omega)]
    simp [look_slots0, h1]
  · rw [if_neg h1, List.getElem?_map]
    by_cases h2 : i < N
    · rw [List.getElem?_range h2, List.getElem?_replicate, if_pos (by omega)]
      simp only [Option.map_some, look_slots0, Nat.zero_le, if_true, Nat.sub_zero]
      rw [List.getD_eq_getElem?_getD, List.getElem?_eq_none (by omega)]; rfl
    · rw [List.getElem?_replicate, if_neg (by omega), List.getElem?_eq_none (by simp; omega)]
      rfl
section
variable {P : Program} {ops : Array Oper} {Q : Exit → Act → World → Prop} {N : Nat} {s : List (Nat × Value)} {rest : List Oper} {o : Oper} {W W' : World}
def okB (o : Oper) (d N : Nat) : Bool := (match o.guard with | none => true | some _ => false) && (match o.dst with | some q => Nat.beq q d | none => false) && Nat.blt d N
theorem okB_spec {o : Oper} {d N : Nat} (h : okB o d N = true) : o.guard = none ∧ o.dst = some d ∧ Nat.blt d N = true := by
  unfold okB at h
  simp only [Bool.and_eq_true] at h
  obtain ⟨⟨h1, h2⟩, h3⟩ := h
  refine ⟨?_, ?_, h3⟩
  · cases hg : o.guard with
    | none => rfl
    | some q => rw [hg] at h1; cases h1
  · cases hd : o.dst with
    | none => rw [hd] at h2; cases h2
    | some q => rw [hd] at h2; rw [Nat.eq_of_beq_eq_true h2]
def noB (o : Oper) : Bool := (match o.guard with | none => true | some _ => false) && (match o.dst with | some _ => false | none => true)
theorem noB_spec {o : Oper} (h : noB o = true) : o.guard = none ∧ o.dst = none := by
  unfold noB at h
  simp only [Bool.and_eq_true] at h
  obtain ⟨h1, h2⟩ := h
  refine ⟨?_, ?_⟩
  · cases hg : o.guard with
    | none => rfl
    | some q => rw [hg] at h1; cases h1
  · cases hd : o.dst with
    | none => rfl
    | some q => rw [hd] at h2; cases h2
/-- The same goals, closed to the eye. -/
structure WL (P : Program) (ops : Array Oper) (Q : Exit → Act → World → Prop) (l : List Oper) (a : Act) (w : World) : Prop where mk :: (out : wpList P ops Q l a w)
structure WQ (P : Program) (ops : Array Oper) (C : World → Prop) (L : Act → Prop) (l : List Oper) (a : Act) : Prop where mk :: (out : wpQuiet P ops C L l a)
/-- An operation that hands back a value. -/
theorem sx_val (d : Nat) (v : Value) (hk : okB o d N = true) (hr : (execOp (evl N s) o).run P W = .ok (.value v) W') (h : WL P ops Q rest (fr N ((d, v) :: s)) W') : WL P ops Q (o :: rest) (fr N s) W := by
  refine ⟨?_⟩
  obtain ⟨h1, h2, h3⟩ := okB_spec hk
  refine wpList_plain h1 fun K hK => ?_
  unfold Oper.wp
  rw [fr_eval, hr]
  show K ((fr N s).put o.dst v) W'
  rw [h2, fr_put _ _ h3]
  exact hK _ _ h.out
/-- The same, the world as it is. -/
theorem sx_rd (d : Nat) (v : Value) (hk : okB o d N = true) (hr : (execOp (evl N s) o).run P W = .ok (.value v) W) (h : WL P ops Q rest (fr N ((d, v) :: s)) W) : WL P ops Q (o :: rest) (fr N s) W := sx_val d v hk hr h
/-- An operation that hands back nothing. -/
theorem sx_unit (hk : noB o = true) (hr : (execOp (evl N s) o).run P W = .ok .skip W') (h : WL P ops Q rest (fr N s) W') : WL P ops Q (o :: rest) (fr N s) W := by
  refine ⟨?_⟩
  obtain ⟨h1, h2⟩ := noB_spec hk
  refine wpList_plain h1 fun K hK => ?_
  unfold Oper.wp
  rw [fr_eval, hr]
  show K ((fr N s).put o.dst undef) W'
  rw [h2]
  exact hK _ _ h.out
/-- A call of a Go function. -/
theorem sx_call (d : Nat) {f : FuncId} {args : Array Value} (hk : okB o d N = true) (hr : (execOp (evl N s) o).run P W = .ok (.enter f args) W)
    (hc : Calls P f args W fun e w' => ∃ v, e = .returned v ∧ WL P ops Q rest (fr N ((d, v) :: s)) w') : WL P ops Q (o :: rest) (fr N s) W := by
  refine ⟨?_⟩
  obtain ⟨h1, h2, h3⟩ := okB_spec hk
  refine wpList_plain h1 fun K hK => ?_
  unfold Oper.wp
  rw [fr_eval, hr]
  refine hc.mono fun e w' ⟨v, he, h⟩ => ?_
  subst he
  show K ((fr N s).put o.dst v) w'
  rw [h2, fr_put _ _ h3]
  exact hK _ _ h.out
theorem sx_nil (h : Q .normal (fr N s) W) : WL P ops Q [] (fr N s) W := ⟨h⟩
theorem sx_region {id : Nat} {l : List Oper} (h : WL P l.toArray Q l (fr N s) W) : (Code.region id l.toArray false).wp P Q (fr N s) W := wp_region_lit h.out
theorem sx_cond {c : Operand} {x y : Code} (t : Bool) (hc : evl N s c = .bool t) (ht : t = true → x.wp P Q (fr N s) W) (hf : t = false → y.wp P Q (fr N s) W) : (Code.cond c x y).wp P Q (fr N s) W :=
  wp_cond_split (by rw [fr_eval]; exact hc) ht hf
theorem sx_then {c : Operand} {x y : Code} (t : Bool) (hc : evl N s c = .bool t) (e : t = true) (h : x.wp P Q (fr N s) W) : (Code.cond c x y).wp P Q (fr N s) W :=
  wp_cond_true (by rw [fr_eval, hc, e]) h
theorem sx_else {c : Operand} {x y : Code} (t : Bool) (hc : evl N s c = .bool t) (e : t = false) (h : y.wp P Q (fr N s) W) : (Code.cond c x y).wp P Q (fr N s) W :=
  wp_cond_false (by rw [fr_eval, hc, e]) h
end
section
variable {P : Program} {Q : Exit → Act → World → Prop} {K : Act → World → Prop} {a : Act} {W : World} {i id : Nat}
theorem ex_then_n (h : K a W) : Exit.then K Q .normal a W := h
theorem ex_then_e (h : Q (.exit i) a W) : Exit.then K Q (.exit i) a W := h
theorem ex_then_r (h : Q .ret a W) : Exit.then K Q .ret a W := h
theorem ex_blk_n (h : Q .normal a W) : Exit.inBlock id Q .normal a W := h
theorem ex_blk_here (h : Q .normal a W) : Exit.inBlock id Q (.exit id) a W := by unfold Exit.inBlock; simpa using h
theorem ex_blk_r (h : Q .ret a W) : Exit.inBlock id Q .ret a W := h
end
section
variable {P : Program} {fn : Func} {R : Ending → World → Prop} {N : Nat} {s : List (Nat × Value)} {W : World}
theorem sx_enter {f : FuncId} {c : Code} {l : List Value} (hf : P.funcs[f]? = some fn) (hb : fn.body = some c) (hn : fn.ntmps = N) (hl : Nat.ble l.length N = true) (h : c.wp P (bodyPost P fn R) (fr N (slots0 0 l)) W) : Calls P f l.toArray W R := by
  refine calls_of_wp hf hb ?_
  rw [hn, fr_enter N l (Nat.le_of_ble_eq_true hl)]
  exact h
theorem sx_end (v : Value) (hr : (results fn (fr N s).tmps).run P W = .ok v W) (h : R (.returned v) W) : bodyPost P fn R .ret (fr N s) W := ⟨rfl, v, hr, h⟩
theorem sx_end_n (v : Value) (hr : (results fn (fr N s).tmps).run P W = .ok v W) (h : R (.returned v) W) : bodyPost P fn R .normal (fr N s) W := ⟨rfl, v, hr, h⟩
theorem res1 (t : Nat) (h : fn.results = #[.tmp t]) : (results fn (fr N s).tmps).run P W = .ok (evl N s (.tmp t)) W := by rw [results_tmp h, fr_get]; rfl
theorem res2 (t u : Nat) (h : fn.results = #[.tmp t, .tmp u]) : (results fn (fr N s).tmps).run P W = .ok (.tuple #[evl N s (.tmp t), evl N s (.tmp u)]) W := by rw [results_tmp2 h, fr_get, fr_get]; rfl
theorem res0 (h : fn.results = #[]) : (results fn (fr N s).tmps).run P W = .ok (.tuple #[]) W := results_none h _ _ _
end
section
variable {P : Program} {ops : Array Oper} {md : Region.Mode} {C : World → Prop} {L : Act → Prop} {Q : Exit → Act → World → Prop} {N : Nat} {s : List (Nat × Value)} {rest : List Oper} {o : Oper} {W W' : World}
theorem sxq_nil {a : Act} (h : L a) : WQ P ops C L [] a := ⟨h⟩
theorem sxq_val (d : Nat) (v : Value) (hk : okB o d N = true) (hr : ∀ W, C W → (execOp (evl N s) o).run P W = .ok (.value v) W) (h : WQ P ops C L rest (fr N ((d, v) :: s))) : WQ P ops C L (o :: rest) (fr N s) := by
  refine ⟨?_⟩
  obtain ⟨h1, h2, h3⟩ := okB_spec hk
  unfold wpQuiet
  rw [if_pos (by simp [Region.wanted, h1])]
  refine ⟨v, fun W hW => ?_, by rw [h2, fr_put _ _ h3]; exact h.out⟩
  unfold Oper.quietAt
  rw [fr_eval, hr W hW]
  exact ⟨rfl, rfl⟩
end
theorem wr_ok {run : World → Result Next} {W : World} {x : Int} (hb : -9223372036854775808 ≤ x ∧ x ≤ 9223372036854775807) (hr : run W = .ok (.value (.int .i64 (IntKind.wrap .i64 x))) W) : run W = .ok (.value (.int .i64 x)) W := by
  rw [hr, IntWalk.i64_in _ (by omega)]
def fronts (s : List (Nat × Value)) : List (Nat × Value) → Prop
  | [] => True
  | p :: l => look s p.1 = p.2 ∧ fronts s l
theorem look_front (s : List (Nat × Value)) : ∀ l : List (Nat × Value), fronts s l → ∀ t, look (l ++ s) t = look s t := by
  intro l
  induction l with
  | nil => intro _ t; rfl
  | cons p l ih =>
    intro h t
    obtain ⟨h1, h2⟩ := h
    show (bif Nat.beq p.1 t then p.2 else look (l ++ s) t) = look s t
    cases hb : Nat.beq p.1 t with
    | true => rw [← Nat.eq_of_beq_eq_true hb, h1]; rfl
    | false => exact ih h2 t
/-- The same frame, with what it holds in some slots written ahead. -/
theorem fr_front {N : Nat} {s : List (Nat × Value)} (l : List (Nat × Value)) (h : fronts s l) : fr N s = fr N (l ++ s) := by
  unfold fr
  congr 3
  funext t
  exact (look_front s l h t).symm
structure Mv (S : Nat → Prop) (w w' : World) : Prop where
  os : w'.os = w.os
  tape : w'.tape = w.tape
  output : w'.output = w.output
  size : w.heap.size ≤ w'.heap.size
  block : ∀ k, k < w.heap.size → ¬ S k → w'.heap[k]? = w.heap[k]?
theorem Mv.refl (S : Nat → Prop) (w : World) : Mv S w w := ⟨rfl, rfl, rfl, Nat.le_refl _, fun _ _ _ => rfl⟩
theorem Mv.of_below {w w' : World} {B : Nat} (h : Below B w w') : Mv (fun k => B ≤ k) w w' := ⟨h.os, h.tape, h.output, h.size, fun k _ hk => h.block k (by omega)⟩
theorem Mv.quiet {w w' : World} (h : Below w.heap.size w w') : Mv (fun _ => False) w w' := ⟨h.os, h.tape, h.output, h.size, fun k hk _ => h.block k hk⟩
theorem Mv.below {w w' : World} (h : Mv (fun _ => False) w w') : Below w.heap.size w w' := ⟨h.os, h.tape, h.output, h.size, fun k hk => h.block k hk (fun x => x)⟩
theorem Mv.of_grown {w w' : World} {row : Option Nat} (h : w.grownBy w' row) : Mv (fun k => row = some k) w w' := ⟨h.os, h.tape, h.output, h.size, fun k hk hr => h.block k hk (fun e => hr e.symm)⟩
theorem Mv.trans {S : Nat → Prop} {w w1 w2 : World} (h : Mv S w w1) (k : Mv S w1 w2) : Mv S w w2 := ⟨k.os.trans h.os, k.tape.trans h.tape, k.output.trans h.output, Nat.le_trans h.size k.size, fun i hi hs => (k.block i (Nat.lt_of_lt_of_le hi h.size) hs).trans (h.block i hi hs)⟩
theorem Mv.mono {S S' : Nat → Prop} {w w1 : World} (h : Mv S w w1) (hs : ∀ k, S k → S' k) : Mv S' w w1 := ⟨h.os, h.tape, h.output, h.size, fun i hi hn => h.block i hi (fun hk => hn (hs i hk))⟩
/-- A piece of a world: its blocks, and what it says. -/
structure Chunk where
  fp : Nat → Prop
  ok : World → Prop
  move : ∀ {w w' : World}, ok w → (∀ k, fp k → w'.heap[k]? = w.heap[k]?) → ok w'
  live : ∀ {w : World}, ok w → ∀ k, fp k → k < w.heap.size
def noChunk : Chunk := ⟨fun _ => False, fun _ => True, fun _ _ => trivial, fun _ _ h => h.elim⟩
instance : Inhabited Chunk := ⟨noChunk⟩
structure Hp (w0 : World) (cs : List Chunk) (W : World) : Prop where
  ok : ∀ (i : Nat) (c : Chunk), cs[i]? = some c → c.ok W
  ap : ∀ (i j : Nat) (c d : Chunk), i ≠ j → cs[i]? = some c → cs[j]? = some d → ∀ k, c.fp k → d.fp k → False
  os : W.os = w0.os
  tape : W.tape = w0.tape
  output : W.output = w0.output
  size : w0.heap.size ≤ W.heap.size
section
variable {w0 W W' : World} {cs : List Chunk}
theorem Hp.at_ (h : Hp w0 cs W) (i : Nat) (c : Chunk) (hc : cs[i]? = some c) : c.ok W := h.ok i c hc
theorem Hp.upd (h : Hp w0 cs W) (i : Nat) (c c' : Chunk) (hc : cs[i]? = some c) (m : Mv c.fp W W') (hok : c'.ok W') (hfp : ∀ k, c'.fp k → c.fp k ∨ W.heap.size ≤ k) : Hp w0 (cs.set i c') W' := by
  have hi : i < cs.length := (List.getElem?_eq_some_iff.1 hc).1
  refine ⟨fun j d hd => ?_, fun j j' d d' hne hd hd' k hk hk' => ?_, m.os.trans h.os, m.tape.trans h.tape, m.output.trans h.output, Nat.le_trans h.size m.size⟩
  · rw [List.getElem?_set] at hd
    by_cases e : i = j
    · rw [if_pos e, if_pos hi] at hd
      injection hd with hd
      subst hd
      exact hok
    · rw [if_neg e] at hd
      refine d.move (h.ok j d hd) (fun k hk => m.block k (d.live (h.ok j d hd) k hk) (fun hc2 => h.ap i j c d e hc hd k hc2 hk))
  · rw [List.getElem?_set] at hd hd'
    by_cases e : i = j
    · rw [if_pos e, if_pos hi] at hd
      injection hd with hd
      subst hd
      rw [if_neg (fun e2 => hne (e.symm.trans e2))] at hd'
      rcases hfp k hk with h1 | h1
      · exact h.ap i j' c d' (fun e2 => hne (e.symm.trans e2)) hc hd' k h1 hk'
      · have := d'.live (h.ok j' d' hd') k hk'
        omega
    · rw [if_neg e] at hd
      by_cases e' : i = j'
      · rw [if_pos e', if_pos hi] at hd'
        injection hd' with hd'
        subst hd'
        rcases hfp k hk' with h1 | h1
        · exact h.ap i j c d e hc hd k h1 hk
        · have := d.live (h.ok j d hd) k hk
          omega
      · rw [if_neg e'] at hd'
        exact h.ap j j' d d' hne hd hd' k hk hk'
theorem Hp.mv (h : Hp w0 cs W) (m : Mv (fun _ => False) W W') : Hp w0 cs W' :=
  ⟨fun j d hd => d.move (h.ok j d hd) (fun k hk => m.block k (d.live (h.ok j d hd) k hk) (fun x => x)), h.ap, m.os.trans h.os, m.tape.trans h.tape, m.output.trans h.output, Nat.le_trans h.size m.size⟩
theorem Hp.below (h : Hp w0 cs W) (m : Below W.heap.size W W') : Hp w0 cs W' := h.mv (Mv.quiet m)
theorem Hp.drew (h : Hp w0 cs W) : Hp w0 cs W.drew := h.below (below_drew (Below.refl _ _))
theorem Hp.add (h : Hp w0 cs W) (m : Mv (fun _ => False) W W') (c : Chunk) (hok : c.ok W') (hfp : ∀ k, c.fp k → W.heap.size ≤ k) : Hp w0 (c :: cs) W' := by
  have h' := h.mv m
  refine ⟨fun i d hd => ?_, fun i j d d' hne hd hd' k hk hk' => ?_, h'.os, h'.tape, h'.output, h'.size⟩
  · cases i with
    | zero => injection hd with hd; subst hd; exact hok
    | succ i => exact h'.ok i d hd
  · cases i with
    | zero =>
      injection hd with hd
      subst hd
      cases j with
      | zero => exact hne rfl
      | succ j => have := d'.live (h.ok j d' hd') k hk'; have := hfp k hk; omega
    | succ i =>
      cases j with
      | zero => injection hd' with hd'; subst hd'; have := d.live (h.ok i d hd) k hk; have := hfp k hk'; omega
      | succ j => exact h'.ap i j d d' (fun e => hne (by rw [e])) hd hd' k hk hk'
/-- Some of the pieces, in an order of choice. -/
def pickB (l : List Nat) (n : Nat) : Bool := l.all (fun i => decide (i < n)) && decide l.Nodup
theorem Hp.pick (h : Hp w0 cs W) (l : List Nat) (hl : pickB l cs.length = true) : Hp w0 (l.map fun i => cs.getD i noChunk) W := by
  unfold pickB at hl
  rw [Bool.and_eq_true, List.all_eq_true, decide_eq_true_eq] at hl
  obtain ⟨h1, h2⟩ := hl
  have key : ∀ (i : Nat) (c : Chunk), (l.map fun i => cs.getD i noChunk)[i]? = some c → ∃ q, l[i]? = some q ∧ cs[q]? = some c := by
    intro i c hc
    rw [List.getElem?_map] at hc
    cases hq : l[i]? with
    | none => rw [hq] at hc; cases hc
    | some q =>
      rw [hq] at hc
      injection hc with hc
      have hlt : q < cs.length := of_decide_eq_true (h1 q (List.mem_of_getElem? hq))
      refine ⟨q, rfl, ?_⟩
      rw [← hc]
      show cs[q]? = some (cs.getD q noChunk)
      rw [List.getD_eq_getElem?_getD, List.getElem?_eq_getElem hlt]
      rfl
  refine ⟨fun i c hc => ?_, fun i j c d hne hc hd => ?_, h.os, h.tape, h.output, h.size⟩
  · obtain ⟨q, _, hq⟩ := key i c hc
    exact h.ok q c hq
  · obtain ⟨q, e1, hq⟩ := key i c hc
    obtain ⟨q', e2, hq'⟩ := key j d hd
    refine h.ap q q' c d (fun e => ?_) hq hq'
    subst e
    obtain ⟨a1, a2⟩ := List.getElem?_eq_some_iff.1 e1
    obtain ⟨b1, b2⟩ := List.getElem?_eq_some_iff.1 e2
    have hp := List.pairwise_iff_getElem.1 h2
    rcases Nat.lt_or_gt_of_ne hne with hlt | hlt
    · exact hp i j a1 b1 hlt (a2.trans b2.symm)
    · exact hp j i b1 a1 hlt (b2.trans a2.symm)
theorem Hp.reindex {L' : List Chunk} (h : Hp w0 cs W) (f : Nat → Nat) (hf : ∀ i c, L'[i]? = some c → cs[f i]? = some c) (inj : ∀ i j, i < L'.length → j < L'.length → i ≠ j → f i ≠ f j) : Hp w0 L' W := by
  refine ⟨fun i c hc => h.ok (f i) c (hf i c hc), fun i j c d hne hc hd => ?_, h.os, h.tape, h.output, h.size⟩
  exact h.ap (f i) (f j) c d (inj i j (List.getElem?_eq_some_iff.1 hc).1 (List.getElem?_eq_some_iff.1 hd).1 hne) (hf i c hc) (hf j d hd)
/-- Some of the first n pieces, in an order of choice, and all behind these. -/
theorem Hp.take (h : Hp w0 cs W) (l : List Nat) (n : Nat) (hl : pickB l n = true) (hn : n ≤ cs.length) : Hp w0 (l.map (fun i => cs.getD i noChunk) ++ cs.drop n) W := by
  unfold pickB at hl
  rw [Bool.and_eq_true, List.all_eq_true, decide_eq_true_eq] at hl
  obtain ⟨h1, h2⟩ := hl
  refine h.reindex (fun i => if i < l.length then l.getD i 0 else n + (i - l.length)) (fun i c hc => ?_) (fun i j hi hj hne => ?_)
  · rw [List.getElem?_append] at hc
    by_cases hi : i < l.length
    · rw [if_pos (by simpa using hi), List.getElem?_map, List.getElem?_eq_getElem hi] at hc
      injection hc with hc
      have hlt : l[i] < n := of_decide_eq_true (h1 _ (List.getElem_mem hi))
      rw [if_pos hi, List.getD_eq_getElem?_getD, List.getElem?_eq_getElem hi, Option.getD_some]
      replace hc : cs.getD l[i] noChunk = c := hc
      rw [List.getD_eq_getElem?_getD, List.getElem?_eq_getElem (by omega), Option.getD_some] at hc
      rw [List.getElem?_eq_getElem (by omega), hc]
    · rw [if_neg (by simpa using hi), List.getElem?_drop, List.length_map] at hc
      rw [if_neg hi]
      exact hc
  · have hp := List.pairwise_iff_getElem.1 h2
    by_cases hi2 : i < l.length
    · have a1 : l[i] < n := of_decide_eq_true (h1 _ (List.getElem_mem hi2))
      by_cases hj2 : j < l.length
      · rw [if_pos hi2, if_pos hj2, List.getD_eq_getElem?_getD, List.getElem?_eq_getElem hi2, Option.getD_some, List.getD_eq_getElem?_getD, List.getElem?_eq_getElem hj2, Option.getD_some]
        rcases Nat.lt_or_gt_of_ne hne with hlt | hlt
        · exact hp i j hi2 hj2 hlt
        · exact fun e => hp j i hj2 hi2 hlt e.symm
      · rw [if_pos hi2, if_neg hj2, List.getD_eq_getElem?_getD, List.getElem?_eq_getElem hi2, Option.getD_some]
        omega
    · by_cases hj2 : j < l.length
      · have a1 : l[j] < n := of_decide_eq_true (h1 _ (List.getElem_mem hj2))
        rw [if_neg hi2, if_pos hj2, List.getD_eq_getElem?_getD, List.getElem?_eq_getElem hj2, Option.getD_some]
        omega
      · rw [if_neg hi2, if_neg hj2]
        omega
theorem not_eq {a b : Bool} (h : (!a) = b) : a = !b := by rw [← h, Bool.not_not]
theorem ne_of_bne_ {a b : Int} (h : (a != b) = true) : a ≠ b := bne_iff_ne.1 h
theorem eq_of_bne_ {a b : Int} (h : (a != b) = false) : a = b := by simpa using h
theorem ne_of_beq_ {a b : Int} (h : (a == b) = false) : a ≠ b := by simpa using h
theorem eq_of_beq_ {a b : Int} (h : (a == b) = true) : a = b := by simpa using h
theorem Hp.tail {c : Chunk} (h : Hp w0 (c :: cs) W) : Hp w0 cs W := ⟨fun i d hd => h.ok (i + 1) d hd, fun i j d d' hne hd hd' => h.ap (i + 1) (j + 1) d d' (fun e => hne (by omega)) hd hd', h.os, h.tape, h.output, h.size⟩
theorem Hp.nil (W : World) : Hp W [] W := ⟨fun i c hc => (by cases hc), fun i j c d _ hc => (by cases hc), rfl, rfl, rfl, Nat.le_refl _⟩
theorem Hp.start (W : World) (c : Chunk) (hok : c.ok W) : Hp W [c] W := by
  refine ⟨fun i d hd => ?_, fun i j d d' hne hd hd' => ?_, rfl, rfl, rfl, Nat.le_refl _⟩
  · cases i with
    | zero => injection hd with hd; subst hd; exact hok
    | succ i => cases hd
  · cases i with
    | zero =>
      cases j with
      | zero => exact absurd rfl hne
      | succ j => cases hd'
    | succ i => cases hd
/-- A block that is known whole. -/
def blk (g : Nat) (cells : Array Value) (T : TypeId) : Chunk where
  fp k := k = g
  ok W := W.heap[g]? = some (.cells cells T (0, 0))
  move h e := (e g rfl).trans h
  live h k hk := by subst hk; exact blk_lt h
theorem Hp.cell (h : Hp w0 cs W) (i : Nat) {g : Nat} {cells : Array Value} {T : TypeId} (hc : cs[i]? = some (blk g cells T)) (j : Nat) (v : Value) (hj : cells[j]? = some v) : W.cell? ⟨g, j, none⟩ = some v := cellv (h.at_ i _ hc) j v hj
/-- All blocks below n are as they were in w1. -/
def old (w1 : World) (n : Nat) : Chunk where
  fp k := k < n
  ok W := (∀ k, k < n → W.heap[k]? = w1.heap[k]?) ∧ n ≤ W.heap.size
  move h e := ⟨fun k hk => (e k hk).trans (h.1 k hk), by
    rcases Nat.eq_zero_or_pos n with h0 | h0
    · omega
    · have h1 := e (n - 1) (by omega)
      have h2 : n - 1 < (World.heap _).size := Nat.lt_of_lt_of_le (by omega) h.2
      rw [Array.getElem?_eq_getElem h2] at h1
      have := (Array.getElem?_eq_some_iff.1 h1).1
      omega⟩
  live h k hk := Nat.lt_of_lt_of_le hk h.2
theorem Hp.old_start (W : World) : Hp W [old W W.heap.size] W := Hp.start W _ ⟨fun _ _ => rfl, Nat.le_refl _⟩
theorem Hp.since (h : Hp w0 cs W) (i : Nat) (n : Nat) (hc : cs[i]? = some (old w0 n)) : Below n w0 W := ⟨h.os, h.tape, h.output, h.size, fun k hk => (h.at_ i _ hc).1 k hk⟩
/-- A row of the call's own; its blocks are among F. -/
def row {α : Type} (d : Kd α) (e base : Nat) (v : Value) (xs : List α) (F : Nat → Prop) : Chunk where
  fp := F
  ok W := d.R e W base F v xs ∧ ∀ k, F k → k < W.heap.size
  move h e := ⟨Kd.R_move h.1 e, fun k hk => by
    have h1 := e k hk
    rw [Array.getElem?_eq_getElem (h.2 k hk)] at h1
    exact (Array.getElem?_eq_some_iff.1 h1).1⟩
  live h := h.2
end
section
variable {P : Program} {ops : Array Oper} {Q : Exit → Act → World → Prop} {N : Nat} {s : List (Nat × Value)} {rest : List Oper} {o : Oper} {w0 W W' : World} {cs : List Chunk}
def oneB (P : Program) (t : TypeId) : Bool := match P.underlying t with | some (.struct _) => false | some (.array _ _) => false | some _ => true | none => false
def rowB (P : Program) (t : TypeId) : Bool := match P.underlying t with | some (.struct _) => true | some (.array _ _) => true | _ => false
theorem ld1 {t : TypeId} {p : Operand} {ad : Addr} {v : Value} (ho : o.op = .load t p) (hp : evl N s p = .pointer (some ad)) (ht : oneB P t = true) (hc : W.cell? ad = some v) : (execOp (evl N s) o).run P W = .ok (.value v) W := by
  have hagg : (isAgg t).run P W = .ok false W := by
    unfold oneB at ht
    cases hu : P.underlying t with
    | none => rw [hu] at ht; cases ht
    | some d =>
      unfold isAgg
      rw [Sem.run_bind, run_underlying hu W]
      rw [hu] at ht
      cases d <;> simp_all
  unfold execOp
  simp only [ho, hp, Instr.loadAt, Instr.sureAddr, Sem.run_bind, Sem.run_pure, Result.andThen_ok, loadVar, hagg]
  simp [load, Sem.run, hc]
theorem ldn {t : TypeId} {p : Operand} {g j : Nat} {cells : Array Value} {T : TypeId} {seg : List Value} (ho : o.op = .load t p) (hp : evl N s p = .pointer (some ⟨g, j, none⟩)) (ht : rowB P t = true) (hz : (P.info? t).map (·.size) = some seg.length)
    (hs : (cells.toList.drop j).take seg.length = seg) (hb : W.heap[g]? = some (.cells cells T (0, 0))) : (execOp (evl N s) o).run P W = .ok (.value (.agg seg.toArray)) W := by
  obtain ⟨d, hu, hd⟩ : ∃ d, P.underlying t = some d ∧ d.isRow = true := by
    unfold rowB at ht
    cases hu : P.underlying t with
    | none => rw [hu] at ht; cases ht
    | some d =>
      rw [hu] at ht
      exact ⟨d, rfl, by cases d <;> simp_all⟩
  have hc : W.rangeAt g j seg := by
    intro q v hv
    rw [← hs, List.getElem?_take] at hv
    split at hv
    · rw [List.getElem?_drop] at hv
      rw [blk_cell hb]
      rw [← hv]
      simp
    · cases hv
  unfold execOp
  simp only [ho, hp, Sem.run_bind, run_loadAt_mid W g j t seg d hc hu hd hz, Result.andThen_ok, Sem.run_pure]
theorem sx_box (d : Nat) (hp : Hp w0 cs W) (cells : Array Value) (T : TypeId) (hk : okB o d N = true) (hr : ∀ W : World, (execOp (evl N s) o).run P W = .ok (.value (.pointer (some ⟨W.heap.size, 0, none⟩))) (W.alloc (.cells cells T (0, 0))))
    (h : ∀ g W', Hp w0 (blk g cells T :: cs) W' → WL P ops Q rest (fr N ((d, .pointer (some ⟨g, 0, none⟩)) :: s)) W') : WL P ops Q (o :: rest) (fr N s) W :=
  sx_val d _ hk (hr W) (h W.heap.size _ (hp.add (Mv.quiet (below_alloc (Below.refl _ _) _)) (blk _ _ _) (heap_alloc_new W _) (fun k hk => by have : k = W.heap.size := hk; omega)))
theorem sx_store {t : TypeId} {p x : Operand} (hk : noB o = true) (ho : o.op = .store t p x) (i : Nat) {g : Nat} {cells : Array Value} {T : TypeId} (hc : cs[i]? = some (blk g cells T)) (j : Nat) (seg : List Value) (ha : evl N s p = .pointer (some ⟨g, j, none⟩)) (hu : (evl N s x).cells.toList = seg)
    (hz : (P.info? t).map (·.size) = some seg.length) (h1 : ∀ q ∈ seg, q.oneCell' = true) (hfit : j + seg.length ≤ cells.size) (cells' : Array Value) (hcs : cells.toList.take j ++ seg ++ cells.toList.drop (j + seg.length) = cells'.toList)
    (hp : Hp w0 cs W) (h : ∀ W', Hp w0 (cs.set i (blk g cells' T)) W' → WL P ops Q rest (fr N s) W') : WL P ops Q (o :: rest) (fr N s) W := by
  refine ⟨?_⟩
  obtain ⟨h1', h2'⟩ := noB_spec hk
  refine store_blk (W := W) h2' h1' t p x ho (g := g) (j := j) (evl N s x) seg cells' (by rw [fr_eval]; exact ha) (by rw [fr_eval]) hu hz h1 (hp.at_ i _ hc) hfit hcs (fun w1 hb hg _ => ?_)
  refine (h w1 (hp.upd i _ _ hc ((Mv.of_grown hg).mono (fun k hk => ?_)) hb (fun k hk => .inl hk))).out
  injection hk with hk
  exact hk.symm
theorem resc {fn : Func} {p : Nat} {t : TypeId} {g : Nat} {cells : Array Value} {T : TypeId} (h : fn.results = #[.cell p t]) (ha : evl N s (.tmp p) = .pointer (some ⟨g, 0, none⟩)) (ht : rowB P t = true) (hz : (P.info? t).map (·.size) = some cells.size) (hb : W.heap[g]? = some (.cells cells T (0, 0))) : (results fn (fr N s).tmps).run P W = .ok (.agg cells) W := by
  obtain ⟨d, hu, hd⟩ : ∃ d, P.underlying t = some d ∧ d.isRow = true := by
    unfold rowB at ht
    cases hu : P.underlying t with
    | none => rw [hu] at ht; cases ht
    | some d =>
      rw [hu] at ht
      exact ⟨d, rfl, by cases d <;> simp_all⟩
  exact results_cell_row h _ W g T cells (0, 0) d (by rw [fr_get]; exact ha) hb hu (by cases d <;> simp_all [TypeDesc.isRow]) hz
theorem rescT {fn : Func} {p u : Nat} {t : TypeId} {g : Nat} {cells : Array Value} {T : TypeId} (h : fn.results = #[.cell p t, .tmp u]) (ha : evl N s (.tmp p) = .pointer (some ⟨g, 0, none⟩)) (ht : rowB P t = true) (hz : (P.info? t).map (·.size) = some cells.size) (hb : W.heap[g]? = some (.cells cells T (0, 0))) : (results fn (fr N s).tmps).run P W = .ok (.tuple #[.agg cells, evl N s (.tmp u)]) W := by
  obtain ⟨d, hu, hd⟩ : ∃ d, P.underlying t = some d ∧ d.isRow = true := by
    unfold rowB at ht
    cases hu : P.underlying t with
    | none => rw [hu] at ht; cases ht
    | some d =>
      rw [hu] at ht
      exact ⟨d, rfl, by cases d <;> simp_all⟩
  have h1 : (fr N s).tmps.getD p undef = .pointer (some ⟨g, 0, none⟩) := by rw [fr_get]; exact ha
  have h2 : (fr N s).tmps.getD u undef = evl N s (.tmp u) := fr_get N s u
  have h3 : (loadVar t ⟨g, 0, none⟩).run P W = .ok (.agg cells) W := run_loadVar_row W g T t cells (0, 0) d hb hu (by cases d <;> simp_all [TypeDesc.isRow]) hz
  rw [← h2]
  generalize (fr N s).tmps = tm at *
  rw [Array.getD_eq_getD_getElem?] at h1
  simp [results, h, asAddr, h1, h3]
end
section
variable {P : Program} {ops : Array Oper} {Q : Exit → Act → World → Prop} {C : World → Prop} {L : Act → Prop} {N : Nat} {s : List (Nat × Value)} {rest : List Oper} {o : Oper} {W : World}
def wantS (o : Oper) (ops : Array Oper) (N : Nat) (s : List (Nat × Value)) : Bool :=
  match o.guard with
  | none => true
  | some (j, want) => match ops[j]? with
    | some p => (match p.dst with | some t => (bif Nat.blt t N then (match look s t with | .bool x => x == want | _ => false) else false) | none => false)
    | none => false
theorem wantS_eq (o : Oper) (ops : Array Oper) (N : Nat) (s : List (Nat × Value)) : Region.wanted o (yielded ops (fr N s).tmps) = wantS o ops N s := by
  unfold Region.wanted wantS yielded
  cases hg : o.guard with
  | none => rfl
  | some q =>
    obtain ⟨j, want⟩ := q
    dsimp only
    cases hj : ops[j]? with
    | none => rfl
    | some p =>
      simp only [Option.bind_some]
      cases hd : p.dst with
      | none => rfl
      | some t =>
        simp only [Option.bind_some]
        have hget : (fr N s).tmps[t]? = if t < N then some (look s t) else none := by
          unfold fr
          by_cases h : t < N <;> simp [h]
        rw [hget]
        cases hb : Nat.blt t N with
        | true =>
          have h2 : t < N := by simpa [Nat.blt_eq] using hb
          rw [if_pos h2, cond_true]
          cases look s t <;> rfl
        | false =>
          have h2 : ¬ t < N := fun h3 => by have := Nat.blt_eq.symm ▸ h3; rw [hb] at this; cases this
          rw [if_neg h2]
          rfl
theorem sx_want (hw : wantS o ops N s = true) (h : WL P ops Q ({ o with guard := none } :: rest) (fr N s) W) : WL P ops Q (o :: rest) (fr N s) W := by
  refine ⟨?_⟩
  replace h := h.out
  unfold wpList at h ⊢
  rw [if_pos (by simp [Region.wanted])] at h
  rw [wantS_eq, if_pos hw]
  exact h
theorem sx_skip (d : Nat) (hw : wantS o ops N s = false) (hd : o.dst = some d) (hN : Nat.blt d N = true) (h : WL P ops Q rest (fr N ((d, undef) :: s)) W) : WL P ops Q (o :: rest) (fr N s) W := by
  refine ⟨?_⟩
  replace h := h.out
  unfold wpList
  rw [wantS_eq, if_neg (by rw [hw]; simp), hd, fr_put _ _ hN]
  exact h
theorem sxq_want (hw : wantS o ops N s = true) (h : WQ P ops C L ({ o with guard := none } :: rest) (fr N s)) : WQ P ops C L (o :: rest) (fr N s) := by
  refine ⟨?_⟩
  replace h := h.out
  unfold wpQuiet at h ⊢
  rw [if_pos (by simp [Region.wanted])] at h
  rw [wantS_eq, if_pos hw]
  exact h
theorem sxq_skip (d : Nat) (hw : wantS o ops N s = false) (hd : o.dst = some d) (hN : Nat.blt d N = true) (h : WQ P ops C L rest (fr N ((d, undef) :: s))) : WQ P ops C L (o :: rest) (fr N s) := by
  refine ⟨?_⟩
  replace h := h.out
  unfold wpQuiet
  rw [wantS_eq, if_neg (by rw [hw]; simp), hd, fr_put _ _ hN]
  exact h
/-- A bool that is known. -/
theorem bv {run : World → Result Next} {t b : Bool} (h : t = b) (hr : run W = .ok (.value (.bool t)) W) : run W = .ok (.value (.bool b)) W := h ▸ hr
end
section
variable {P : Program} {Q : Exit → Act → World → Prop} {N : Nat} {s : List (Nat × Value)} {W : World} {C : World → Prop}
def preI (P : Program) (ops : Array Oper) (l : List Oper) (L : Act → Prop) : List Nat → Act → Prop
  | [], a => L a
  | i :: r, a => ∀ o, l[i]? = some o → wpQuiet P ops (fun _ => True) (preI P ops l L r) [o] a
theorem preI_quiet {ops : Array Oper} {l : List Oper} {L : Act → Prop} : ∀ (pre : List Nat), pre.all (fun i => decide (i < l.length)) = true → ∀ a, preI P ops l L pre a → wpQuiet P ops (fun _ => True) L (pick l pre) a := by
  intro pre
  induction pre with
  | nil => intro _ a h; exact h
  | cons i pre ih =>
    intro h a hs
    rw [List.all_cons, Bool.and_eq_true, decide_eq_true_eq] at h
    have e : l[i]? = some l[i] := List.getElem?_eq_getElem h.1
    have e2 : pick l (i :: pre) = l[i] :: pick l pre := by unfold pick; rw [List.filterMap_cons, e]
    rw [e2]
    exact wpQuiet_mono' (C := fun _ => True) (fun a1 h1 => ih h.2 a1 h1) [l[i]] a (hs l[i] e)
theorem preI_read {ops : Array Oper} {l : List Oper} {L : Act → Prop} {i : Nat} {o : Oper} {r : List Nat} {a : Act} (ho : l[i]? = some o) (h : WQ P ops (fun _ => True) (preI P ops l L r) [o] a) : preI P ops l L (i :: r) a :=
  fun o' ho' => by rw [ho] at ho'; injection ho' with e; exact e ▸ h.out
theorem preI_nil {ops : Array Oper} {l : List Oper} {L : Act → Prop} {a : Act} (h : L a) : preI P ops l L [] a := h
/-- The tail, by its numbers. -/
def tailI (P : Program) (ops : Array Oper) (Q : Exit → Act → World → Prop) (l : List Oper) : List Nat → Act → World → Prop
  | [], a, w => Q .normal a w
  | i :: r, a, w => ∀ o, l[i]? = some o → wpList P ops (evQ Q (tailI P ops Q l r)) [o] a w
theorem wpList_split {ops : Array Oper} {o : Oper} {rest : List Oper} {a : Act} {w : World} (h : wpList P ops (evQ Q (wpList P ops Q rest)) [o] a w) : wpList P ops Q (o :: rest) a w := by
  simp only [wpList] at h ⊢
  split
  · rename_i hw
    rw [if_pos hw] at h
    rcases h with h | ⟨h1, h2⟩
    · exact .inl (wp_evQ h)
    · exact .inr ⟨h1, h2⟩
  · rename_i hw
    rw [if_neg hw] at h
    exact h
theorem tailI_list {ops : Array Oper} {l : List Oper} : ∀ (n k : Nat), l.length - k = n → ∀ (a : Act) (w : World), tailI P ops Q l (List.range' k n) a w → wpList P ops Q (l.drop k) a w := by
  intro n
  induction n with
  | zero =>
    intro k hk a w h
    rw [List.drop_eq_nil_of_le (by omega)]
    exact h
  | succ n ih =>
    intro k hk a w h
    have hlt : k < l.length := by omega
    rw [List.drop_eq_getElem_cons hlt]
    rw [List.range'_succ] at h
    refine wpList_split (wpList_one_mono (fun a' w' h' => ih (k + 1) (by omega) a' w' h') (h l[k] (List.getElem?_eq_getElem hlt)))
theorem tail_of {ops : Array Oper} {l : List Oper} {k : Nat} {a : Act} {w : World} (is : List Nat) (hk : is = List.range' k (l.length - k)) (h : tailI P ops Q l is a w) : WL P ops Q (l.drop k) a w := by
  subst hk
  exact ⟨tailI_list (l.length - k) k rfl a w h⟩
theorem tailI_op {ops : Array Oper} {l : List Oper} {i : Nat} {o : Oper} {r : List Nat} {a : Act} (ho : l[i]? = some o) (h : WL P ops (evQ Q (tailI P ops Q l r)) [o] a W) : tailI P ops Q l (i :: r) a W :=
  fun o' ho' => by rw [ho] at ho'; injection ho' with e; exact e ▸ h.out
theorem tailI_next {ops : Array Oper} {K : Act → World → Prop} {a : Act} (h : K a W) : WL P ops (evQ Q K) [] a W := ⟨h⟩
theorem tailI_nil {ops : Array Oper} {l : List Oper} {a : Act} (h : Q .normal a W) : tailI P ops Q l [] a W := h
theorem step_fin {ops : Array Oper} {K : Act → World → Prop} {a : Act} (hC : C W) (h : K a W) : WL P ops (evQ Q (fun a' w' => C w' ∧ K a' w')) [] a W := ⟨⟨hC, h⟩⟩
end
end Go.Proofs.YtokkiiepddhkiaaGreatDoor.Hd
