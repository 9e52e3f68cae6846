/- A map from tiles to Bools of which every key is a tile of a kind G, and a range over it; a map from texts to Bools as a piece. -/
import Derived.Maps.Range
import Derived.Test.YtokkiiepddhkiaaGreatDoorMSxG
namespace Go.Proofs.YtokkiiepddhkiaaGreatDoor.Hd
open Go Go.RowKit Go.Maps Go.Proofs.YtokkiiepddhkiaaGreatDoor.Pure Go.Proofs.YtokkiiepddhkiaaGreatDoorW.PrintWords Go.Proofs.YtokkiiepddhkiaaGreatDoorW.PrintLast Go.Proofs.YtokkiiepddhkiaaGreatDoorW.PrintMore
theorem tl_laid : laidOutB Tryz.prog = true := by kernel_rfl
theorem tl_row : (55 : TypeId) < Tryz.prog.types.size := of_decide_eq_true (by kernel_rfl)
theorem tl_key : Keyed Tryz.prog 55 := Keyed.of_law (deep_law_laid tl_laid (m := 2) (by omega) tl_row (by kernel_rfl) (by rw [Tryz.underlying55]))
theorem tl_all : (List.range 10).all (fun a => (List.range 10).all fun b => (keyOf Tryz.prog 55 (.agg #[.int .i64 (a : Int), .int .i64 (b : Int)])).isSome) = true := by kernel_rfl
theorem tl_some {t : S_Tile} (h : (0 ≤ t.f0 ∧ t.f0 ≤ 9) ∧ 0 ≤ t.f1 ∧ t.f1 ≤ 9) : (keyOf Tryz.prog 55 (tvK t)).isSome = true := by
  obtain ⟨a, b⟩ := t
  obtain ⟨⟨h1, h2⟩, h3, h4⟩ := h
  simp only at h1 h2 h3 h4
  have q := List.all_eq_true.1 (List.all_eq_true.1 tl_all a.toNat (List.mem_range.2 (by omega))) b.toNat (List.mem_range.2 (by omega))
  rw [Int.toNat_of_nonneg h1, Int.toNat_of_nonneg h3] at q
  exact q
end Go.Proofs.YtokkiiepddhkiaaGreatDoor.Hd
namespace Go.Proofs.YtokkiiepddhkiaaGreatDoor.Hd
open Go Go.RowKit Go.Maps Go.Proofs.YtokkiiepddhkiaaGreatDoor.Pure Go.Proofs.YtokkiiepddhkiaaGreatDoorW.PrintWords Go.Proofs.YtokkiiepddhkiaaGreatDoorW.PrintLast Go.Proofs.YtokkiiepddhkiaaGreatDoorW.PrintMore
set_option linter.unusedVariables false
set_option linter.unusedSimpArgs false
def tmOk (P : Program) (k : TypeId) (G : S_Tile → Bool) (m : S_Tile → Bool) (D : DataW Value) : Prop :=
  IsMap D ∧ (∀ t kl, keyOf P k (tvK t) = some kl → D.atKey kl (.held (.bool false)) = .held (.bool (m t))) ∧ ∀ kl, Maps.has D kl = true → ∃ t, G t = true ∧ keyOf P k (tvK t) = some kl
/-- As tileM, and its keys are tiles of the kind G. -/
def tileG (P : Program) (k : TypeId) (b n : Nat) (G m : S_Tile → Bool) : Chunk where
  fp x := x = b
  ok W := ∃ D : DataW Value, W.ownsMap P k selfE b n D ∧ tmOk P k G m D
  move h e := by
    obtain ⟨D, ⟨es, clock, hb, F, hs, hD⟩, hi⟩ := h
    exact ⟨D, ⟨es, clock, (e b rfl).trans hb, F, hs, hD⟩, hi⟩
  live h k hk := by
    obtain ⟨D, ho, _⟩ := h
    subst hk
    exact ho.lt
/-- A range over it, under way: h are the tiles met so far whose Bool is true; cnt more are to come. -/
def rngG (P : Program) (k : TypeId) (b r n : Nat) (G m : S_Tile → Bool) (h : List S_Tile) (cnt : Nat) : Chunk where
  fp x := x = b ∨ x = r
  ok W := ∃ (D : DataW Value) (left : Lit → Bool), W.ranges P k selfE b r n D left cnt ∧ tmOk P k G m D ∧ (∀ kl, left kl = true → Maps.has D kl = true) ∧ h.Nodup ∧ (∀ t ∈ h, G t = true) ∧ ∀ t kl, G t = true → keyOf P k (tvK t) = some kl → (t ∈ h ↔ m t = true ∧ left kl = false)
  move h e := by
    obtain ⟨D, left, ⟨es, clock, since, seen, c0, hb, F, hs, hD, hr, rest⟩, hi⟩ := h
    exact ⟨D, left, ⟨es, clock, since, seen, c0, (e b (.inl rfl)).trans hb, F, hs, hD, (e r (.inr rfl)).trans hr, rest⟩, hi⟩
  live h k hk := by
    obtain ⟨D, left, ho, _⟩ := h
    rcases hk with rfl | rfl
    · exact ho.owns.lt
    · exact ho.lt
section
variable {P : Program} {N : Nat} {s : List (Nat × Value)} {o : Oper} {rest : List Oper} {ops : Array Oper} {Q : Exit → Act → World → Prop} {W w0 : World} {cs : List Chunk} {k e t : TypeId} {b r n cnt : Nat} {G m : S_Tile → Bool} {hd : List S_Tile}
theorem tileG_M (h : (tileG P k b n G m).ok W) : (tileM P k b n m).ok W := by
  obtain ⟨D, ho, hi, hg, _⟩ := h
  exact ⟨D, ho, hi, hg⟩
theorem sx_mktg (q : Nat) (hk : okB o q N = true) (hr : ∀ W : World, (execOp (evl N s) o).run P W = .ok (.value (.map (some W.heap.size))) (W.alloc (.map #[] 0))) (hp : Hp w0 cs W)
    (h : ∀ b W', Hp w0 (tileG P k b 0 G (fun _ => false) :: cs) W' → WL P ops Q rest (fr N ((q, .map (some b)) :: s)) W') : WL P ops Q (o :: rest) (fr N s) W := by
  refine sx_val q _ hk (hr W) (h W.heap.size _ (hp.add (Mv.quiet (below_alloc (Below.refl _ _) _)) (tileG P k W.heap.size 0 G _) ⟨.map [], World.ownsMap_made W P k selfE, isMap_empty, fun t kl _ => ?_, fun kl h => ?_⟩ (fun k hk => by have : k = W.heap.size := hk; omega)))
  · simp [DataW.atKey]
  · simp [Maps.has] at h
theorem tg_look (K : Keyed P k) {M X : Operand} (ho : o.op = .lookup t M X false) (hm : evl N s M = .map (some b)) {x : S_Tile} (hx : evl N s X = tvK x) (ht : P.underlying t = some (.map k e)) (hz : ∀ w, (zeroValue e).run P w = .ok (.bool false) w)
    (hkey : (keyOf P k (tvK x)).isSome = true) (hc : (tileG P k b n G m).ok W) : (execOp (evl N s) o).run P W = .ok (.value (.bool (m x))) W := tm_look K ho hm hx ht hz hkey (tileG_M hc)
theorem sx_tgput (K : Keyed P k) (hk : noB o = true) {M X V : Operand} (ho : o.op = .mapUpdate t M X V) (hm : evl N s M = .map (some b)) {x : S_Tile} {v : Bool} (hx : evl N s X = tvK x) (hv : evl N s V = .bool v) (ht : P.underlying t = some (.map k e)) (hn : n < maxLen)
    (hkey : (keyOf P k (tvK x)).isSome = true) (hG : G x = true) (i : Nat) (hc : cs[i]? = some (tileG P k b n G m)) (hp : Hp w0 cs W)
    (h : ∀ W', Hp w0 (cs.set i (tileG P k b (n + 1) G (upd m x v))) W' → WL P ops Q rest (fr N s) W') : WL P ops Q (o :: rest) (fr N s) W := by
  obtain ⟨kl, hkl⟩ := Option.isSome_iff_exists.1 hkey
  obtain ⟨D, hown, hi, hg, hkk⟩ := hp.at_ i _ hc
  obtain ⟨w', hrun, r1, r2⟩ := hown.update K ht hn hkl (show selfE (.bool v) = some (.held (.bool v), []) from rfl)
  refine sx_unit hk (by unfold execOp; simp [ho, hm, hx, hv, hrun, Result.andThen]) (h w' (hp.upd i _ (tileG P k b (n + 1) G (upd m x v)) hc ((Mv.of_grown r2).mono (fun k hk => ?_)) ⟨_, r1, hi.put kl _, fun t' kl' h' => ?_, fun kl' h' => ?_⟩ (fun k hk => .inl hk)))
  · injection hk with hk
    exact hk.symm
  · by_cases q : kl' = kl
    · subst q
      have e1 := K.inj h' hkl
      have e2 : t' = x := by
        obtain ⟨a, c⟩ := t'
        obtain ⟨a', c'⟩ := x
        simp only [tvK, Value.agg.injEq, Array.mk.injEq, List.cons.injEq, Value.int.injEq] at e1
        simp_all
      rw [atKey_put_same hi (K.key hkl), e2]
      simp [upd]
    · have e2 : t' ≠ x := fun e => q (by rw [e, hkl] at h'; exact (Option.some.inj h').symm)
      rw [atKey_put_other q, hg t' kl' h']
      simp [upd, e2]
  · by_cases q : kl' = kl
    · exact ⟨x, hG, q ▸ hkl⟩
    · rw [has_put_other q] at h'
      exact hkk kl' h'
theorem tmOk_has (K : Keyed P k) {D : DataW Value} (h : tmOk P k G m D) {x : S_Tile} {kl : Lit} (hkl : keyOf P k (tvK x) = some kl) (hm : m x = true) : Maps.has D kl = true := by
  cases hh : Maps.has D kl with
  | true => rfl
  | false =>
    have q := h.2.1 x kl hkl
    rw [atKey_of_not_has hh, hm] at q
    injection q with q
    injection q with q
/-- 'range m' begins. -/
theorem sx_range (K : Keyed P k) (q : Nat) (hk : okB o q N = true) {M : Operand} (ho : o.op = .range t M) (hm : evl N s M = .map (some b)) (ht : P.underlying t = some (.map k e)) (hp : Hp w0 (tileG P k b n G m :: cs) W)
    (h : ∀ r cnt W', cnt ≤ n → Hp w0 (rngG P k b r n G m [] cnt :: cs) W' → WL P ops Q rest (fr N ((q, .pointer (some ⟨r, 0, none⟩)) :: s)) W') : WL P ops Q (o :: rest) (fr N s) W := by
  obtain ⟨D, hown, hi⟩ := hp.at_ 0 _ rfl
  obtain ⟨w', hrun, r1, r2, r3⟩ := hown.range K ht
  refine sx_val q _ hk (by unfold execOp; simp [ho, hm, hrun, Result.andThen]) (h W.heap.size _ w' hown.size_le (hp.upd 0 _ (rngG P k b W.heap.size n G m [] (Maps.size D)) rfl ((Mv.of_grown r2).mono (fun k hk => by cases hk)) ⟨D, _, r1, hi, fun kl h => h, List.nodup_nil, fun t h => absurd h (by simp), fun x kl hG hkl => ?_⟩ (fun k hk => ?_)))
  · constructor
    · intro h; simp at h
    · rintro ⟨h1, h2⟩
      rw [tmOk_has K hi hkl h1] at h2
      cases h2
  · rcases hk with rfl | rfl
    · exact .inl rfl
    · exact .inr (Nat.le_refl _)
/-- A step of the range. -/
theorem sx_next (K : Keyed P k) (q : Nat) (hk : okB o q N = true) {M : Operand} (ho : o.op = .next M false) (hm : evl N s M = .pointer (some ⟨r, 0, none⟩)) (hGk : ∀ x, G x = true → (keyOf P k (tvK x)).isSome = true) (i : Nat) (hc : cs[i]? = some (rngG P k b r n G m hd cnt)) (hp : Hp w0 cs W)
    (h0 : cnt = 0 → hd.Nodup → (∀ x, x ∈ hd ↔ G x = true ∧ m x = true) → WL P ops Q rest (fr N ((q, .tuple #[.bool false]) :: s)) W)
    (h1 : ∀ x cnt' W', G x = true → cnt' < cnt → x ∉ hd → Hp w0 (cs.set i (rngG P k b r n G m (if m x = true then hd ++ [x] else hd) cnt')) W' → (Instr.entry (.pointer (some ⟨r, 0, none⟩))).run P W' = .ok (.tuple #[tvK x, .bool (m x)]) W' → WL P ops Q rest (fr N ((q, .tuple #[.bool true, tvK x, .bool (m x)]) :: s)) W') :
    WL P ops Q (o :: rest) (fr N s) W := by
  obtain ⟨D, left, hrg, hi, hlh, hnd, hgd, hiff⟩ := hp.at_ i _ hc
  rcases hrg.next K o.type with ⟨hz, hl, hrun⟩ | ⟨key, v, kl, y, w', cnt', hkey, hlk, hv, hat, hrun, hrg', hlt, hgr, hsz, hen⟩
  · refine sx_val q _ hk (by unfold execOp; simp [ho, hm, hrun, Result.andThen]) (h0 hz hnd fun x => ⟨fun hx => ?_, fun hx => ?_⟩)
    · obtain ⟨kl, hkl⟩ := Option.isSome_iff_exists.1 (hGk x (hgd x hx))
      exact ⟨hgd x hx, ((hiff x kl (hgd x hx) hkl).1 hx).1⟩
    · obtain ⟨kl, hkl⟩ := Option.isSome_iff_exists.1 (hGk x hx.1)
      exact (hiff x kl hx.1 hkl).2 ⟨hx.2, hl kl⟩
  · obtain ⟨x, hGx, hkx⟩ := hi.2.2 kl (hlh kl hlk)
    obtain rfl := K.inj hkey hkx
    have hvb : v = .bool (m x) := by
      have q1 := hat (.held (.bool false))
      rw [hi.2.1 x kl hkx] at q1
      have hy : y = (.held v, []) := (Option.some.inj hv).symm
      rw [hy] at q1
      injection q1 with q1
      exact q1.symm
    subst hvb
    have hnx : x ∉ hd := fun hx => by rw [((hiff x kl hGx hkx).1 hx).2] at hlk; cases hlk
    have hkl' : ∀ (t : S_Tile) (kl' : Lit), keyOf P k (tvK t) = some kl' → (kl' = kl ↔ t = x) := by
      intro t' kl' h'
      constructor
      · rintro rfl
        have e1 := K.inj h' hkx
        obtain ⟨a, c⟩ := t'
        obtain ⟨a', c'⟩ := x
        simp only [tvK, Value.agg.injEq, Array.mk.injEq, List.cons.injEq, Value.int.injEq] at e1
        simp_all
      · rintro rfl
        rw [hkx] at h'
        exact (Option.some.inj h').symm
    have hsame : kl.sameKey kl = true := by
      have := (K.key hkx)
      exact WideAt.sameKey_self this
    refine sx_val q _ hk (by unfold execOp; simp [ho, hm, hrun, Result.andThen]) (h1 x cnt' w' hGx hlt hnx (hp.upd i _ (rngG P k b r n G m _ cnt') hc ((Mv.of_grown hgr).mono (fun k hk => ?_)) ⟨D, _, hrg', hi, fun kl' h' => ?_, ?_, ?_, fun t' kl' hG' h' => ?_⟩ (fun k hk => .inl hk)) hen)
    · injection hk with hk
      exact .inr hk.symm
    · simp only [Bool.and_eq_true] at h'
      exact hlh kl' h'.1
    · split
      · exact List.nodup_append.2 ⟨hnd, by simp, fun a ha c hc e => hnx (by rw [List.mem_singleton.1 hc] at e; exact e ▸ ha)⟩
      · exact hnd
    · intro t' ht'
      split at ht'
      · rcases List.mem_append.1 ht' with ht' | ht'
        · exact hgd t' ht'
        · rw [List.mem_singleton.1 ht']; exact hGx
      · exact hgd t' ht'
    · by_cases e : t' = x
      · subst e
        obtain rfl := (hkl' t' kl' h').2 rfl
        rw [hsame]
        by_cases hmx : m t' = true
        · rw [if_pos hmx]; simp [hmx]
        · rw [if_neg hmx]; simp [hmx, hnx]
      · have hne : kl' ≠ kl := fun q => e ((hkl' t' kl' h').1 q)
        rw [sameKey_ne hne]
        have q1 := hiff t' kl' hG' h'
        by_cases hmx : m x = true
        · rw [if_pos hmx]; simp [e, q1]
        · rw [if_neg hmx]; simp [q1]
theorem entry_run {M : Operand} {v u : Value} (ho : o.op = .entry M) (hm : evl N s M = v) (he : (Instr.entry v).run P W = .ok u W) : (execOp (evl N s) o).run P W = .ok (.value u) W := by
  subst hm
  unfold execOp
  simp [ho, he, Result.andThen]
/-- The range is over. -/
theorem Hp.unrange (h : Hp w0 (rngG P k b r n G m hd cnt :: cs) W) : Hp w0 (tileG P k b n G m :: cs) W := by
  refine h.upd 0 _ (tileG P k b n G m) rfl (Mv.refl _ W) ?_ (fun k hk => .inl (.inl hk))
  obtain ⟨D, left, ho, hi, _⟩ := h.at_ 0 _ rfl
  exact ⟨D, ho.owns, hi⟩
def inT (l : List ByteArray) (x : ByteArray) : Bool := l.any fun y => decide (y = x)
/-- Block b is a map from texts to Bools, of at most n entries; its keys are L. -/
def txtM (P : Program) (k : TypeId) (b n : Nat) (L : List ByteArray) : Chunk where
  fp x := x = b
  ok W := ∃ D : DataW Value, W.ownsMap P k selfE b n D ∧ Maps.size D = L.length ∧ ∀ x kl, keyOf P k (.string x) = some kl → Maps.has D kl = inT L x
  move h e := by
    obtain ⟨D, ⟨es, clock, hb, F, hs, hD⟩, hi⟩ := h
    exact ⟨D, ⟨es, clock, (e b rfl).trans hb, F, hs, hD⟩, hi⟩
  live h k hk := by
    obtain ⟨D, ho, _⟩ := h
    subst hk
    exact ho.lt
def addTx (L : List ByteArray) (x : ByteArray) : List ByteArray := if inT L x = true then L else L ++ [x]
theorem sx_mkxm (q : Nat) (hk : okB o q N = true) (hr : ∀ W : World, (execOp (evl N s) o).run P W = .ok (.value (.map (some W.heap.size))) (W.alloc (.map #[] 0))) (hp : Hp w0 cs W)
    (h : ∀ b W', Hp w0 (txtM P k b 0 [] :: cs) W' → WL P ops Q rest (fr N ((q, .map (some b)) :: s)) W') : WL P ops Q (o :: rest) (fr N s) W := by
  refine sx_val q _ hk (hr W) (h W.heap.size _ (hp.add (Mv.quiet (below_alloc (Below.refl _ _) _)) (txtM P k W.heap.size 0 []) ⟨.map [], World.ownsMap_made W P k selfE, rfl, fun x kl _ => ?_⟩ (fun k hk => by have : k = W.heap.size := hk; omega)))
  simp [Maps.has, inT]
theorem sx_txput (K : Keyed P k) (hk : noB o = true) {M X V : Operand} (ho : o.op = .mapUpdate t M X V) (hm : evl N s M = .map (some b)) {x : ByteArray} {v : Bool} {L : List ByteArray} (hx : evl N s X = .string x) (hv : evl N s V = .bool v) (ht : P.underlying t = some (.map k e)) (hn : n < maxLen)
    (hkey : (keyOf P k (.string x)).isSome = true) (i : Nat) (hc : cs[i]? = some (txtM P k b n L)) (hp : Hp w0 cs W)
    (h : ∀ W', Hp w0 (cs.set i (txtM P k b (n + 1) (addTx L x))) W' → WL P ops Q rest (fr N s) W') : WL P ops Q (o :: rest) (fr N s) W := by
  obtain ⟨kl, hkl⟩ := Option.isSome_iff_exists.1 hkey
  obtain ⟨D, hown, hs, hh⟩ := hp.at_ i _ hc
  obtain ⟨w', hrun, r1, r2⟩ := hown.update K ht hn hkl (show selfE (.bool v) = some (.held (.bool v), []) from rfl)
  refine sx_unit hk (by unfold execOp; simp [ho, hm, hx, hv, hrun, Result.andThen]) (h w' (hp.upd i _ (txtM P k b (n + 1) (addTx L x)) hc ((Mv.of_grown r2).mono (fun k hk => ?_)) ⟨_, r1, ?_, fun t' kl' h' => ?_⟩ (fun k hk => .inl hk)))
  · injection hk with hk
    exact hk.symm
  · rw [size_put (hown.tidy K), hh x kl hkl, hs]
    unfold addTx
    by_cases q : inT L x = true
    · simp [q]
    · simp [q]
  · by_cases q : kl' = kl
    · subst q
      have e1 : t' = x := by have := K.inj h' hkl; injection this
      rw [has_put_same hown.isMap (K.key hkl), e1]
      unfold addTx
      by_cases q : inT L x = true
      · simp [q]
      · rw [if_neg q]; simp [inT]
    · have e1 : t' ≠ x := fun e => q (by rw [e, hkl] at h'; exact (Option.some.inj h').symm)
      rw [has_put_other q, hh t' kl' h']
      unfold addTx
      by_cases q : inT L x = true
      · simp [q]
      · rw [if_neg q]; simp [inT, Ne.symm e1]
theorem tx_len {L : List ByteArray} {ts : Array TypeId} (ht : P.underlying t = some (.map k e)) (hts : ts = #[t]) {M : Operand} (ho : o.op = .call { callee := .builtin .len, args := #[M], argTypes := ts }) (hm : evl N s M = .map (some b)) (hc : (txtM P k b n L).ok W) : (execOp (evl N s) o).run P W = .ok (.value (.int .i64 (L.length : Int))) W := by
  subst hts
  obtain ⟨D, hown, hs, _⟩ := hc
  have q := hown.len ht o.type
  rw [hs] at q
  unfold execOp
  simp [ho, resolve, invoke, builtin, hm, q, Result.andThen]
end
end Go.Proofs.YtokkiiepddhkiaaGreatDoor.Hd
