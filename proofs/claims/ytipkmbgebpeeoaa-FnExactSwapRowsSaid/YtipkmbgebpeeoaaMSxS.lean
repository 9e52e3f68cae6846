/- Rows of rows that lie apart: two of them exchanged. -/
import Derived.Test.YtipkmbgebpeeoaaMSxN
import Derived.Sort.Row
namespace Go.Proofs.Ytipkmbgebpeeoaa.Hd
open Go Go.RowKit Go.Proofs.YtipkmbgebpeeoaaW.PrintWords Go.Proofs.YtipkmbgebpeeoaaW.PrintLast Go.Proofs.YtipkmbgebpeeoaaW.PrintMore
set_option linter.unusedVariables false
def swI (i j m : Nat) : Nat := if m = i then j else if m = j then i else m
theorem swI_swI (i j m : Nat) : swI i j (swI i j m) = m := by
  unfold swI
  by_cases h1 : m = i
  · subst h1
    rw [if_pos rfl]
    by_cases h2 : j = m
    · rw [if_pos h2, h2]
    · rw [if_neg h2, if_pos rfl]
  · rw [if_neg h1]
    by_cases h2 : m = j
    · rw [if_pos h2, if_pos rfl, h2]
    · rw [if_neg h2, if_neg h1, if_neg h2]
theorem swI_lt {i j m n : Nat} (hi : i < n) (hj : j < n) (hm : m < n) : swI i j m < n := by
  unfold swI
  split
  · exact hj
  · split
    · exact hi
    · exact hm
/-- Two elements of a list exchanged. -/
def swL {α : Type} (xs : List α) (i j : Nat) (hi : i < xs.length) (hj : j < xs.length) : List α := (xs.set i xs[j]).set j xs[i]
theorem swL_len {α : Type} (xs : List α) (i j : Nat) (hi : i < xs.length) (hj : j < xs.length) : (swL xs i j hi hj).length = xs.length := by simp [swL]
theorem swL_at {α : Type} (xs : List α) (i j : Nat) (hi : i < xs.length) (hj : j < xs.length) (m : Nat) (hm : m < xs.length) : (swL xs i j hi hj)[m]? = some (xs[swI i j m]'(swI_lt hi hj hm)) := by
  unfold swL
  rw [List.getElem?_set, List.getElem?_set]
  by_cases h2 : j = m
  · subst h2
    rw [if_pos rfl, if_pos (by simpa using hm)]
    congr 1
    unfold swI
    by_cases h1 : j = i
    · subst h1; simp
    · simp [h1]
  · rw [if_neg h2]
    by_cases h1 : i = m
    · subst h1
      rw [if_pos rfl, if_pos hm]
      simp [swI]
    · rw [if_neg h1, List.getElem?_eq_getElem hm]
      congr 1
      unfold swI
      simp [Ne.symm h1, Ne.symm h2]
/-- The header of a row of a caller's rows: where it lies, what it reads. -/
theorem hdr_at {α : Type} {di : Kd α} {ei n : Nat} {w : World} {cs : List Chunk} {A : Option Addr} {xs : List (List α)} (hC : ∀ W, Hp w cs W → Kd.C (Kd.slice ei di) W A n xs) (hc2 : ∀ W, Hp w cs W → Below w.heap.size w W) (hp : Hp w cs w) (i : Nat) (hi : i < xs.length) :
    ∃ A' c', (∀ W, Hp w cs W → W.cell? (adr A (i : Int) 1) = some (.slice A' xs[i].length c')) ∧ (∀ W, Hp w cs W → Kd.C di W A' xs[i].length xs[i]) ∧ xs[i].length ≤ c' := by
  obtain ⟨h1, h2, h3⟩ := hC w hp
  obtain ⟨ad, hA, hj⟩ := h3 (by omega)
  obtain ⟨c, hlen, hK, hcell⟩ := hj i xs[i] (List.getElem?_eq_getElem hi)
  obtain ⟨A', c', rfl, hl, hc⟩ := hK
  have hc0 := hcell 0 (.slice A' xs[i].length c') rfl
  refine ⟨A', c', fun W h => ?_, fun W h => Kd.C_below hc (hc2 W h), hl⟩
  have e : adr A (i : Int) 1 = ad.add (i * 1 + 0) := by rw [hA]; simp [adr]
  rw [e]
  exact ((hc2 W h).cell (World.block_lt_of_cell? _ _ hc0)).trans hc0
theorem heap_swap {W : World} {g : Nat} {cur : Array Value} {e : TypeId} {fz : Nat × Nat} (hh : W.heap[g]? = some (.cells cur e fz)) (i j : Nat) (a b : Value) :
    ((W.setCell ⟨g, i, none⟩ a).setCell ⟨g, j, none⟩ b).heap[g]? = some (.cells ((cur.setIfInBounds i a).setIfInBounds j b) e fz) ∧ (∀ k, k ≠ g → ((W.setCell ⟨g, i, none⟩ a).setCell ⟨g, j, none⟩ b).heap[k]? = W.heap[k]?) ∧ ((W.setCell ⟨g, i, none⟩ a).setCell ⟨g, j, none⟩ b).heap.size = W.heap.size := by
  rw [Sort.setCell_eq, Sort.setCell_eq, Sort.mapBlock_mapBlock]
  refine ⟨?_, fun k hk => ?_, ?_⟩
  · simp only [Sort.mapBlock, Array.getElem?_modify, hh, if_true, Option.map_some, Sort.onCells]
  · simp only [Sort.mapBlock, Array.getElem?_modify]
    rw [if_neg (fun q => hk q.symm)]
  · simp only [Sort.mapBlock, Array.size_modify]
theorem one_at {l : List Value} {m : Nat} {v : Value} (h : l[m]? = some v) : (l.drop (m * 1)).take 1 = [v] := by
  have hlt := (List.getElem?_eq_some_iff.1 h).1
  rw [Nat.mul_one, List.drop_eq_getElem_cons hlt, List.take_succ_cons, List.take_zero, (List.getElem?_eq_some_iff.1 h).2]
theorem S_swap {α : Type} {d : Kd α} (h1 : d.sz = 1) {e base n cap g : Nat} {xs : List α} {W : World} {ok : Nat → Prop} (h : Kd.S d e W base ok (.slice (some ⟨g, 0, none⟩) n cap) xs) (i j : Nat) (hi : i < xs.length) (hj : j < xs.length) :
    ∃ vi vj, W.cell? ⟨g, i, none⟩ = some vi ∧ W.cell? ⟨g, j, none⟩ = some vj ∧ Kd.S d e ((W.setCell ⟨g, i, none⟩ vj).setCell ⟨g, j, none⟩ vi) base ok (.slice (some ⟨g, 0, none⟩) n cap) (swL xs i j hi hj) := by
  obtain ⟨f, h0, inner, ho, hr⟩ := h
  have hsz : (Kd.tag f d).sz = 1 := h1
  rw [hsz] at ho hr
  rw [List.length_zipIdx] at ho
  obtain ⟨hlen, hq⟩ := ho
  rcases hq with ⟨h2, _⟩ | ⟨g', cap', cur, he, hb, hh, hc, hm, hcs, htk⟩
  · cases h2
  have heq := he
  injection heq with e1 e2 e3
  have e4 : g' = g := by injection e1 with e5; injection e5 with e6; exact e6.symm
  subst e4
  subst e3
  rw [Nat.mul_one] at hlen htk hcs
  have hli : i < inner.length := by omega
  have hlj : j < inner.length := by omega
  have hcell : ∀ m, m < inner.length → W.cell? ⟨g', m, none⟩ = inner[m]? := by
    intro m hm'
    unfold World.cell?
    rw [hh]
    simp only [Option.isSome_none, Bool.false_eq_true, if_false]
    rw [← htk, List.getElem?_take, if_pos (by omega)]
    simp
  refine ⟨inner[i], inner[j], by rw [hcell i hli, List.getElem?_eq_getElem hli], by rw [hcell j hlj, List.getElem?_eq_getElem hlj], ?_⟩
  obtain ⟨w1, w2, w3⟩ := heap_swap hh i j inner[j] inner[i]
  refine ⟨fun k => swI i j (f k), h0, swL inner i j hli hlj, ?_, ?_⟩
  · show World.ownsRow _ base e (Kd.tag _ d).sz _ _ _
    rw [show (Kd.tag (fun k => swI i j (f k)) d).sz = 1 from h1]
    rw [List.length_zipIdx, swL_len]
    refine ⟨by rw [swL_len]; omega, .inr ⟨g', _, _, he, hb, w1, hc, hm, by simp; omega, ?_⟩⟩
    rw [Array.toList_setIfInBounds, Array.toList_setIfInBounds, List.take_set, List.take_set, Nat.mul_one, htk]
    rfl
  · show Reps _ (Kd.tag _ d).sz _ _
    rw [show (Kd.tag (fun k => swI i j (f k)) d).sz = 1 from h1]
    refine ⟨by rw [swL_len, List.length_zipIdx, swL_len]; omega, fun m p hp => ?_⟩
    rw [List.getElem?_zipIdx, Nat.zero_add] at hp
    obtain ⟨x, hx, rfl⟩ := Option.map_eq_some_iff.1 hp
    have hm' : m < xs.length := by
      have := (List.getElem?_eq_some_iff.1 hx).1
      rwa [swL_len] at this
    rw [swL_at xs i j hi hj m hm'] at hx
    have hx' := Option.some.inj hx
    have hlt := swI_lt hi hj hm'
    have hin : (swL inner i j hli hlj)[m]? = some (inner[swI i j m]'(by omega)) := swL_at inner i j hli hlj m (by omega)
    rw [one_at hin]
    have hold := hr.2 (swI i j m) (xs[swI i j m], swI i j m) (by rw [List.getElem?_zipIdx, List.getElem?_eq_getElem hlt]; simp)
    rw [one_at (List.getElem?_eq_getElem (show swI i j m < inner.length by omega)), hx'] at hold
    have hmv : (Kd.tag f d).M ((W.setCell ⟨g', i, none⟩ inner[j]).setCell ⟨g', j, none⟩ inner[i]) base (fun k => ok k ∧ some k ≠ (Value.slice (some ⟨g', 0, none⟩) n cap).ownBlock) (x, swI i j m) [inner[swI i j m]'(by omega)] :=
      (Kd.tag f d).M_move (fun k hk => w2 k (fun q => hk.2 (by subst q; rfl))) hold
    exact d.M_mono (fun k hk => ⟨hk.1, by show swI i j (f k) = m; rw [hk.2, swI_swI]⟩) hmv
/-- Two pieces as one. -/
def joinC (a b : Chunk) : Chunk where
  fp k := a.fp k ∨ b.fp k
  ok W := a.ok W ∧ b.ok W
  move h e := ⟨a.move h.1 (fun k hk => e k (.inl hk)), b.move h.2 (fun k hk => e k (.inr hk))⟩
  live h k hk := hk.elim (a.live h.1 k) (b.live h.2 k)
theorem Hp.join {w0 W : World} {cs : List Chunk} {a b : Chunk} (h : Hp w0 (a :: b :: cs) W) : Hp w0 (joinC a b :: cs) W := by
  refine ⟨fun i c hc => ?_, fun i j c d hne hc hd k hk hk' => ?_, h.os, h.tape, h.output, h.size⟩
  · cases i with
    | zero => injection hc with hc; subst hc; exact ⟨h.ok 0 a rfl, h.ok 1 b rfl⟩
    | succ i => exact h.ok (i + 2) c hc
  · cases i with
    | zero =>
      injection hc with hc
      subst hc
      cases j with
      | zero => exact hne rfl
      | succ j =>
        rcases hk with hk | hk
        · exact h.ap 0 (j + 2) a d (by omega) rfl hd k hk hk'
        · exact h.ap 1 (j + 2) b d (by omega) rfl hd k hk hk'
    | succ i =>
      cases j with
      | zero =>
        injection hd with hd
        subst hd
        rcases hk' with hk' | hk'
        · exact h.ap (i + 2) 0 c a (by omega) hc rfl k hk hk'
        · exact h.ap (i + 2) 1 c b (by omega) hc rfl k hk hk'
      | succ j => exact h.ap (i + 2) (j + 2) c d (by omega) hc hd k hk hk'
section
variable {P : Program} {N : Nat} {s : List (Nat × Value)} {o1 o2 : Oper} {rest : List Oper} {ops : Array Oper} {Q : Exit → Act → World → Prop} {W w0 : World} {cs : List Chunk} {α : Type}
/-- A literal of one row of the call's own, and its append to a row of rows: the row goes in. -/
theorem sx_pushS (q1 q2 : Nat) (hk1 : okB o1 q1 N = true) (hk2 : okB o2 q2 N = true) {di : Kd α} {ei e base : Nat} {v hv : Value} {xs : List (List α)} {ys : List α} {F G : Nat → Prop}
    (hr1 : ∀ W : World, (execOp (evl N s) o1).run P W = .ok (.value (.slice (some ⟨W.heap.size, 0, none⟩) 1 1)) (W.alloc (.cells #[hv] e (0, 0))))
    {S X : Operand} {t : TypeId} (z : Value) (bytes : Nat) (ho : o2.op = .call { callee := .builtin .append, args := #[S, X], argTypes := #[t, t] }) (ht : P.underlying t = some (.slice e)) (hinfo : (P.info? e).map (fun i => (i.zero, i.size, i.bytes)) = some (some z, 1, bytes)) (hz : z.cells.size = 1) (hb0 : 0 < bytes)
    (hs : evl N ((q1, .slice (some ⟨W.heap.size, 0, none⟩) 1 1) :: s) S = v) (hx : evl N ((q1, .slice (some ⟨W.heap.size, 0, none⟩) 1 1) :: s) X = .slice (some ⟨W.heap.size, 0, none⟩) 1 1)
    (hbase : base ≤ W.heap.size) (hl : (xs.length + 1) * bytes ≤ 140737488355328) (hp : Hp w0 (rowS (Kd.slice ei di) e base v xs F :: row di ei base hv ys G :: cs) W)
    (h : ∀ A' c' F' W', Hp w0 (rowS (Kd.slice ei di) e base (.slice A' (xs ++ [ys]).length c') (xs ++ [ys]) F' :: cs) W' → WL P ops Q rest (fr N ((q2, .slice A' (xs ++ [ys]).length c') :: (q1, .slice (some ⟨W.heap.size, 0, none⟩) 1 1) :: s)) W') : WL P ops Q (o1 :: o2 :: rest) (fr N s) W := by
  refine sx_val q1 _ hk1 (hr1 W) ⟨?_⟩
  obtain ⟨h1, h2, h3⟩ := okB_spec hk2
  have hS := hp.at_ 0 _ rfl
  have hR := hp.at_ 1 _ rfl
  have hap : ∀ k, F k → G k → False := fun k a b => hp.ap 0 1 _ _ (by omega) rfl rfl k a b
  have hown : ∀ k, G k → some k ≠ v.ownBlock := fun k hk e => hap k (by obtain ⟨f, hf, _⟩ := hS.1; exact hf k e.symm) hk
  refine Kd.S_append (Kd.slice ei di) (w0 := W) (W := W) base h1 S X t e z bytes ho ht hinfo hz (Nat.lt_succ_self 0) hb0 v xs ys [hv] (fun k => F k ∨ G k ∨ W.heap.size ≤ k) G (by rw [fr_eval]; exact hs) (by rw [fr_eval]; exact hx) ⟨hv, rfl, hR.1⟩ (fun k hk => ⟨.inr (.inl hk), hown k hk⟩) (fun k hk => .inr (.inr hk)) (Kd.S_mono hS.1 (fun k hk => ⟨.inl hk, fun q => hap k hk q⟩)) (Below.refl _ _) hbase hl ?_
  intro v1 w1 hS1 hB hG hat
  obtain ⟨A', c', rfl, hc'⟩ := Kd.S_reads hS1
  rw [h2, fr_put _ _ h3]
  refine (h A' c' (fun k => (F k ∨ G k ∨ W.heap.size ≤ k) ∧ base ≤ k ∧ k < w1.heap.size) w1 ?_).out
  exact hp.join.upd 0 _ (rowS (Kd.slice ei di) e base (.slice A' (xs ++ [ys]).length c') (xs ++ [ys]) (fun k => (F k ∨ G k ∨ W.heap.size ≤ k) ∧ base ≤ k ∧ k < w1.heap.size)) rfl ((Mv.of_grown hG).mono (fun k hk => .inl (by obtain ⟨f, hf, _⟩ := hS.1; exact hf k hk))) ⟨Kd.S_mono (Kd.S_bound hS1) (fun k hk => ⟨hk.1, hk.2.1, hk.2.2.1⟩), fun k hk => hk.2.2⟩ (fun k hk => hk.1.elim (fun a => .inl (.inl a)) (fun a => a.elim (fun b => .inl (.inr b)) .inr))
end
end Go.Proofs.Ytipkmbgebpeeoaa.Hd
