/- Rows of rows: opened for two stores of headers, and closed again. -/
import Derived.Test.YtipkmbgebpeeoaaMSxS
import Derived.Test.YtipkmbgebpeeoaaMSxM
import Derived.Test.YtipkmbgebpeeoaaMRowStep
namespace Go.Proofs.Ytipkmbgebpeeoaa.Hd
open Go Go.RowKit Go.Proofs.YtipkmbgebpeeoaaW.PrintWords Go.Proofs.YtipkmbgebpeeoaaW.PrintLast Go.Proofs.YtipkmbgebpeeoaaW.PrintMore
set_option linter.unusedVariables false
section
variable {α : Type} {d : Kd α} {e base n c g : Nat} {v : Value} {xs : List α} {F : Nat → Prop} {W w0 : World} {A : Option Addr} {cs : List Chunk}
theorem Hp.litS0 {f : Nat → Nat} (hp : Hp w0 (row (Kd.tag f d) e base v [] F :: cs) W) : Hp w0 (rowS d e base v [] F :: cs) W :=
  hp.upd 0 _ (rowS d e base v [] F) rfl (Mv.refl _ _) ⟨⟨f, (hp.at_ 0 _ rfl).1⟩, (hp.at_ 0 _ rfl).2⟩ (fun k hk => .inl hk)
theorem Hp.split {a b x : Chunk} (h : Hp w0 (x :: cs) W) (ha : a.ok W) (hb : b.ok W) (hfa : ∀ k, a.fp k → x.fp k) (hfb : ∀ k, b.fp k → x.fp k) (hab : ∀ k, a.fp k → b.fp k → False) : Hp w0 (a :: b :: cs) W := by
  refine ⟨fun i c hc => ?_, fun i j c d hne hc hd k hk hk' => ?_, h.os, h.tape, h.output, h.size⟩
  · match i, hc with
    | 0, hc => injection hc with hc; subst hc; exact ha
    | 1, hc => injection hc with hc; subst hc; exact hb
    | i + 2, hc => exact h.ok (i + 1) c hc
  · match i, j, hc, hd with
    | 0, 0, _, _ => exact hne rfl
    | 1, 1, _, _ => exact hne rfl
    | 0, 1, hc, hd => injection hc with hc; injection hd with hd; subst hc; subst hd; exact hab k hk hk'
    | 1, 0, hc, hd => injection hc with hc; injection hd with hd; subst hc; subst hd; exact hab k hk' hk
    | 0, j + 2, hc, hd => injection hc with hc; subst hc; exact h.ap 0 (j + 1) x d (by omega) rfl hd k (hfa k hk) hk'
    | 1, j + 2, hc, hd => injection hc with hc; subst hc; exact h.ap 0 (j + 1) x d (by omega) rfl hd k (hfb k hk) hk'
    | i + 2, 0, hc, hd => injection hd with hd; subst hd; exact h.ap (i + 1) 0 c x (by omega) hc rfl k hk (hfa k hk')
    | i + 2, 1, hc, hd => injection hd with hd; subst hd; exact h.ap (i + 1) 0 c x (by omega) hc rfl k hk (hfb k hk')
    | i + 2, j + 2, hc, hd => exact h.ap (i + 1) (j + 1) c d (by omega) hc hd k hk hk'
/-- What a row of rows says beside its own block. -/
def inS {α : Type} (d : Kd α) (e base n c g : Nat) (xs : List α) (F : Nat → Prop) (cur : Array Value) : Chunk where
  fp k := F k ∧ k ≠ g
  ok W := ∃ W0 : World, Kd.S d e W0 base F (.slice (some ⟨g, 0, none⟩) n c) xs ∧ W0.heap[g]? = some (.cells cur e (0, 0)) ∧ (∀ k, F k → k < W0.heap.size) ∧ ∀ k, F k → k ≠ g → W.heap[k]? = W0.heap[k]?
  move h e := by
    obtain ⟨W0, a, b, c, d⟩ := h
    exact ⟨W0, a, b, c, fun k hk hn => (e k ⟨hk, hn⟩).trans (d k hk hn)⟩
  live h k hk := by
    obtain ⟨W0, a, b, c, d⟩ := h
    have h1 := d k hk.1 hk.2
    rw [Array.getElem?_eq_getElem (c k hk.1)] at h1
    exact (Array.getElem?_eq_some_iff.1 h1).1
theorem cell_at {cur : Array Value} {e : TypeId} (hh : W.heap[g]? = some (.cells cur e (0, 0))) (i : Nat) : W.cell? ⟨g, i, none⟩ = cur[i]? := by
  unfold World.cell?
  rw [hh]
  simp
theorem Hp.openS {ei : Nat} {ys : List (List α)} (hp : Hp w0 (rowS (Kd.slice ei d) e base (.slice A n c) ys F :: cs) W) (i j : Nat) (hi : i < ys.length) (hj : j < ys.length) :
    ∃ g cur Ai ni ci Aj nj cj, A = some ⟨g, 0, none⟩ ∧ n = ys.length ∧ i < cur.size ∧ j < cur.size ∧ cur[i]? = some (.slice Ai ni ci) ∧ cur[j]? = some (.slice Aj nj cj) ∧ Hp w0 (blk g cur e :: inS (Kd.slice ei d) e base n c g ys F cur :: cs) W := by
  obtain ⟨hS, hlt⟩ := hp.at_ 0 _ rfl
  obtain ⟨g, cap, oki, u, hv, hci, hRi, _, _⟩ := S_row_step hS (i : Int) (by omega) (by omega)
  obtain ⟨g2, cap2, okj, u2, hv2, hcj, hRj, _, _⟩ := S_row_step hS (j : Int) (by omega) (by omega)
  injection hv with hA hn hc
  injection hv2 with hA2 _ _
  subst hA
  subst hn
  subst hc
  injection hA2 with hA2
  injection hA2 with hA2
  subst hA2
  obtain ⟨Ai, ci, rfl⟩ := Kd.R_slice hRi
  obtain ⟨Aj, cj, rfl⟩ := Kd.R_slice hRj
  obtain ⟨cur, hh⟩ := Kd.S_typed hS g rfl
  rw [cell_at hh] at hci hcj
  simp only [Int.toNat_natCast] at hci hcj
  have hF : F g := by
    obtain ⟨f, hf, _⟩ := hS
    exact hf g rfl
  refine ⟨g, cur, Ai, _, ci, Aj, _, cj, rfl, rfl, (Array.getElem?_eq_some_iff.1 hci).1, (Array.getElem?_eq_some_iff.1 hcj).1, hci, hcj, hp.split hh ⟨W, hS, hh, hlt, fun _ _ _ => rfl⟩ (fun k hk => ?_) (fun k hk => hk.1) (fun k hk hk' => hk'.2 hk)⟩
  have : k = g := hk
  subst this
  exact hF
theorem Hp.closeS (hsz : d.sz = 1) {cur : Array Value} {i j : Nat} {vi vj : Value} (hi : i < xs.length) (hj : j < xs.length) (hvi : cur[i]? = some vi) (hvj : cur[j]? = some vj)
    (hp : Hp w0 (blk g ((cur.setIfInBounds i vj).setIfInBounds j vi) e :: inS d e base n c g xs F cur :: cs) W) : Hp w0 (rowS d e base (.slice (some ⟨g, 0, none⟩) n c) (swL xs i j hi hj) F :: cs) W := by
  have hb : W.heap[g]? = _ := hp.at_ 0 _ rfl
  obtain ⟨W0, hS, hh, hlt, hsame⟩ := hp.at_ 1 _ rfl
  obtain ⟨vi', vj', h1, h2, hS2⟩ := S_swap hsz hS i j hi hj
  rw [cell_at hh, hvi] at h1
  rw [cell_at hh, hvj] at h2
  injection h1 with h1
  injection h2 with h2
  subst h1
  subst h2
  obtain ⟨w1, w2, w3⟩ := heap_swap hh i j vj vi
  have hm : ∀ k, F k → W.heap[k]? = ((W0.setCell ⟨g, i, none⟩ vj).setCell ⟨g, j, none⟩ vi).heap[k]? := fun k hk => by
    by_cases e : k = g
    · subst e; rw [hb, w1]
    · rw [hsame k hk e, w2 k e]
  refine hp.join.upd 0 _ (rowS d e base (.slice (some ⟨g, 0, none⟩) n c) (swL xs i j hi hj) F) rfl (Mv.refl _ _) ⟨Kd.S_move hS2 hm, fun k hk => ?_⟩ (fun k hk => .inl ?_)
  · have h1 := hm k hk
    have h2 : k < ((W0.setCell ⟨g, i, none⟩ vj).setCell ⟨g, j, none⟩ vi).heap.size := by rw [w3]; exact hlt k hk
    rw [Array.getElem?_eq_getElem h2] at h1
    exact (Array.getElem?_eq_some_iff.1 h1).1
  · by_cases e : k = g
    · exact .inl e
    · exact .inr ⟨hk, e⟩
theorem set_one (cur : Array Value) (i : Nat) (x : Value) (h : i < cur.size) : cur.toList.take i ++ [x] ++ cur.toList.drop (i + [x].length) = (cur.setIfInBounds i x).toList := by
  rw [Array.toList_setIfInBounds, List.set_eq_take_append_cons_drop, if_pos (by simpa using h)]
  simp
theorem ix_g {P : Program} {N : Nat} {s : List (Nat × Value)} {o : Oper} {W : World} {g n c : Nat} {t e : TypeId} {X I : Operand} {k : IntKind} {i : Int} (ho : o.op = .indexAddr t X I) (hX : evl N s X = .slice (some ⟨g, 0, none⟩) n c) (hI : evl N s I = .int k i) (hu : P.underlying t = some (.slice e)) (hz : (P.info? e).map (·.size) = some 1) (h0 : 0 ≤ i) (h1 : i < (n : Int)) :
    (execOp (evl N s) o).run P W = .ok (.value (.pointer (some ⟨g, i.toNat, none⟩))) W := by
  rw [ix_some ho hX hI hu hz h0 h1]
  simp [adr, add_plain]
end
end Go.Proofs.Ytipkmbgebpeeoaa.Hd
