/- The walk by slots: calls that write rows of the caller's own (the statements' markers). -/
import Derived.Test.YtjaojemmbeddfaaGreatMSx3
namespace Go.Proofs.YtjaojemmbeddfaaGreat.Hd
open Go.RowKit Go.Proofs.YtjaojemmbeddfaaGreatW.PrintWords Go.Proofs.YtjaojemmbeddfaaGreatW.PrintLast Go.Proofs.YtjaojemmbeddfaaGreatW.PrintMore
set_option linter.unusedVariables false
set_option linter.unusedSimpArgs false
section
variable {w0 W W' : World} {cs : List Chunk}
theorem Hp.kept {S : Nat → Prop} (ps qs : List Chunk) (hp : Hp w0 (ps ++ cs) W) (hlen : qs.length = ps.length) (hq : ∀ (i : Nat) (q : Chunk), qs[i]? = some q → q.ok W') (hsub : ∀ (i : Nat) (q p : Chunk), qs[i]? = some q → ps[i]? = some p → ∀ k, q.fp k → p.fp k)
    (hS : ∀ k, S k → ∃ (i : Nat) (p : Chunk), ps[i]? = some p ∧ p.fp k) (hK : Kept W W' S) (hb : Below w0.heap.size w0 W') : Hp w0 (qs ++ cs) W' := by
  have old : ∀ (i : Nat) (q : Chunk), (qs ++ cs)[i]? = some q → ∃ p, (ps ++ cs)[i]? = some p ∧ ∀ k, q.fp k → p.fp k := by
    intro i q hi
    rw [List.getElem?_append] at hi
    rw [List.getElem?_append, ← hlen]
    split at hi
    · rename_i hlt
      rw [if_pos hlt]
      have hlt2 : i < ps.length := by omega
      exact ⟨ps[i], List.getElem?_eq_getElem hlt2, hsub i q _ hi (List.getElem?_eq_getElem hlt2)⟩
    · rename_i hlt
      rw [if_neg hlt]
      exact ⟨q, hi, fun _ h => h⟩
  refine ⟨fun i q hi => ?_, fun i j q q' hne hi hj k hk hk' => ?_, hb.os, hb.tape, hb.output, hb.size⟩
  · have hi0 := hi
    rw [List.getElem?_append] at hi
    split at hi
    · exact hq i q hi
    · rename_i hge
      obtain ⟨p, hp1, -⟩ := old i q hi0
      have hpq : p = q := by
        rw [List.getElem?_append, ← hlen, if_neg hge, hi] at hp1
        exact (Option.some.inj hp1).symm
      subst hpq
      refine p.move (hp.ok i p hp1) (fun k hk => hK.2 k (p.live (hp.ok i p hp1) k hk) (fun hs => ?_))
      obtain ⟨j, p2, hj, hk2⟩ := hS k hs
      have hjl : j < ps.length := (List.getElem?_eq_some_iff.1 hj).1
      exact hp.ap j i p2 p (by omega) (by rw [List.getElem?_append, if_pos hjl]; exact hj) hp1 k hk2 hk
  · obtain ⟨p, hp1, h1⟩ := old i q hi
    obtain ⟨p', hp2, h2⟩ := old j q' hj
    exact hp.ap i j p p' hne hp1 hp2 k (h1 k hk) (h2 k hk')
theorem lit_C {α : Type} {d : Kd α} (e : Nat) {g : Nat} {cells : Array Value} {T : TypeId} {W : World} (hb : (blk g cells T).ok W) (xss : List (List α)) (hl : cells.size = xss.length) (hm : xss.length ≤ 1000000) (h : ∀ (j : Nat) (x : List α), xss[j]? = some x → ∃ A c, cells[j]? = some (.slice A x.length c) ∧ x.length ≤ c ∧ d.C W A x.length x) : Kd.C (Kd.slice e d) W (some ⟨g, 0, none⟩) xss.length xss := by
  refine ⟨rfl, by omega, fun h0 => ⟨⟨g, 0, none⟩, rfl, fun j p hj => ?_⟩⟩
  obtain ⟨A, c, hc, hl2, hC⟩ := h j p hj
  refine ⟨[.slice A p.length c], rfl, ⟨A, c, rfl, hl2, hC⟩, fun i u hi => ?_⟩
  rcases i with _ | i
  · injection hi with hi
    subst hi
    show W.cell? (Addr.add ⟨g, 0, none⟩ (j * 1 + 0)) = _
    rw [Nat.mul_one, Nat.add_zero, add_plain]
    exact cellv hb j _ hc
  · cases hi
theorem lit_C2 {α : Type} {d : Kd α} {e g : Nat} {T : TypeId} {W : World} {A0 A1 : Option Addr} {c0 c1 : Nat} {x0 x1 : List α} (hb : (blk g #[.slice A0 x0.length c0, .slice A1 x1.length c1] T).ok W) (hc0 : x0.length ≤ c0) (h0 : d.C W A0 x0.length x0) (hc1 : x1.length ≤ c1) (h1 : d.C W A1 x1.length x1) : Kd.C (Kd.slice e d) W (some ⟨g, 0, none⟩) [x0, x1].length [x0, x1] := by
  refine lit_C e hb _ rfl (by simp) (fun j x hj => ?_)
  rcases j with _ | _ | j
  · injection hj with hj; subst hj; exact ⟨A0, c0, rfl, hc0, h0⟩
  · injection hj with hj; subst hj; exact ⟨A1, c1, rfl, hc1, h1⟩
  · cases hj
theorem lit_C3 {α : Type} {d : Kd α} {e g : Nat} {T : TypeId} {W : World} {A0 A1 A2 : Option Addr} {c0 c1 c2 : Nat} {x0 x1 x2 : List α} (hb : (blk g #[.slice A0 x0.length c0, .slice A1 x1.length c1, .slice A2 x2.length c2] T).ok W) (hc0 : x0.length ≤ c0) (h0 : d.C W A0 x0.length x0) (hc1 : x1.length ≤ c1) (h1 : d.C W A1 x1.length x1) (hc2 : x2.length ≤ c2) (h2 : d.C W A2 x2.length x2) : Kd.C (Kd.slice e d) W (some ⟨g, 0, none⟩) [x0, x1, x2].length [x0, x1, x2] := by
  refine lit_C e hb _ rfl (by simp) (fun j x hj => ?_)
  rcases j with _ | _ | _ | j
  · injection hj with hj; subst hj; exact ⟨A0, c0, rfl, hc0, h0⟩
  · injection hj with hj; subst hj; exact ⟨A1, c1, rfl, hc1, h1⟩
  · injection hj with hj; subst hj; exact ⟨A2, c2, rfl, hc2, h2⟩
  · cases hj
theorem sx_litb {P : Program} {ops : Array Oper} {Q : Exit → Act → World → Prop} {N : Nat} {s : List (Nat × Value)} {rest : List Oper} {o : Oper} (q : Nat) (hk : okB o q N = true) (hp : Hp w0 cs W) (cells : Array Value) (T : TypeId) (n : Nat) (hr : ∀ W : World, (execOp (evl N s) o).run P W = .ok (.value (.slice (some ⟨W.heap.size, 0, none⟩) n n)) (W.alloc (.cells cells T (0, 0))))
    (h : ∀ g W', Hp w0 (blk g cells T :: cs) W' → WL P ops Q rest (fr N ((q, .slice (some ⟨g, 0, none⟩) n n) :: s)) W') : WL P ops Q (o :: rest) (fr N s) W :=
  sx_val q _ hk (hr W) (h W.heap.size _ (hp.add (Mv.quiet (below_alloc (Below.refl _ _) _)) (blk _ _ _) (heap_alloc_new W _) (fun k hk => by have : k = W.heap.size := hk; omega)))
end
end Go.Proofs.YtjaojemmbeddfaaGreat.Hd
