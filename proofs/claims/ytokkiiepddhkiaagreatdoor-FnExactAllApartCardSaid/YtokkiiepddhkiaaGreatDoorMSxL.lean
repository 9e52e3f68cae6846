/- The walk by slots: calls that write rows of the caller's own (the statements' markers). -/
import Derived.Test.YtokkiiepddhkiaaGreatDoorMSx3
namespace Go.Proofs.YtokkiiepddhkiaaGreatDoor.Hd
open Go.RowKit Go.Proofs.YtokkiiepddhkiaaGreatDoorW.PrintWords Go.Proofs.YtokkiiepddhkiaaGreatDoorW.PrintLast Go.Proofs.YtokkiiepddhkiaaGreatDoorW.PrintMore
set_option linter.unusedVariables false
set_option linter.unusedSimpArgs false
section
variable {w0 W W' : World} {cs : List Chunk}
theorem Hp.kept {S : Nat → Prop} (ps qs : List Chunk) (hp : Hp w0 (ps ++ cs) W) (hlen : qs.length = ps.length) (hq : ∀ (i : Nat) (q : Chunk), qs[i]? = some q → q.ok W') (hsub : ∀ (i : Nat) (q p : Chunk), qs[i]? = some q → ps[i]? = some p → ∀ k, q.fp k → p.fp k)
    (hS : ∀ k, S k → ∃ (i : Nat) (p : Chunk), ps[i]? = some p ∧ p.fp k) (hK : Kept W W' S) (hb : Below w0.heap.size w0 W') : Hp w0 (qs ++ cs) W' := by
  have old : ∀ (i : Nat) (q : Chunk), (qs ++ cs)[i]? = some q → ∃ p, (ps ++ cs)[i]? = some p ∧ ∀ k, q.fp k → p.fp k := by
    intro i q hi
    rw [List.getElem?_append] at hi
    rw [List.getElem?_append, ← hlen]
    split at hi
    · rename_i hlt
      rw [if_pos hlt]
      have hlt2 : i < ps.length := by omega
      exact ⟨ps[i], List.getElem?_eq_getElem hlt2, hsub i q _ hi (List.getElem?_eq_getElem hlt2)⟩
    · rename_i hlt
      rw [if_neg hlt]
      exact ⟨q, hi, fun _ h => h⟩
  refine ⟨fun i q hi => ?_, fun i j q q' hne hi hj k hk hk' => ?_, hb.os, hb.tape, hb.output, hb.size⟩
  · have hi0 := hi
    rw [List.getElem?_append] at hi
    split at hi
    · exact hq i q hi
    · rename_i hge
      obtain ⟨p, hp1, -⟩ := old i q hi0
      have hpq : p = q := by
        rw [List.getElem?_append, ← hlen, if_neg hge, hi] at hp1
        exact (Option.some.inj hp1).symm
      subst hpq
      refine p.move (hp.ok i p hp1) (fun k hk => hK.2 k (p.live (hp.ok i p hp1) k hk) (fun hs => ?_))
      obtain ⟨j, p2, hj, hk2⟩ := hS k hs
      have hjl : j < ps.length := (List.getElem?_eq_some_iff.1 hj).1
      exact hp.ap j i p2 p (by omega) (by rw [List.getElem?_append, if_pos hjl]; exact hj) hp1 k hk2 hk
  · obtain ⟨p, hp1, h1⟩ := old i q hi
    obtain ⟨p', hp2, h2⟩ := old j q' hj
    exact hp.ap i j p p' hne hp1 hp2 k (h1 k hk) (h2 k hk')
theorem own_sub {α : Type} {d : Kd α} {e b lo hi : Nat} {v : Value} {xs : List α} {F : Nat → Prop} (h : (row d e b v xs F).ok W) : ∀ k, own1 v lo hi k → F k := fun k hk => h.1.1 k hk.1.symm
theorem Hp.marked1 {α : Type} {d : Kd α} {e : Nat} {v : Value} {xs ys : List α} {F ok : Nat → Prop} (hp : Hp w0 (row d e w0.heap.size v xs F :: cs) W) (hB : Below w0.heap.size w0 W') (hK : Kept W W' (fun k => F k)) (hE : d.E = []) (hR : d.R e W' w0.heap.size ok v ys) :
    Hp w0 (row d e w0.heap.size v ys (own1 v w0.heap.size W'.heap.size) :: cs) W' := by
  refine Hp.kept [row d e w0.heap.size v xs F] [row d e w0.heap.size v ys (own1 v w0.heap.size W'.heap.size)] hp rfl ?_ ?_ ?_ hK hB
  · intro i q hi
    rcases i with _ | i
    · injection hi with hi; subst hi; exact row_own hE hR (Nat.le_refl _)
    · cases hi
  · intro i q p hi hj
    rcases i with _ | i
    · injection hi with hi; injection hj with hj; subst hi; subst hj; exact own_sub (hp.ok 0 _ rfl)
    · cases hi
  · exact fun k hk => ⟨0, _, rfl, hk⟩
end
end Go.Proofs.YtokkiiepddhkiaaGreatDoor.Hd
