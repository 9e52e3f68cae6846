/- The walk by slots: calls that write rows of the caller's own (the statements' markers). -/
import Derived.Test.YtokkiiepddhkiaaGreatDoorMSx3
namespace Go.Proofs.YtokkiiepddhkiaaGreatDoor.Hd
open Go.RowKit Go.Proofs.YtokkiiepddhkiaaGreatDoorW.PrintWords Go.Proofs.YtokkiiepddhkiaaGreatDoorW.PrintLast Go.Proofs.YtokkiiepddhkiaaGreatDoorW.PrintMore
set_option linter.unusedVariables false
set_option linter.unusedSimpArgs false
section
variable {w0 W W' : World} {cs : List Chunk}
theorem Hp.kept {S : Nat → Prop} (ps qs : List Chunk) (hp : Hp w0 (ps ++ cs) W) (hlen : qs.length = ps.length) (hq : ∀ (i : Nat) (q : Chunk), qs[i]? = some q → q.ok W') (hsub : ∀ (i : Nat) (q p : Chunk), qs[i]? = some q → ps[i]? = some p → ∀ k, q.fp k → p.fp k)
    (hS : ∀ k, S k → ∃ (i : Nat) (p : Chunk), ps[i]? = some p ∧ p.fp k) (hK : Kept W W' S) (hb : Below w0.heap.size w0 W') : Hp w0 (qs ++ cs) W' := by
  have old : ∀ (i : Nat) (q : Chunk), (qs ++ cs)[i]? = some q → ∃ p, (ps ++ cs)[i]? = some p ∧ ∀ k, q.fp k → p.fp k := by
    intro i q hi
    rw [List.getElem?_append] at hi
    rw [List.getElem?_append, ← hlen]
    split at hi
    · rename_i hlt
      rw [if_pos hlt]
      have hlt2 : i < ps.length := by omega
      exact ⟨ps[i], List.getElem?_eq_getElem hlt2, hsub i q _ hi (List.getElem?_eq_getElem hlt2)⟩
    · rename_i hlt
      rw [if_neg hlt]
      exact ⟨q, hi, fun _ h => h⟩
  refine ⟨fun i q hi => ?_, fun i j q q' hne hi hj k hk hk' => ?_, hb.os, hb.tape, hb.output, hb.size⟩
  · have hi0 := hi
    rw [List.getElem?_append] at hi
    split at hi
    · exact hq i q hi
    · rename_i hge
      obtain ⟨p, hp1, -⟩ := old i q hi0
      have hpq : p = q := by
        rw [List.getElem?_append, ← hlen, if_neg hge, hi] at hp1
        exact (Option.some.inj hp1).symm
      subst hpq
      refine p.move (hp.ok i p hp1) (fun k hk => hK.2 k (p.live (hp.ok i p hp1) k hk) (fun hs => ?_))
      obtain ⟨j, p2, hj, hk2⟩ := hS k hs
      have hjl : j < ps.length := (List.getElem?_eq_some_iff.1 hj).1
      exact hp.ap j i p2 p (by omega) (by rw [List.getElem?_append, if_pos hjl]; exact hj) hp1 k hk2 hk
  · obtain ⟨p, hp1, h1⟩ := old i q hi
    obtain ⟨p', hp2, h2⟩ := old j q' hj
    exact hp.ap i j p p' hne hp1 hp2 k (h1 k hk) (h2 k hk')
end
end Go.Proofs.YtokkiiepddhkiaaGreatDoor.Hd
