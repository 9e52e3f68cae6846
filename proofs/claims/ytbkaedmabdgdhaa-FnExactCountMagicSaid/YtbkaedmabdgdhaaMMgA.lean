/- Chunks of a row: their headers as a row of the call's own; what they read. -/
import Derived.Test.YtbkaedmabdgdhaaMChunk
import Derived.Test.YtbkaedmabdgdhaaMSxM
import Derived.Test.YtbkaedmabdgdhaaMSxN
namespace Go.Proofs.Ytbkaedmabdgdhaa.Hd
open Go Go.RowKit Go.Proofs.YtbkaedmabdgdhaaW.PrintWords Go.Proofs.YtbkaedmabdgdhaaW.PrintLast Go.Proofs.YtbkaedmabdgdhaaW.PrintMore
set_option linter.unusedVariables false
set_option linter.unusedSimpArgs false
def hdrsL (g wd R : Nat) : List (Option Addr × Nat × Nat) := (List.range R).map fun j => (some ⟨g, j * wd, none⟩, wd, wd)
def chunksL (R wd : Nat) (l : List Int) : List (List Int) := (List.range R).map fun j => (l.take ((j + 1) * wd)).drop (j * wd)
theorem hdrsL_len (g wd R : Nat) : (hdrsL g wd R).length = R := by simp [hdrsL]
theorem chunksL_len (R wd : Nat) (l : List Int) : (chunksL R wd l).length = R := by simp [chunksL]
theorem chunk_le {R wd N j : Nat} (hN : R * wd = N) (hj : j < R) : (j + 1) * wd ≤ N ∧ j * wd + wd = (j + 1) * wd := by
  refine ⟨?_, ?_⟩
  · rw [← hN]; exact Nat.mul_le_mul_right wd hj
  · rw [Nat.add_mul, Nat.one_mul]
theorem own_hdrs {w' : World} {base e g wd R : Nat} {v : Value} (h : w'.ownsRow base e 1 v R ((List.range R).map (hdrC g wd))) : Kd.R hdrK e w' base (fun k => base ≤ k) v (hdrsL g wd R) := by
  have e1 : (List.range R).map (hdrC g wd) = (hdrsL g wd R).map (fun h => Value.slice h.1 h.2.1 h.2.2) := by
    unfold hdrsL; rw [List.map_map]; rfl
  rw [e1] at h
  refine ⟨fun k hk => own_base h k hk, _, by rw [hdrsL_len]; exact h, ?_⟩
  exact reps_map (R := hdrK.M w' base _) (f := fun h : Option Addr × Nat × Nat => Value.slice h.1 h.2.1 h.2.2) (fun _ => rfl) _
theorem add_off (g o n : Nat) : Addr.add ⟨g, o, none⟩ n = ⟨g, o + n, none⟩ := by
  unfold Addr.add
  split <;> simp_all
theorem chunk_C {W : World} {g wd R N j : Nat} {l : List Int} (hL : Kd.C (Kd.int .i64) W (some ⟨g, 0, none⟩) l.length l) (hN : R * wd = l.length) (hj : j < R) : Kd.C (Kd.int .i64) W (some ⟨g, j * wd, none⟩) ((l.take ((j + 1) * wd)).drop (j * wd)).length ((l.take ((j + 1) * wd)).drop (j * wd)) := by
  obtain ⟨h1, h2, h3⟩ := hL
  obtain ⟨q1, q2⟩ := chunk_le hN hj
  refine ⟨rfl, by simp; omega, fun h0 => ⟨_, rfl, fun i x hx => ?_⟩⟩
  have hpos : 0 < l.length := by
    rcases Nat.eq_zero_or_pos l.length with q | q
    · have : l = [] := List.eq_nil_of_length_eq_zero q
      subst this; simp at h0
    · exact q
  obtain ⟨ad, e, hc⟩ := h3 hpos
  injection e with e
  subst e
  have hx2 : l[j * wd + i]? = some x := by
    rw [List.getElem?_drop] at hx
    rw [List.getElem?_take] at hx
    split at hx
    · exact hx
    · cases hx
  obtain ⟨c, hs, hr, hcell⟩ := hc _ x hx2
  refine ⟨c, hs, hr, fun k u hu => ?_⟩
  have := hcell k u hu
  rw [add_off] at this ⊢
  have hsz : (Kd.int .i64).sz = 1 := rfl
  rw [hsz] at this ⊢
  rw [show j * wd + (i * 1 + k) = 0 + ((j * wd + i) * 1 + k) by omega]
  exact this
theorem chunk_len {R wd j : Nat} {l : List Int} (hN : R * wd = l.length) (hj : j < R) : ((l.take ((j + 1) * wd)).drop (j * wd)).length = wd := by
  obtain ⟨q1, q2⟩ := chunk_le hN hj
  rw [List.length_drop, List.length_take]; omega
theorem hdrs_C {W : World} {ei g wd R : Nat} {A : Option Addr} {l : List Int} (hH : hdrK.C W A (hdrsL g wd R).length (hdrsL g wd R)) (hL : Kd.C (Kd.int .i64) W (some ⟨g, 0, none⟩) l.length l) (hN : R * wd = l.length) : Kd.C (Kd.slice ei (Kd.int .i64)) W A (chunksL R wd l).length (chunksL R wd l) := by
  obtain ⟨h1, h2, h3⟩ := hH
  have e1 : (chunksL R wd l).length = (hdrsL g wd R).length := by rw [chunksL_len, hdrsL_len]
  refine ⟨rfl, by omega, fun h0 => ?_⟩
  obtain ⟨ad, e, hc⟩ := h3 (by omega)
  refine ⟨ad, e, fun j p hp => ?_⟩
  have hj : j < R := by
    have := (List.getElem?_eq_some_iff.1 hp).1
    rwa [chunksL_len] at this
  have hp2 : p = (l.take ((j + 1) * wd)).drop (j * wd) := by
    unfold chunksL at hp
    rw [List.getElem?_map, List.getElem?_range hj] at hp
    exact (Option.some.inj hp).symm
  have hh : (hdrsL g wd R)[j]? = some (some ⟨g, j * wd, none⟩, wd, wd) := by
    unfold hdrsL
    rw [List.getElem?_map, List.getElem?_range hj]; rfl
  obtain ⟨c, hs, hr, hcell⟩ := hc j _ hh
  have hr2 : c = [.slice (some ⟨g, j * wd, none⟩) wd wd] := hr
  subst hr2
  have hcl := chunk_len hN hj
  refine ⟨[.slice (some ⟨g, j * wd, none⟩) wd wd], rfl, ?_, hcell⟩
  refine ⟨some ⟨g, j * wd, none⟩, wd, ?_, ?_, ?_⟩
  · rw [hp2, hcl]
  · rw [hp2, hcl]; exact Nat.le_refl _
  · rw [hp2]; exact chunk_C (N := R * wd) hL hN hj
theorem row_capM {α : Type} {d : Kd α} {e base : Nat} {A : Option Addr} {n c : Nat} {xs : List α} {F : Nat → Prop} {W : World} (h : (row d e base (.slice A n c) xs F).ok W) : c ≤ 9223372036854775807 := by
  obtain ⟨-, inner, ho, hr⟩ := row_R h
  rcases ho.2 with ⟨h2, _⟩ | ⟨g', cap', cur, he, hb, hh, hc, hm, hcs, htk⟩
  · injection h2 with _ _ h3; omega
  · injection he with _ _ h3
    subst h3
    exact hm
end Go.Proofs.Ytbkaedmabdgdhaa.Hd
