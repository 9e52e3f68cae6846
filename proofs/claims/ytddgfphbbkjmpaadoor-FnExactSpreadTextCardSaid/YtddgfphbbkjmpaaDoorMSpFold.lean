/- impl's spreads read play by play: plain facts. -/
import Derived.Test.YtddgfphbbkjmpaaDoorMPlay2
namespace Go.Proofs.YtddgfphbbkjmpaaDoor.Hd
open Go.RowKit Go.Proofs.YtddgfphbbkjmpaaDoor.Pure Go.Proofs.YtddgfphbbkjmpaaDoorW.PrintWords Go.Proofs.YtddgfphbbkjmpaaDoorW.PrintLast Go.Proofs.YtddgfphbbkjmpaaDoorW.PrintMore
set_option linter.unusedVariables false
def spS0 : SpSt := ⟨[], [], -1, false, false⟩
def spAdd (s : SpSt) (p : S_Play) : Option SpSt := if spCan s p then some (spDo s p) else none
def spReadF (plays : List S_Play) : Option SpSt := plays.foldlM spAdd spS0
theorem sfold_next {σ α : Type} (f : σ → α → Option σ) (s0 : σ) (l : List α) (i : Nat) (h : i < l.length) (s : σ) (hs : (l.take i).foldlM f s0 = some s) : (l.take (i + 1)).foldlM f s0 = f s l[i] := by
  rw [List.take_succ_eq_append_getElem h, List.foldlM_append, hs]
  simp
theorem sfold_none {σ α : Type} (f : σ → α → Option σ) (s0 : σ) (l : List α) (i : Nat) (hs : (l.take i).foldlM f s0 = none) : l.foldlM f s0 = none := by
  have h : (l.take i ++ l.drop i).foldlM f s0 = none := by rw [List.foldlM_append, hs]; rfl
  rwa [List.take_append_drop] at h
structure SpOk (s : SpSt) (n : Nat) : Prop where
  ti : s.ti.length = n
  le : n ≤ 28
  ar : s.ar.length ≤ 2 + 2 * n
  two : s.sp < 0 → s.ar.length ≤ 2 ∧ s.w0 = false ∧ s.w1 = false
theorem spOk_start : SpOk spS0 0 := ⟨rfl, by omega, by simp [spS0], fun _ => by simp [spS0]⟩
theorem spOk_next {s : SpSt} {n : Nat} {p : S_Play} (h : SpOk s n) (hc : spCan s p = true) : SpOk (spDo s p) (n + 1) := by
  have hti := h.ti
  have hle := h.le
  have h28 : s.ti.length ≠ 28 := by
    unfold spCan at hc
    simp only [Bool.and_eq_true, Bool.not_eq_true', beq_eq_false_iff_ne] at hc
    intro e
    exact hc.1.2 (by omega)
  have hg : goodT p.f0 = true := by
    unfold spCan at hc
    simp only [Bool.and_eq_true] at hc
    exact hc.1.1.1
  have hb : 0 ≤ p.f0.f0 := by
    unfold goodT at hg
    simp only [Bool.and_eq_true, decide_eq_true_eq] at hg
    omega
  unfold spDo
  dsimp only
  by_cases h0 : s.ti.length = 0
  · rw [if_pos h0]
    refine ⟨by simp; omega, by omega, by simp, fun hlt => ⟨by simp, ?_, ?_⟩⟩
    · have h2 : ¬ ((p.f0.f0 == p.f0.f1) = true) := fun e => by rw [if_pos e] at hlt; have hlt : p.f0.f0 < 0 := hlt; omega
      have h3 : s.sp < 0 := by rw [if_neg h2] at hlt; exact hlt
      simp only [Bool.not_eq_true] at h2
      show ((p.f0.f0 == p.f0.f1) || s.w0) = false
      rw [h2, (h.two h3).2.1]; rfl
    · have h2 : ¬ ((p.f0.f0 == p.f0.f1) = true) := fun e => by rw [if_pos e] at hlt; have hlt : p.f0.f0 < 0 := hlt; omega
      have h3 : s.sp < 0 := by rw [if_neg h2] at hlt; exact hlt
      simp only [Bool.not_eq_true] at h2
      show ((p.f0.f0 == p.f0.f1) || s.w1) = false
      rw [h2, (h.two h3).2.2]; rfl
  · rw [if_neg h0]
    have har := h.ar
    refine ⟨by simp; omega, by omega, ?_, fun hlt => ?_⟩
    · dsimp only
      split <;> simp <;> omega
    · have h2 : ¬ (((p.f0.f0 == p.f0.f1) && decide (s.sp < 0)) = true) := fun e => by
        simp only [e, if_true] at hlt
        omega
      have h3 : s.sp < 0 := by
        simp only [h2, if_false, Bool.false_eq_true] at hlt
        simpa [h2] using hlt
      obtain ⟨q1, q2, q3⟩ := h.two h3
      have h4 : ((p.f0.f0 == p.f0.f1) && decide (s.sp < 0)) = false := by simpa using h2
      have h5 : spHit s p.f1 = false := by unfold spHit; rw [q2, q3]; simp
      simp [h4, h5, q1, q2, q3]
theorem spOk_fold : ∀ (l : List S_Play) (s s' : SpSt) (n : Nat), SpOk s n → l.foldlM spAdd s = some s' → SpOk s' (n + l.length) := by
  intro l
  induction l with
  | nil => intro s s' n h hs; injection hs with hs; subst hs; exact h
  | cons p l ih =>
    intro s s' n h hs
    rw [List.foldlM_cons] at hs
    cases hc : spCan s p with
    | false => simp [spAdd, hc] at hs
    | true =>
      have : spAdd s p = some (spDo s p) := by simp [spAdd, hc]
      rw [this] at hs
      have h2 := ih (spDo s p) s' (n + 1) (spOk_next h hc) hs
      rw [List.length_cons, show n + (l.length + 1) = n + 1 + l.length by omega]
      exact h2
theorem srd_play (l : List S_Play) (i : Nat) (h : i < l.length) : rd_Play l (i : Int) = l[i] := by unfold rd_Play; simp [h]
def impl_spreadOf.f (l : List S_Play) : Option (List S_Arm × List S_Tile × Int × Bool × Bool × Bool) :=
  match spReadF l with
  | some s => some (s.ar, s.ti, s.sp, s.w0, s.w1, true)
  | none => some ([], [], 0, false, false, false)
end Go.Proofs.YtddgfphbbkjmpaaDoor.Hd
