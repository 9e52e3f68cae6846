/- Spreads read play by play: plain facts. -/
import Derived.Test.YtddgfphbbkjmpaaDoorMLyAdd2
import Derived.Test.YtddgfphbbkjmpaaDoorMLyNew
namespace Go.Proofs.YtddgfphbbkjmpaaDoor.Hd
open Go.RowKit Go.Proofs.YtddgfphbbkjmpaaDoor.Pure Go.Proofs.YtddgfphbbkjmpaaDoorW.PrintWords Go.Proofs.YtddgfphbbkjmpaaDoorW.PrintLast Go.Proofs.YtddgfphbbkjmpaaDoorW.PrintMore
set_option linter.unusedVariables false
def lyS0 : LySt := ⟨[], [], -1, -1, false, false, false⟩
def lyReadF (plays : List S_Play) : Option LySt := if plays.length > 28 then none else plays.foldlM lyAdd lyS0
theorem foldM_next {σ α : Type} (f : σ → α → Option σ) (s0 : σ) (l : List α) (i : Nat) (h : i < l.length) (s : σ) (hs : (l.take i).foldlM f s0 = some s) : (l.take (i + 1)).foldlM f s0 = f s l[i] := by
  rw [List.take_succ_eq_append_getElem h, List.foldlM_append, hs]
  simp
theorem foldM_none {σ α : Type} (f : σ → α → Option σ) (s0 : σ) (l : List α) (i : Nat) (hs : (l.take i).foldlM f s0 = none) : l.foldlM f s0 = none := by
  have h : (l.take i ++ l.drop i).foldlM f s0 = none := by rw [List.foldlM_append, hs]; rfl
  rwa [List.take_append_drop] at h
/-- What holds of every state that plays have made. -/
structure LyOk (s : LySt) (n : Nat) : Prop where
  ti : s.ti.length = n
  ar : s.ar.length ≤ 2 + 2 * n
  sp : -1 ≤ s.sp ∧ s.sp ≤ 9
  ends : ∀ a ∈ s.ar, -1 ≤ a.f0 ∧ a.f0 ≤ 9
  tiles : ∀ t ∈ s.ti, 0 ≤ t.f0 ∧ t.f0 ≤ 9 ∧ 0 ≤ t.f1 ∧ t.f1 ≤ 9
theorem lyOk_start : LyOk lyS0 0 := ⟨rfl, by simp [lyS0], by simp [lyS0], by simp [lyS0], by simp [lyS0]⟩
theorem good_bd {t : S_Tile} (h : goodT t = true) : 0 ≤ t.f0 ∧ t.f0 ≤ t.f1 ∧ t.f1 ≤ 9 := by
  unfold goodT at h
  simp only [Bool.and_eq_true, decide_eq_true_eq] at h
  omega
theorem othT_bd {t : S_Tile} (h : goodT t = true) (e : Int) : -1 ≤ othT t e ∧ othT t e ≤ 9 := by
  have := good_bd h
  unfold othT
  split
  · omega
  · split <;> omega
theorem lyOk_next {s : LySt} {n : Nat} {p : S_Play} (h : LyOk s n) (hc : lyCan s p = true) : LyOk (lyDo s p) (n + 1) := by
  have hg : goodT p.f0 = true := by
    unfold lyCan at hc
    simp only [Bool.and_eq_true] at hc
    exact hc.1.1.1
  have hb := good_bd hg
  have ho := othT_bd hg (rd_Arm s.ar p.f1).f0
  unfold lyDo
  dsimp only
  by_cases h0 : s.ti.length = 0
  · rw [if_pos h0]
    refine ⟨by simp; have := h.ti; omega, by simp, ?_, ?_, ?_⟩
    · have := h.sp
      dsimp only
      split <;> omega
    · intro a ha
      simp only [List.mem_cons, List.not_mem_nil, or_false] at ha
      rcases ha with rfl | rfl <;> simp only <;> omega
    · intro t ht
      rcases List.mem_append.1 ht with h1 | h1
      · exact h.tiles t h1
      · simp only [List.mem_cons, List.not_mem_nil, or_false] at h1
        subst h1
        omega
  · rw [if_neg h0]
    have hset : ∀ a ∈ s.ar.set p.f1.toNat ⟨othT p.f0 (rd_Arm s.ar p.f1).f0, p.f0.f0 == p.f0.f1, false⟩, -1 ≤ a.f0 ∧ a.f0 ≤ 9 := by
      intro a ha
      rcases List.mem_or_eq_of_mem_set ha with h1 | h1
      · exact h.ends a h1
      · subst h1; exact ho
    have hsp := h.sp
    refine ⟨by simp; have := h.ti; omega, ?_, ?_, ?_, ?_⟩
    · dsimp only
      have := h.ar
      split <;> simp <;> omega
    · dsimp only
      split <;> omega
    · dsimp only
      split
      · intro a ha
        rcases List.mem_append.1 ha with h1 | h1
        · exact hset a h1
        · simp only [List.mem_cons, List.not_mem_nil, or_false] at h1
          rcases h1 with rfl | rfl <;> exact hsp
      · exact hset
    · intro t ht
      rcases List.mem_append.1 ht with h1 | h1
      · exact h.tiles t h1
      · simp only [List.mem_cons, List.not_mem_nil, or_false] at h1
        subst h1
        omega
theorem lyOk_fold : ∀ (l : List S_Play) (s s' : LySt) (n : Nat), LyOk s n → l.foldlM lyAdd s = some s' → LyOk s' (n + l.length) := by
  intro l
  induction l with
  | nil => intro s s' n h hs; injection hs with hs; subst hs; exact h
  | cons p l ih =>
    intro s s' n h hs
    rw [List.foldlM_cons] at hs
    cases hc : lyCan s p with
    | false => simp [lyAdd, hc] at hs
    | true =>
      have : lyAdd s p = some (lyDo s p) := by simp [lyAdd, hc]
      rw [this] at hs
      have h2 := ih (lyDo s p) s' (n + 1) (lyOk_next h hc) hs
      rw [List.length_cons, show n + (l.length + 1) = n + 1 + l.length by omega]
      exact h2
theorem lyOk_read {l : List S_Play} {s : LySt} (h : lyReadF l = some s) : LyOk s l.length ∧ l.length ≤ 28 := by
  unfold lyReadF at h
  split at h
  · cases h
  · have := lyOk_fold l lyS0 s 0 lyOk_start h
    rw [Nat.zero_add] at this
    exact ⟨this, by omega⟩
theorem rd_play (l : List S_Play) (i : Nat) (h : i < l.length) : rd_Play l (i : Int) = l[i] := by unfold rd_Play; simp [h]
end Go.Proofs.YtddgfphbbkjmpaaDoor.Hd
