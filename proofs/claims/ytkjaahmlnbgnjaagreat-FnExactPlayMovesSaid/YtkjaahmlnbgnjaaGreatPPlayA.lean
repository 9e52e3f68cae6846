/- Moves made one after the other: plain. -/
import Derived.Test.YtkjaahmlnbgnjaaGreatPFind
namespace Go.Proofs.YtkjaahmlnbgnjaaGreat.Pure
open Go.RowKit Go.Proofs.YtkjaahmlnbgnjaaGreat.Hd Go.Proofs.YtkjaahmlnbgnjaaGreatW.PrintWords Go.Proofs.YtkjaahmlnbgnjaaGreatW.PrintLast
set_option linter.unusedVariables false
set_option linter.unusedSimpArgs false
def stepM (g : Gm) (mv : ByteArray) : Gm := match findM g.moves mv with | some x => g.make x | none => g
def fnd (g : Gm) (mv : ByteArray) : Bool := (findM g.moves mv).isSome
def gs (g : Gm) (l : List ByteArray) : Nat → Gm
  | 0 => g
  | i + 1 => stepM (gs g l i) (rdOf ByteArray.empty l (i : Int))
def allF (g : Gm) (l : List ByteArray) : Nat → Bool
  | 0 => true
  | i + 1 => allF g l i && fnd (gs g l i) (rdOf ByteArray.empty l (i : Int))
theorem allF_next {g : Gm} {l : List ByteArray} {i : Nat} (h : allF g l i = true) (hf : fnd (gs g l i) (rdOf ByteArray.empty l (i : Int)) = true) : allF g l (i + 1) = true := by
  simp only [allF]
  rw [h, hf]
  rfl
theorem allF_fail {g : Gm} {l : List ByteArray} {i : Nat} (hf : fnd (gs g l i) (rdOf ByteArray.empty l (i : Int)) = false) : ∀ n, i < n → allF g l n = false := by
  intro n
  induction n with
  | zero => intro h; omega
  | succ n ih =>
    intro h
    simp only [allF]
    by_cases e : i = n
    · subst e; rw [hf, Bool.and_false]
    · rw [ih (by omega), Bool.false_and]
theorem step_ok {g : Gm} (ho : GmOk g) (mv : ByteArray) : GmOk (stepM g mv) := by
  unfold stepM
  split
  · rename_i x hx; exact make_ok ho (findM_some hx).1
  · exact ho
theorem step_row (g : Gm) (mv : ByteArray) : (stepM g mv).r.length ≤ g.r.length + 2 := by
  unfold stepM
  split
  · exact make_row g _
  · omega
theorem gs_ok {g : Gm} (ho : GmOk g) (l : List ByteArray) : ∀ i, GmOk (gs g l i) := by
  intro i
  induction i with
  | zero => exact ho
  | succ i ih => exact step_ok ih _
theorem gs_row (g : Gm) (l : List ByteArray) : ∀ i, (gs g l i).r.length ≤ g.r.length + 2 * i := by
  intro i
  induction i with
  | zero => exact Nat.le_refl _
  | succ i ih => have := step_row (gs g l i) (rdOf ByteArray.empty l (i : Int)); simp only [gs]; omega
theorem gm_of {g : Gm} (ho : GmOk g) (hr : g.r.length ≤ 2000000) : gmB g.f g.s g.r g.t g.p := ⟨⟨ho.f, ho.s⟩, hr, ho.t, ho.p⟩
theorem resFind_t {g : Gm} (ho : GmOk g) {mv : ByteArray} (h : fnd g mv = true) : resFind g mv = (stepM g mv).out := by
  unfold fnd at h
  unfold resFind stepM
  cases hf : findM g.moves mv with
  | none => rw [hf] at h; cases h
  | some x => dsimp only; rw [makeS_eq ho (findM_some hf).1]
theorem resFind_n {g : Gm} {mv : ByteArray} (h : fnd g mv = false) : resFind g mv = noGm := by
  unfold fnd at h
  unfold resFind
  cases hf : findM g.moves mv with
  | none => rfl
  | some x => rw [hf] at h; cases h
theorem plFind_t {g : Gm} (ho : GmOk g) (hr : g.r.length ≤ 2000000) {mv : ByteArray} (h : fnd g mv = true) : Ev (fun k => spec_plFind.f k g.f g.s g.r g.t g.p mv) ((stepM g mv).f, (stepM g mv).s, (stepM g mv).r, (stepM g mv).t, (stepM g mv).p, true) := by
  have := plFind_ev g (gm_of ho hr) mv
  rwa [resFind_t ho h] at this
theorem plFind_n {g : Gm} (ho : GmOk g) (hr : g.r.length ≤ 2000000) {mv : ByteArray} (h : fnd g mv = false) : Ev (fun k => spec_plFind.f k g.f g.s g.r g.t g.p mv) ([], [], [], 0, 0, false) := by
  have := plFind_ev g (gm_of ho hr) mv
  rwa [resFind_n h] at this
theorem inS_fnd (g : Gm) (mv : ByteArray) : inS (g.moves.map txt) mv = fnd g mv := by
  unfold fnd
  rw [Bool.eq_iff_iff, inS_iff, findM_mem, Option.isSome_iff_exists]
theorem contains_fnd (g : Gm) (mv : ByteArray) : Ev (fun k => slices_Contains_string_string.f k (g.moves.map txt) mv) (fnd g mv) := by
  have hL : g.moves.length ≤ 200 := movesL_len _ _ _ _ _
  rw [← inS_fnd]
  exact containsS_ev _ mv (by rw [List.length_map]; omega)
theorem behind_step {g : Gm} (ho : GmOk g) (hr : g.r.length ≤ 2000000) {mv : ByteArray} (h : fnd g mv = true) : impl_Game_behind.f g.f g.s g.r g.t g.p mv = some ((stepM g mv).f, (stepM g mv).s, (stepM g mv).r, (stepM g mv).t, (stepM g mv).p) := by
  unfold fnd at h
  cases hf : findM g.moves mv with
  | none => rw [hf] at h; cases h
  | some x =>
    rw [behind_eq (gm_of ho hr) hf]
    unfold stepM
    rw [hf]
def resPlay (g : Gm) (l : List ByteArray) : List S_Tile × List S_Tile × List Int × Int × Int × Bool := if allF g l l.length = true then (gs g l l.length).out else noGm
def resPlayMoves (f s : List S_Tile) (r : List Int) (t p : Int) (l : List ByteArray) : List S_Tile × List S_Tile × List Int × Int × Int × Bool := if gameB f s r t p = true ∧ l.length ≤ 100 then resPlay ⟨f, s, r, t, p⟩ l else noGm
theorem resPlayMoves_len (f s : List S_Tile) (r : List Int) (t p : Int) (l : List ByteArray) (hf : f.length ≤ 1048576) (hs : s.length ≤ 1048576) (hr : r.length ≤ 1048576) : (resPlayMoves f s r t p l).1.length ≤ 1048776 ∧ (resPlayMoves f s r t p l).2.1.length ≤ 1048776 ∧ (resPlayMoves f s r t p l).2.2.1.length ≤ 1048776 := by
  unfold resPlayMoves resPlay
  split
  · rename_i h
    split
    · have ho := gs_ok (GmOk.of h.1) l l.length
      have h1 := gs_row ⟨f, s, r, t, p⟩ l l.length
      have h2 := hand_len ho.f
      have h3 := hand_len ho.s
      have h4 := h.2
      refine ⟨?_, ?_, ?_⟩
      · show (gs ⟨f, s, r, t, p⟩ l l.length).f.length ≤ _; omega
      · show (gs ⟨f, s, r, t, p⟩ l l.length).s.length ≤ _; omega
      · show (gs ⟨f, s, r, t, p⟩ l l.length).r.length ≤ _
        dsimp only at h1
        omega
    · exact ⟨by simp [noGm], by simp [noGm], by simp [noGm]⟩
  · exact ⟨by simp [noGm], by simp [noGm], by simp [noGm]⟩
end Go.Proofs.YtkjaahmlnbgnjaaGreat.Pure
