/- What BestPoints answers. -/
import Derived.Test.YtjaojemmbeddfaaGreatMBestPoints
import Derived.Test.YtjaojemmbeddfaaGreatG5
import Derived.Test.YtjaojemmbeddfaaGreatPFate2
import Derived.Test.YtjaojemmbeddfaaGreatPKeyF
import Derived.Test.YtjaojemmbeddfaaGreatMPlMake
import Derived.Test.YtjaojemmbeddfaaGreatMPlMoves
namespace Go.Proofs.YtjaojemmbeddfaaGreat.Pure
open Go Go.RowKit Go.Proofs.YtjaojemmbeddfaaGreat.Hd Go.Proofs.YtjaojemmbeddfaaGreatW.PrintWords Go.Proofs.YtjaojemmbeddfaaGreatW.PrintLast
set_option linter.unusedVariables false
set_option linter.unusedSimpArgs false
theorem mkOkF {g : Gm} {x : S_plLay} (h : x ∈ g.moves) : mkOk g.r x := by
  rcases (moves_mem h).2 with rfl | ⟨_, _, hg, _, hh⟩
  · exact .inl rfl
  · exact .inr ⟨hg, hh⟩
theorem plMakeF {g : Gm} (ho : GmOk g) (hr : g.r.length ≤ 2000000) {x : S_plLay} (h : x ∈ g.moves) : spec_plMake.f g.f g.s g.r g.t g.p x.f0.f0 x.f0.f1 x.f1 x.f2 = some ((g.make x).f, (g.make x).s, (g.make x).r, (g.make x).t, (g.make x).p) := by
  unfold spec_plMake.f
  rw [if_pos ⟨⟨⟨ho.f, ho.s⟩, hr, ho.t, ho.p⟩, mkOkF h⟩, ← makeS_eq ho h]
theorem plMovesF {g : Gm} (ho : GmOk g) (hr : g.r.length ≤ 2000000) : spec_plMoves.f g.f g.s g.r g.t g.p = some g.moves := by
  unfold spec_plMoves.f
  have h1 := hand_len ho.f
  have h2 := hand_len ho.s
  rw [if_pos ⟨by omega, by omega, hr⟩]
  rfl
theorem rdM_at {l : List S_plLay} {i : Nat} (h : i < l.length) : rd_plLay l (i : Int) = l[i] := by simp [rd_plLay, h]
def foldI (g : Gm) (i : Nat) : Ft := foldFt fateF g (g.moves.take i) 0 ⟨0, 0, 0⟩
theorem foldI_succ {g : Gm} {i : Nat} (h : i < g.moves.length) : foldI g (i + 1) = stepFt g.t i (foldI g i) (fateF (g.make g.moves[i])) := by
  unfold foldI
  rw [List.take_succ_eq_append_getElem h, foldFt_snoc, List.length_take, Nat.min_eq_left (Nat.le_of_lt h), Nat.zero_add]
theorem foldI_end {g : Gm} (ho : GmOk g) (hov : g.over = false) : foldI g g.moves.length = fateF g := by
  unfold foldI
  rw [List.take_length, fateF_step ho hov]
theorem moves_few {g : Gm} (ho : GmOk g) : g.moves.length ≤ 1000 := by
  have h1 := hand_len ho.f
  have h2 := hand_len ho.s
  rcases moves_len ho with q | q
  · unfold Gm.tiles at q; omega
  · rw [q]; simp
theorem step_bestT {t : Int} {i : Nat} {F X : Ft} (h0 : i = 0) : (stepFt t i F X).pts = X.pts := by
  unfold stepFt; exact if_pos (.inl h0)
theorem step_bestP {t : Int} {i : Nat} {F X : Ft} (h : X.pts ≠ F.pts ∧ (decide (X.pts > F.pts) = (t == 0))) : (stepFt t i F X).pts = X.pts := by
  unfold stepFt; exact if_pos (.inr h)
theorem step_bestN {t : Int} {i : Nat} {F X : Ft} (h0 : i ≠ 0) (h : ¬ (X.pts ≠ F.pts ∧ (decide (X.pts > F.pts) = (t == 0)))) : (stepFt t i F X).pts = F.pts := by
  unfold stepFt; exact if_neg (fun q => q.elim h0 h)
theorem plBest_l0 {g : Gm} (ho : GmOk g) (hov : g.over = false) (hr : g.r.length ≤ 2000000) (hl : g.moves.length ≤ 1000)
    (ih : ∀ x ∈ g.moves, Ev (fun k => spec_plBest.f k (g.make x).f (g.make x).s (g.make x).r (g.make x).t (g.make x).p) (fateF (g.make x)).pts) :
    ∀ (d i : Nat), i + d = g.moves.length → Ev (fun k => spec_plBest.l0 k (foldI g i).pts g.moves (g.moves.length : Int) (i : Int) g.f g.s g.r g.t g.p) (fateF g).pts := by
  intro d
  induction d with
  | zero =>
    intro i hi
    refine Ev.succ ?_
    simp only [spec_plBest.l0]
    have e : i = g.moves.length := by omega
    rw [e, foldI_end ho hov]
    exact Ev.neg (by omega) (Ev.ret rfl)
  | succ d hd =>
    intro i hi
    have hlt : i < g.moves.length := by omega
    have hx := List.getElem_mem hlt
    have h5 := hd (i + 1) (by omega)
    rw [foldI_succ hlt] at h5
    have ht := ho.t
    refine Ev.succ ?_
    simp only [spec_plBest.l0]
    rw [rdM_at hlt, w64' (n := (i : Int) + 1) (m := ((i + 1 : Nat) : Int)) (by omega) (by omega) (by omega)]
    refine Ev.pos (by omega) (Ev.pos (by omega) (Ev.pos (by omega) (Ev.bs (plMakeF ho hr hx) (Ev.bd (ih _ hx) ?_))))
    by_cases h0 : i = 0
    · rw [step_bestT h0] at h5
      exact Ev.pos (by omega) h5
    · refine Ev.neg (by omega) ?_
      by_cases t0 : g.t = 0
      · refine Ev.pos t0 ?_
        by_cases hg : (fateF (g.make g.moves[i])).pts > (foldI g i).pts
        · rw [step_bestP ⟨by omega, by rw [decide_eq_true hg, t0]; rfl⟩] at h5
          exact Ev.pos hg h5
        · rw [step_bestN h0 (fun q => by have := q.2; rw [decide_eq_false hg, t0] at this; cases this)] at h5
          exact Ev.neg hg (Ev.neg (by omega) h5)
      · have t1 : (g.t == 0) = false := by simpa using t0
        refine Ev.neg t0 (Ev.pos (by omega) ?_)
        by_cases hg : (fateF (g.make g.moves[i])).pts < (foldI g i).pts
        · rw [step_bestP ⟨by omega, by rw [decide_eq_false (by omega), t1]⟩] at h5
          exact Ev.pos hg h5
        · rw [step_bestN h0 (fun q => by have h6 := q.2; rw [t1] at h6; have h7 := of_decide_eq_false h6; have h8 := q.1; omega)] at h5
          exact Ev.neg hg h5
theorem plBest_ev : ∀ (d : Nat) (g : Gm), g.mu ≤ d → GmOk g → g.r.length + 2 * g.mu ≤ 2000000 → Ev (fun k => spec_plBest.f k g.f g.s g.r g.t g.p) (fateF g).pts := by
  intro d
  induction d with
  | zero =>
    intro g hmu ho hr
    have hov := mu_zero hmu
    have h1 := hand_len ho.f
    have h2 := hand_len ho.s
    refine Ev.succ ?_
    simp only [spec_plBest.f]
    refine Ev.bs (plOver_eq _ _ _ _ _) (Ev.pos hov (Ev.bd (plPointsW_ev _ _ _ _ _ (by omega) (by omega)) (Ev.ret ?_)))
    rw [fateF_over hov]; rfl
  | succ d ih =>
    intro g hmu ho hr
    have h1 := hand_len ho.f
    have h2 := hand_len ho.s
    refine Ev.succ ?_
    simp only [spec_plBest.f]
    refine Ev.bs (plOver_eq _ _ _ _ _) ?_
    cases hov : g.over with
    | true =>
      refine Ev.pos hov (Ev.bd (plPointsW_ev _ _ _ _ _ (by omega) (by omega)) (Ev.ret ?_))
      rw [fateF_over hov]; rfl
    | false =>
      refine Ev.neg (fun q => by have : g.over = true := q; rw [hov] at this; cases this) (Ev.bs (plMovesF ho (by omega)) ?_)
      refine plBest_l0 ho hov (by omega) (moves_few ho) (fun x hx => ?_) g.moves.length 0 (by omega)
      have h1 := mu_make ho hx
      have h2 := make_row g x
      exact ih _ (by omega) (make_ok ho hx) (by omega)
end Go.Proofs.YtjaojemmbeddfaaGreat.Pure
namespace Go.Proofs.YtjaojemmbeddfaaGreat.Pure
open Go.RowKit Go.Proofs.YtjaojemmbeddfaaGreat.Hd Go.Proofs.YtjaojemmbeddfaaGreatW.PrintWords Go.Proofs.YtjaojemmbeddfaaGreatW.PrintLast
set_option linter.unusedVariables false
set_option linter.unusedSimpArgs false
theorem specBestPoints_ev (f s : List S_Tile) (r : List Int) (t p : Int) (hf : f.length ≤ 1048576) (hs : s.length ≤ 1048576) (hr : r.length ≤ 1048576) : Ev (fun k => spec_BestPoints.f k f s r t p) (resBestPoints f s r t p) := by
  unfold spec_BestPoints.f resBestPoints
  refine Ev.bd (plSmall_ev f s r t p hf hs hr) ?_
  by_cases h : smallB f s r t p = true
  · obtain ⟨ho, hrk, hrm, hcm⟩ := small_of h hr
    exact Ev.pos h (Ev.ifp h (Ev.bd (plBest_ev _ ⟨f, s, r, t, p⟩ (Nat.le_refl _) ho hrm) (Ev.ret rfl)))
  · exact Ev.neg h (Ev.ifn h (Ev.ret rfl))
theorem implBestPoints_ev (f s : List S_Tile) (r : List Int) (t p : Int) (hf : f.length ≤ 1048576) (hs : s.length ≤ 1048576) (hr : r.length ≤ 1048576) : Ev (fun k => impl_BestPoints.f f s r t p) (resBestPoints f s r t p) := by
  unfold impl_BestPoints.f
  exact Ev.pos ⟨hf, hs, hr⟩ (Ev.ret rfl)
end Go.Proofs.YtjaojemmbeddfaaGreat.Pure
