/- What LongestGame answers. -/
import Derived.Test.YtjaojemmbeddfaaGreatMLongestGame
import Derived.Test.YtjaojemmbeddfaaGreatG5
import Derived.Test.YtjaojemmbeddfaaGreatPFate2
import Derived.Test.YtjaojemmbeddfaaGreatPKeyF
import Derived.Test.YtjaojemmbeddfaaGreatMPlMake
import Derived.Test.YtjaojemmbeddfaaGreatMPlMoves
namespace Go.Proofs.YtjaojemmbeddfaaGreat.Pure
open Go Go.RowKit Go.Proofs.YtjaojemmbeddfaaGreat.Hd Go.Proofs.YtjaojemmbeddfaaGreatW.PrintWords Go.Proofs.YtjaojemmbeddfaaGreatW.PrintLast
set_option linter.unusedVariables false
set_option linter.unusedSimpArgs false
theorem mkOkF {g : Gm} {x : S_plLay} (h : x ∈ g.moves) : mkOk g.r x := by
  rcases (moves_mem h).2 with rfl | ⟨_, _, hg, _, hh⟩
  · exact .inl rfl
  · exact .inr ⟨hg, hh⟩
theorem plMakeF {g : Gm} (ho : GmOk g) (hr : g.r.length ≤ 2000000) {x : S_plLay} (h : x ∈ g.moves) : spec_plMake.f g.f g.s g.r g.t g.p x.f0.f0 x.f0.f1 x.f1 x.f2 = some ((g.make x).f, (g.make x).s, (g.make x).r, (g.make x).t, (g.make x).p) := by
  unfold spec_plMake.f
  rw [if_pos ⟨⟨⟨ho.f, ho.s⟩, hr, ho.t, ho.p⟩, mkOkF h⟩, ← makeS_eq ho h]
theorem plMovesF {g : Gm} (ho : GmOk g) (hr : g.r.length ≤ 2000000) : spec_plMoves.f g.f g.s g.r g.t g.p = some g.moves := by
  unfold spec_plMoves.f
  have h1 := hand_len ho.f
  have h2 := hand_len ho.s
  rw [if_pos ⟨by omega, by omega, hr⟩]
  rfl
theorem rdM_at {l : List S_plLay} {i : Nat} (h : i < l.length) : rd_plLay l (i : Int) = l[i] := by simp [rd_plLay, h]
theorem mostF (a b : Int) : spec_l1Most.f a b = some (if a < b then b else a) := by
  unfold spec_l1Most.f
  by_cases h : a > b
  · rw [if_pos h, if_neg (by omega)]
  · rw [if_neg h]
    by_cases h2 : a < b
    · rw [if_pos h2]
    · rw [if_neg h2, show a = b by omega]
def foldI (g : Gm) (i : Nat) : Ft := foldFt fateF g (g.moves.take i) 0 ⟨0, 0, 0⟩
theorem foldI_succ {g : Gm} {i : Nat} (h : i < g.moves.length) : foldI g (i + 1) = stepFt g.t i (foldI g i) (fateF (g.make g.moves[i])) := by
  unfold foldI
  rw [List.take_succ_eq_append_getElem h, foldFt_snoc, List.length_take, Nat.min_eq_left (Nat.le_of_lt h), Nat.zero_add]
theorem foldI_end {g : Gm} (ho : GmOk g) (hov : g.over = false) : foldI g g.moves.length = fateF g := by
  unfold foldI
  rw [List.take_length, fateF_step ho hov]
theorem foldI_bd {g : Gm} (ho : GmOk g) (hov : g.over = false) (i : Nat) : 0 ≤ (foldI g i).games ∧ (foldI g i).games ≤ (costF g : Int) ∧ 0 ≤ (foldI g i).longest ∧ (foldI g i).longest ≤ (g.mu : Int) := by
  obtain ⟨a, b, c, d⟩ := fold_ok fateF g (fun x hx => fateF_ok _ _ (make_ok ho hx) (Nat.le_refl _)) (fun x hx => mu_make ho hx) (g.moves.take i) 0 ⟨0, 0, 0⟩ (fun x hx => List.mem_of_mem_take hx) (Int.le_refl 0) (Int.le_refl 0) (by show (0 : Int) ≤ _; omega)
  have h2 := sumC_le costF g (g.moves.take i) (g.moves.drop i)
  rw [List.take_append_drop] at h2
  have h3 := costF_step ho hov
  have e : ((⟨0, 0, 0⟩ : Ft).games : Int) = 0 := rfl
  rw [e] at b
  exact ⟨a, by unfold foldI; omega, c, d⟩
theorem mem_sum {C : Gm → Nat} {g : Gm} : ∀ {L : List S_plLay} {x : S_plLay}, x ∈ L → C (g.make x) ≤ sumC C g L
  | y :: L, x, h => by
    show _ ≤ C (g.make y) + sumC C g L
    rcases List.mem_cons.1 h with rfl | h
    · omega
    · have := mem_sum (C := C) (g := g) h; omega
theorem plCount_l0 {g : Gm} (ho : GmOk g) (hov : g.over = false) (hr : g.r.length ≤ 2000000) (hm : g.mu ≤ 1000000) (hl : g.moves.length ≤ 1000) (hc : costF g ≤ 1000000000000)
    (ih : ∀ x ∈ g.moves, Ev (fun k => spec_plCount.f k (g.make x).f (g.make x).s (g.make x).r (g.make x).t (g.make x).p) ((fateF (g.make x)).games, (fateF (g.make x)).longest)) :
    ∀ (d i : Nat), i + d = g.moves.length → Ev (fun k => spec_plCount.l0 k (foldI g i).games (foldI g i).longest g.moves (g.moves.length : Int) (i : Int) g.f g.s g.r g.t g.p) ((fateF g).games, (fateF g).longest) := by
  intro d
  induction d with
  | zero =>
    intro i hi
    refine Ev.succ ?_
    simp only [spec_plCount.l0]
    have e : i = g.moves.length := by omega
    rw [e, foldI_end ho hov]
    exact Ev.neg (by omega) (Ev.ret rfl)
  | succ d hd =>
    intro i hi
    have hlt : i < g.moves.length := by omega
    have hx := List.getElem_mem hlt
    obtain ⟨b1, b2, b3, b4⟩ := foldI_bd ho hov i
    obtain ⟨c1, c2, c3, c4⟩ := fateF_ok _ _ (make_ok ho hx) (Nat.le_refl _)
    have hmu := mu_make ho hx
    have h3 := costF_step ho hov
    have h4 := mem_sum (C := costF) (g := g) hx
    have h5 := hd (i + 1) (by omega)
    rw [foldI_succ hlt] at h5
    refine Ev.succ ?_
    simp only [spec_plCount.l0]
    rw [rdM_at hlt, w64' (n := (i : Int) + 1) (m := ((i + 1 : Nat) : Int)) (by omega) (by omega) (by omega)]
    refine Ev.pos (by omega) (Ev.pos (by omega) (Ev.pos (by omega) (Ev.bs (plMakeF ho hr hx) (Ev.bd (ih _ hx) ?_))))
    refine Ev.bs (mostF _ _) ?_
    dsimp only
    rw [w64' (n := (fateF (g.make g.moves[i])).longest + 1) rfl (by omega) (by omega), w64' (n := (foldI g i).games + (fateF (g.make g.moves[i])).games) rfl (by omega) (by omega)]
    exact h5
theorem moves_few {g : Gm} (ho : GmOk g) : g.moves.length ≤ 1000 := by
  have h1 := hand_len ho.f
  have h2 := hand_len ho.s
  rcases moves_len ho with q | q
  · unfold Gm.tiles at q; omega
  · rw [q]; simp
theorem mu_few {g : Gm} (ho : GmOk g) : g.mu ≤ 1000000 := by
  have h1 := hand_len ho.f
  have h2 := hand_len ho.s
  have h3 := ho.p
  unfold Gm.mu; omega
theorem plCount_ev : ∀ (d : Nat) (g : Gm), g.mu ≤ d → GmOk g → g.r.length + 2 * g.mu ≤ 2000000 → costF g ≤ 1000000000000 → Ev (fun k => spec_plCount.f k g.f g.s g.r g.t g.p) ((fateF g).games, (fateF g).longest) := by
  intro d
  induction d with
  | zero =>
    intro g hmu ho hr hc
    have hov := mu_zero hmu
    refine Ev.succ ?_
    simp only [spec_plCount.f]
    refine Ev.bs (plOver_eq _ _ _ _ _) (Ev.pos hov (Ev.ret ?_))
    rw [fateF_over hov]; rfl
  | succ d ih =>
    intro g hmu ho hr hc
    refine Ev.succ ?_
    simp only [spec_plCount.f]
    refine Ev.bs (plOver_eq _ _ _ _ _) ?_
    cases hov : g.over with
    | true =>
      refine Ev.pos hov (Ev.ret ?_)
      rw [fateF_over hov]; rfl
    | false =>
      refine Ev.neg (fun q => by have : g.over = true := q; rw [hov] at this; cases this) (Ev.bs (plMovesF ho (by omega)) ?_)
      refine plCount_l0 ho hov (by omega) (mu_few ho) (moves_few ho) hc (fun x hx => ?_) g.moves.length 0 (by omega)
      have h1 := mu_make ho hx
      have h2 := make_row g x
      have h3 := costF_step ho hov
      have h4 := mem_sum (C := costF) (g := g) hx
      exact ih _ (by omega) (make_ok ho hx) (by omega) (by omega)
end Go.Proofs.YtjaojemmbeddfaaGreat.Pure
namespace Go.Proofs.YtjaojemmbeddfaaGreat.Pure
open Go.RowKit Go.Proofs.YtjaojemmbeddfaaGreat.Hd Go.Proofs.YtjaojemmbeddfaaGreatW.PrintWords Go.Proofs.YtjaojemmbeddfaaGreatW.PrintLast
set_option linter.unusedVariables false
set_option linter.unusedSimpArgs false
theorem specLongestGame_ev (f s : List S_Tile) (r : List Int) (t p : Int) (hf : f.length ≤ 1048576) (hs : s.length ≤ 1048576) (hr : r.length ≤ 1048576) : Ev (fun k => spec_LongestGame.f k f s r t p) (resLongestGame f s r t p) := by
  unfold spec_LongestGame.f resLongestGame
  refine Ev.bd (plSmall_ev f s r t p hf hs hr) ?_
  by_cases h : smallB f s r t p = true
  · obtain ⟨ho, hrk, hrm, hcm⟩ := small_of h hr
    exact Ev.pos h (Ev.ifp h (Ev.bd (plCount_ev _ ⟨f, s, r, t, p⟩ (Nat.le_refl _) ho hrm (by omega)) (Ev.ret rfl)))
  · exact Ev.neg h (Ev.ifn h (Ev.ret rfl))
theorem implLongestGame_ev (f s : List S_Tile) (r : List Int) (t p : Int) (hf : f.length ≤ 1048576) (hs : s.length ≤ 1048576) (hr : r.length ≤ 1048576) : Ev (fun k => impl_LongestGame.f f s r t p) (resLongestGame f s r t p) := by
  unfold impl_LongestGame.f
  exact Ev.pos ⟨hf, hs, hr⟩ (Ev.ret rfl)
end Go.Proofs.YtjaojemmbeddfaaGreat.Pure
