/- What comes of a game: the program's way of reckoning it, and that it hangs on nothing but what the game's text tells (plain). -/
import Derived.Test.YtjaojemmbeddfaaGreatPGames
import Derived.Test.YtjaojemmbeddfaaGreatPKey
import Derived.Test.YtjaojemmbeddfaaGreatPSortT
import Derived.Test.YtjaojemmbeddfaaGreatPOver
import Derived.Test.YtjaojemmbeddfaaGreatG3
import Derived.Test.YtjaojemmbeddfaaGreatG2
import Derived.Test.YtjaojemmbeddfaaGreatPTile
import Derived.Test.YtjaojemmbeddfaaGreatG0
namespace Go.Proofs.YtjaojemmbeddfaaGreat.Pure
open Go.RowKit Go.Proofs.YtjaojemmbeddfaaGreat.Hd Go.Proofs.YtjaojemmbeddfaaGreatW.PrintWords Go.Proofs.YtjaojemmbeddfaaGreatW.PrintLast
set_option linter.unusedVariables false
set_option linter.unusedSimpArgs false
def pipsW : List S_Tile → Int → Int
  | [], acc => acc
  | t :: r, acc => pipsW r (wrap64 (acc + wrap64 (t.f0 + t.f1)))
theorem tiPips_l0 (l : List S_Tile) (hl : l.length ≤ 8388608) : ∀ (d i : Nat) (acc : Int), i + d = l.length → Ev (fun k => spec_tiPips.l0 k acc l (l.length : Int) (i : Int)) (pipsW (l.drop i) acc) := by
  intro d
  induction d with
  | zero =>
    intro i acc hi
    refine Ev.succ ?_
    simp only [spec_tiPips.l0]
    rw [List.drop_of_length_le (by omega)]
    exact Ev.neg (by omega) (Ev.ret rfl)
  | succ d ih =>
    intro i acc hi
    refine Ev.succ ?_
    have hlt : i < l.length := by omega
    simp only [spec_tiPips.l0]
    rw [rdT_at hlt, w64' (n := (i : Int) + 1) (m := ((i + 1 : Nat) : Int)) (by omega) (by omega) (by omega), List.drop_eq_getElem_cons hlt]
    exact Ev.pos (by omega) (Ev.pos (by omega) (Ev.pos (by omega) (ih (i + 1) _ (by omega))))
theorem tiPips_ev (l : List S_Tile) (hl : l.length ≤ 8388608) : Ev (fun k => spec_tiPips.f k l) (pipsW l 0) := by
  unfold spec_tiPips.f
  exact tiPips_l0 l hl l.length 0 0 (by omega)
theorem pips_l0 (l : List S_Tile) (hl : l.length ≤ 8388608) : ∀ (d i : Nat) (acc : Int), i + d = l.length → Ev (fun k => impl_pips.l0 k acc l (l.length : Int) (i : Int)) (pipsW (l.drop i) acc) := by
  intro d
  induction d with
  | zero =>
    intro i acc hi
    refine Ev.succ ?_
    simp only [impl_pips.l0]
    rw [List.drop_of_length_le (by omega)]
    exact Ev.neg (by omega) (Ev.ret rfl)
  | succ d ih =>
    intro i acc hi
    refine Ev.succ ?_
    have hlt : i < l.length := by omega
    simp only [impl_pips.l0]
    rw [rdT_at hlt, w64' (n := (i : Int) + 1) (m := ((i + 1 : Nat) : Int)) (by omega) (by omega) (by omega), List.drop_eq_getElem_cons hlt]
    exact Ev.pos (by omega) (Ev.pos (by omega) (Ev.pos (by omega) (ih (i + 1) _ (by omega))))
theorem pips_ev (l : List S_Tile) (hl : l.length ≤ 8388608) : Ev (fun k => impl_pips.f k l) (pipsW l 0) := by
  unfold impl_pips.f
  exact pips_l0 l hl l.length 0 0 (by omega)
end Go.Proofs.YtjaojemmbeddfaaGreat.Pure
namespace Go.Proofs.YtjaojemmbeddfaaGreat.Pure
open Go.RowKit Go.Proofs.YtjaojemmbeddfaaGreat.Hd Go.Proofs.YtjaojemmbeddfaaGreatW.PrintWords Go.Proofs.YtjaojemmbeddfaaGreatW.PrintLast
set_option linter.unusedVariables false
set_option linter.unusedSimpArgs false
def pointsW (f s : List S_Tile) : Int := wrap64 (pipsW s 0 - pipsW f 0)
theorem plPointsW_ev (f s : List S_Tile) (r : List Int) (t p : Int) (hf : f.length ≤ 1048576) (hs : s.length ≤ 1048576) : Ev (fun k => spec_plPoints.f k f s r t p) (pointsW f s) := by
  unfold spec_plPoints.f
  exact Ev.bd (tiPips_ev s (by omega)) (Ev.bd (tiPips_ev f (by omega)) (Ev.ret rfl))
theorem gmPointsW_ev (f s : List S_Tile) (r : List Int) (t p : Int) (hf : f.length ≤ 1048576) (hs : s.length ≤ 1048576) : Ev (fun k => impl_Game_points.f k f s r t p) (pointsW f s) := by
  unfold impl_Game_points.f
  exact Ev.bd (pips_ev s (by omega)) (Ev.bd (pips_ev f (by omega)) (Ev.ret rfl))
end Go.Proofs.YtjaojemmbeddfaaGreat.Pure
namespace Go.Proofs.YtjaojemmbeddfaaGreat.Pure
open Go Go.RowKit Go.Proofs.YtjaojemmbeddfaaGreat.Hd Go.Proofs.YtjaojemmbeddfaaGreatW.PrintWords Go.Proofs.YtjaojemmbeddfaaGreatW.PrintLast
set_option linter.unusedVariables false
set_option linter.unusedSimpArgs false
structure Ft where
  pts : Int
  games : Int
  longest : Int
def stepFt (turn : Int) (k : Nat) (out nx : Ft) : Ft :=
  ⟨if k = 0 ∨ (nx.pts ≠ out.pts ∧ (decide (nx.pts > out.pts) = (turn == 0))) then nx.pts else out.pts, out.games + nx.games, if out.longest < nx.longest + 1 then nx.longest + 1 else out.longest⟩
def foldFt (F : Gm → Ft) (g : Gm) : List S_plLay → Nat → Ft → Ft
  | [], _, out => out
  | x :: L, k, out => foldFt F g L (k + 1) (stepFt g.t k out (F (g.make x)))
def endFt (g : Gm) : Ft := ⟨pointsW g.f g.s, 1, 0⟩
def fateN : Nat → Gm → Ft
  | 0, g => endFt g
  | d + 1, g => if g.over = true then endFt g else foldFt (fateN d) g g.moves 0 ⟨0, 0, 0⟩
def Gm.mu (g : Gm) : Nat := 2 * (g.f.length + g.s.length) + (2 - g.p.toNat)
theorem foldFt_snoc (F : Gm → Ft) (g : Gm) : ∀ (L : List S_plLay) (x : S_plLay) (k : Nat) (out : Ft), foldFt F g (L ++ [x]) k out = stepFt g.t (k + L.length) (foldFt F g L k out) (F (g.make x))
  | [], x, k, out => rfl
  | y :: L, x, k, out => by
    rw [List.cons_append]
    show foldFt F g (L ++ [x]) (k + 1) _ = _
    rw [foldFt_snoc F g L x (k + 1)]
    show _ = stepFt g.t (k + (y :: L).length) (foldFt F g L (k + 1) _) _
    rw [List.length_cons, show k + 1 + L.length = k + (L.length + 1) by omega]
/-- Two games of which the same text is told. -/
def endsL (r : List Int) : List Int := if r.length = 0 then [] else [endA r, endB r]
def sameG (g h : Gm) : Prop := sortT g.f = sortT h.f ∧ sortT g.s = sortT h.s ∧ endsL g.r = endsL h.r ∧ g.t = h.t ∧ g.p = h.p
theorem endsL_nil {r r' : List Int} (h : endsL r = endsL r') : (r.length = 0 ↔ r'.length = 0) := by
  unfold endsL at h
  by_cases q : r.length = 0
  · rw [if_pos q] at h
    by_cases q2 : r'.length = 0
    · exact ⟨fun _ => q2, fun _ => q⟩
    · rw [if_neg q2] at h; cases h
  · rw [if_neg q] at h
    by_cases q2 : r'.length = 0
    · rw [if_pos q2] at h; cases h
    · exact ⟨fun z => (q z).elim, fun z => (q2 z).elim⟩
theorem endsL_ends {r r' : List Int} (h : endsL r = endsL r') (h0 : r.length ≠ 0) : endA r = endA r' ∧ endB r = endB r' := by
  have h1 : r'.length ≠ 0 := fun z => h0 ((endsL_nil h).2 z)
  unfold endsL at h
  rw [if_neg h0, if_neg h1] at h
  simp only [List.cons.injEq, and_true] at h
  exact h
theorem sortT_permH {l : List S_Tile} (h : handB l = true) : (sortT l).Perm l := by
  obtain ⟨_, hg, hd⟩ := hand_parts h
  rw [← sort_eq hg hd]
  exact List.mergeSort_perm l leT
theorem len_same {l l' : List S_Tile} (h : handB l = true) (h' : handB l' = true) (e : sortT l = sortT l') : l.length = l'.length := by
  rw [← (sortT_permH h).length_eq, ← (sortT_permH h').length_eq, e]
def sumP (l : List S_Tile) : Int := (l.map fun t => t.f0 + t.f1).sum
theorem sumP_perm {l l' : List S_Tile} (h : l.Perm l') : sumP l = sumP l' := by
  unfold sumP
  induction h with
  | nil => rfl
  | cons x _ ih => simp only [List.map_cons, List.sum_cons, ih]
  | swap x y l => simp only [List.map_cons, List.sum_cons]; omega
  | trans _ _ ih1 ih2 => rw [ih1, ih2]
theorem wrap_add (x y : Int) : wrap64 (wrap64 x + wrap64 y) = wrap64 (x + y) := by unfold wrap64; omega
theorem pipsW_sum : ∀ (l : List S_Tile) (a : Int), pipsW l (wrap64 a) = wrap64 (a + sumP l)
  | [], a => by simp [pipsW, sumP]
  | t :: l, a => by
    show pipsW l (wrap64 (wrap64 a + wrap64 (t.f0 + t.f1))) = _
    rw [wrap_add, pipsW_sum l]
    unfold sumP
    rw [List.map_cons, List.sum_cons]
    congr 1
    omega
theorem pipsW_same {l l' : List S_Tile} (h : handB l = true) (h' : handB l' = true) (e : sortT l = sortT l') : pipsW l 0 = pipsW l' 0 := by
  have e0 : (0 : Int) = wrap64 0 := (w64' rfl (by omega) (by omega)).symm
  rw [e0, pipsW_sum, pipsW_sum, ← sumP_perm (sortT_permH h), ← sumP_perm (sortT_permH h'), e]
theorem over_same {g h : Gm} (hg : GmOk g) (hh : GmOk h) (e : sameG g h) : g.over = h.over := by
  have h1 := len_same hg.f hh.f e.1
  have h2 := len_same hg.s hh.s e.2.1
  unfold Gm.over overB
  rw [h1, h2, e.2.2.2.2]
theorem end_same {g h : Gm} (hg : GmOk g) (hh : GmOk h) (e : sameG g h) : endFt g = endFt h := by
  unfold endFt pointsW
  rw [pipsW_same hg.f hh.f e.1, pipsW_same hg.s hh.s e.2.1]
theorem fitL_same {r r' : List Int} (e : endsL r = endsL r') : fitL r = fitL r' := by
  funext t
  unfold fitL
  by_cases q : r.length = 0
  · rw [if_pos q, if_pos ((endsL_nil e).1 q)]
  · obtain ⟨h1, h2⟩ := endsL_ends e q
    rw [if_neg q, if_neg (fun z => q ((endsL_nil e).2 z)), h1, h2]
theorem moves_same {g h : Gm} (hg : GmOk g) (hh : GmOk h) (e : sameG g h) : g.moves = h.moves := by
  have ho := over_same hg hh e
  have hw : sortT (ownT g.f g.s g.t) = sortT (ownT h.f h.s h.t) := by
    unfold ownT
    rw [e.2.2.2.1]
    split
    · exact e.2.1
    · exact e.1
  unfold Gm.over at ho
  unfold Gm.moves movesL fitTo
  rw [ho, hw, fitL_same e.2.2.1]
theorem gone1_sort (l : List S_Tile) (t : S_Tile) : sortT (gone1 l t) = gone1 (sortT l) t := by
  unfold sortT keepT gone1
  rw [List.filter_filter]
  refine List.filter_congr fun x _ => ?_
  by_cases h1 : x ∈ l <;> by_cases h2 : outT t x = true <;> simp [List.mem_filter, h1, h2]
theorem ends_row {r r' : List Int} (e : endsL r = endsL r') (x : S_plLay) : endsL (rowP r x) = endsL (rowP r' x) := by
  by_cases q : r.length = 0
  · have q' := (endsL_nil e).1 q
    unfold rowP
    rw [if_pos q, if_pos q']
  · have q' : ¬ r'.length = 0 := fun z => q ((endsL_nil e).2 z)
    obtain ⟨h1, h2⟩ := endsL_ends e q
    have key : ∀ (r : List Int), r.length ≠ 0 → endsL (rowP r x) = if x.f1 = true then [otherN x.f0 (endA r), endB r] else [endA r, otherN x.f0 (endB r)] := by
      intro r hr
      unfold rowP
      rw [if_neg hr]
      split
      · rename_i hx
        unfold endsL
        rw [if_neg (by simp)]
        have a1 : endA ([otherN x.f0 (endA r)] ++ r) = otherN x.f0 (endA r) := rfl
        have a2 : endB ([otherN x.f0 (endA r)] ++ r) = endB r := by
          obtain ⟨m, hm⟩ : ∃ m, r.length = m + 1 := ⟨r.length - 1, by omega⟩
          unfold endB
          rw [List.length_append, List.length_singleton, hm]
          have e1 : (((1 + (m + 1) : Nat) : Int) - 1) = ((m + 1 : Nat) : Int) := by omega
          have e2 : (((m + 1 : Nat) : Int) - 1) = ((m : Nat) : Int) := by omega
          rw [e1, e2]
          unfold rd
          simp
        rw [a1, a2]
      · unfold endsL
        rw [if_neg (by simp)]
        have a1 : endA (r ++ [otherN x.f0 (endB r)]) = endA r := by
          unfold endA rd
          simp only [Int.toNat_zero, List.getD_eq_getElem?_getD]
          rw [List.getElem?_append_left (by omega)]
        have a2 : endB (r ++ [otherN x.f0 (endB r)]) = otherN x.f0 (endB r) := by
          unfold endB
          rw [List.length_append, List.length_singleton]
          have e1 : (((r.length + 1 : Nat) : Int) - 1) = ((r.length : Nat) : Int) := by omega
          rw [e1]
          unfold rd
          simp
        rw [a1, a2]
    rw [key r q, key r' q', h1, h2]
theorem make_same {g h : Gm} (e : sameG g h) (x : S_plLay) : sameG (g.make x) (h.make x) := by
  obtain ⟨e1, e2, e3, e4, e5⟩ := e
  unfold Gm.make
  split
  · exact ⟨e1, e2, e3, by simp only [e4], by simp only [e5]⟩
  · exact ⟨by simp only [gone1_sort, e1], by simp only [gone1_sort, e2], ends_row e3 x, by simp only [e4], rfl⟩
theorem fold_same {g h : Gm} (F : Gm → Ft) (ht : g.t = h.t) : ∀ (L : List S_plLay) (k : Nat) (out : Ft), (∀ x ∈ L, F (g.make x) = F (h.make x)) → foldFt F g L k out = foldFt F h L k out
  | [], k, out, _ => rfl
  | x :: L, k, out, hx => by
    show foldFt F g L (k + 1) (stepFt g.t k out (F (g.make x))) = foldFt F h L (k + 1) (stepFt h.t k out (F (h.make x)))
    rw [hx x List.mem_cons_self, ht]
    exact fold_same F ht L (k + 1) _ (fun y hy => hx y (List.mem_cons_of_mem _ hy))
theorem fate_same : ∀ (d : Nat) (g h : Gm), GmOk g → GmOk h → sameG g h → fateN d g = fateN d h
  | 0, g, h, hg, hh, e => end_same hg hh e
  | d + 1, g, h, hg, hh, e => by
    unfold fateN
    rw [over_same hg hh e]
    split
    · exact end_same hg hh e
    · have hm := moves_same hg hh e
      rw [← hm]
      refine fold_same (fateN d) e.2.2.2.1 g.moves 0 _ fun x hx => ?_
      exact fate_same d _ _ (make_ok hg hx) (make_ok hh (by rw [← hm]; exact hx)) (make_same e x)
/-- Fuel beyond the measure changes nothing. -/
theorem mu_make {g : Gm} (ho : GmOk g) {x : S_plLay} (h : x ∈ g.moves) : (g.make x).mu < g.mu := by
  obtain ⟨hov, hx⟩ := moves_mem h
  have hp : g.p ≠ 2 ∧ g.f.length ≠ 0 ∧ g.s.length ≠ 0 := by
    unfold Gm.over overB at hov
    simp only [Bool.or_eq_false_iff, decide_eq_false_iff_not, beq_eq_false_iff_ne] at hov
    exact ⟨hov.2.2, hov.1, hov.2.1⟩
  have hp2 := ho.p
  rcases hx with hx | ⟨h2, hm, _⟩
  · subst hx
    unfold Gm.make Gm.mu
    simp only [if_true]
    omega
  · unfold Gm.make Gm.mu
    rw [h2]
    simp only [Bool.false_eq_true, if_false]
    have hf := gone1_len g.f x.f0
    have hs := gone1_len g.s x.f0
    unfold ownT at hm
    split at hm
    · have := gone1_lt hm
      omega
    · have := gone1_lt hm
      omega
theorem fold_eq (F F' : Gm → Ft) (g : Gm) : ∀ (L : List S_plLay) (k : Nat) (out : Ft), (∀ x ∈ L, F (g.make x) = F' (g.make x)) → foldFt F g L k out = foldFt F' g L k out
  | [], k, out, _ => rfl
  | x :: L, k, out, hx => by
    show foldFt F g L (k + 1) (stepFt g.t k out (F (g.make x))) = foldFt F' g L (k + 1) (stepFt g.t k out (F' (g.make x)))
    rw [hx x List.mem_cons_self]
    exact fold_eq F F' g L (k + 1) _ (fun y hy => hx y (List.mem_cons_of_mem _ hy))
theorem fate_fuel : ∀ (d e : Nat) (g : Gm), GmOk g → g.mu ≤ d → g.mu ≤ e → fateN d g = fateN e g
  | 0, 0, g, _, _, _ => rfl
  | 0, e + 1, g, ho, h1, _ => by
    have hl : g.over = true := by
      unfold Gm.mu at h1
      unfold Gm.over overB
      have : g.f.length = 0 := by omega
      simp [this]
    unfold fateN
    rw [if_pos hl]
  | d + 1, 0, g, ho, _, h2 => by
    have hl : g.over = true := by
      unfold Gm.mu at h2
      unfold Gm.over overB
      have : g.f.length = 0 := by omega
      simp [this]
    unfold fateN
    rw [if_pos hl]
  | d + 1, e + 1, g, ho, h1, h2 => by
    unfold fateN
    split
    · rfl
    · refine fold_eq _ _ g g.moves 0 _ fun x hx => ?_
      have := mu_make ho hx
      exact fate_fuel d e _ (make_ok ho hx) (by omega) (by omega)
/-- What comes of a game. -/
def fateF (g : Gm) : Ft := fateN g.mu g
theorem fateF_same {g h : Gm} (hg : GmOk g) (hh : GmOk h) (e : sameG g h) : fateF g = fateF h := by
  unfold fateF
  have h1 := len_same hg.f hh.f e.1
  have h2 := len_same hg.s hh.s e.2.1
  have hm : g.mu = h.mu := by unfold Gm.mu; rw [h1, h2, e.2.2.2.2]
  rw [hm]
  exact fate_same h.mu g h hg hh e
theorem fateF_step {g : Gm} (ho : GmOk g) (h : g.over = false) : fateF g = foldFt fateF g g.moves 0 ⟨0, 0, 0⟩ := by
  unfold fateF
  have hm : g.mu ≠ 0 := fun z => by
    unfold Gm.over overB at h
    simp only [Bool.or_eq_false_iff, decide_eq_false_iff_not] at h
    unfold Gm.mu at z
    omega
  obtain ⟨d, hd⟩ : ∃ d, g.mu = d + 1 := ⟨g.mu - 1, by omega⟩
  rw [hd]
  have e1 : fateN (d + 1) g = foldFt (fateN d) g g.moves 0 ⟨0, 0, 0⟩ := by
    unfold fateN
    rw [if_neg (by rw [h]; exact Bool.false_ne_true)]
  rw [e1]
  refine fold_eq _ _ g g.moves 0 _ fun x hx => ?_
  have := mu_make ho hx
  exact fate_fuel d (g.make x).mu (g.make x) (make_ok ho hx) (by omega) (Nat.le_refl _)
theorem fateF_over {g : Gm} (h : g.over = true) : fateF g = endFt g := by
  unfold fateF
  cases g.mu with
  | zero => rfl
  | succ d => unfold fateN; rw [if_pos h]
end Go.Proofs.YtjaojemmbeddfaaGreat.Pure
