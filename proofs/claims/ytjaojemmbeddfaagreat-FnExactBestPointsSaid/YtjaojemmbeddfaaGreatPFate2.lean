/- How many games are looked at, and bounds on what comes of them (plain). -/
import Derived.Test.YtjaojemmbeddfaaGreatPFate
namespace Go.Proofs.YtjaojemmbeddfaaGreat.Pure
open Go Go.RowKit Go.Proofs.YtjaojemmbeddfaaGreat.Hd Go.Proofs.YtjaojemmbeddfaaGreatW.PrintWords Go.Proofs.YtjaojemmbeddfaaGreatW.PrintLast
set_option linter.unusedVariables false
set_option linter.unusedSimpArgs false
def sumC (C : Gm → Nat) (g : Gm) : List S_plLay → Nat
  | [] => 0
  | x :: L => C (g.make x) + sumC C g L
theorem sumC_snoc (C : Gm → Nat) (g : Gm) : ∀ (L : List S_plLay) (x : S_plLay), sumC C g (L ++ [x]) = sumC C g L + C (g.make x)
  | [], x => by simp [sumC]
  | y :: L, x => by
    show C (g.make y) + sumC C g (L ++ [x]) = C (g.make y) + sumC C g L + C (g.make x)
    rw [sumC_snoc C g L x]; omega
theorem sumC_le (C : Gm → Nat) (g : Gm) (L L' : List S_plLay) : sumC C g L ≤ sumC C g (L ++ L') := by
  induction L with
  | nil => exact Nat.zero_le _
  | cons x L ih => show C (g.make x) + sumC C g L ≤ C (g.make x) + sumC C g (L ++ L'); omega
def costN : Nat → Gm → Nat
  | 0, _ => 1
  | d + 1, g => if g.over = true then 1 else 1 + sumC (costN d) g g.moves
def costF (g : Gm) : Nat := costN g.mu g
theorem sumC_eq (C C' : Gm → Nat) (g : Gm) : ∀ (L : List S_plLay), (∀ x ∈ L, C (g.make x) = C' (g.make x)) → sumC C g L = sumC C' g L
  | [], _ => rfl
  | x :: L, h => by
    show C (g.make x) + sumC C g L = C' (g.make x) + sumC C' g L
    rw [h x List.mem_cons_self, sumC_eq C C' g L (fun y hy => h y (List.mem_cons_of_mem _ hy))]
theorem mu_zero {g : Gm} (h : g.mu ≤ 0) : g.over = true := by
  unfold Gm.mu at h
  unfold Gm.over overB
  have : g.f.length = 0 := by omega
  simp [this]
theorem cost_fuel : ∀ (d e : Nat) (g : Gm), GmOk g → g.mu ≤ d → g.mu ≤ e → costN d g = costN e g
  | 0, 0, g, _, _, _ => rfl
  | 0, e + 1, g, ho, h1, _ => by unfold costN; rw [if_pos (mu_zero h1)]
  | d + 1, 0, g, ho, _, h2 => by unfold costN; rw [if_pos (mu_zero h2)]
  | d + 1, e + 1, g, ho, h1, h2 => by
    unfold costN
    split
    · rfl
    · congr 1
      refine sumC_eq _ _ g g.moves fun x hx => ?_
      have := mu_make ho hx
      exact cost_fuel d e _ (make_ok ho hx) (by omega) (by omega)
theorem costF_step {g : Gm} (ho : GmOk g) (h : g.over = false) : costF g = 1 + sumC costF g g.moves := by
  unfold costF
  have hm : g.mu ≠ 0 := fun z => by have := mu_zero (g := g) (by omega); rw [this] at h; cases h
  obtain ⟨d, hd⟩ : ∃ d, g.mu = d + 1 := ⟨g.mu - 1, by omega⟩
  rw [hd]
  have e1 : costN (d + 1) g = 1 + sumC (costN d) g g.moves := by
    unfold costN
    rw [if_neg (by rw [h]; exact Bool.false_ne_true)]
  rw [e1]
  congr 1
  refine sumC_eq _ _ g g.moves fun x hx => ?_
  have := mu_make ho hx
  exact cost_fuel d (g.make x).mu (g.make x) (make_ok ho hx) (by omega) (Nat.le_refl _)
theorem costF_pos (g : Gm) : 1 ≤ costF g := by
  unfold costF
  cases g.mu with
  | zero => exact Nat.le_refl _
  | succ d => unfold costN; split <;> omega
/-- The fate's numbers. -/
def FtOk (g : Gm) (o : Ft) : Prop := 0 ≤ o.games ∧ o.games ≤ (costF g : Int) ∧ 0 ≤ o.longest ∧ o.longest ≤ (g.mu : Int)
theorem fold_ok (F : Gm → Ft) (g : Gm) (hF : ∀ x ∈ g.moves, FtOk (g.make x) (F (g.make x))) (hmu : ∀ x ∈ g.moves, (g.make x).mu < g.mu) : ∀ (L : List S_plLay) (k : Nat) (out : Ft), (∀ x ∈ L, x ∈ g.moves) → 0 ≤ out.games → 0 ≤ out.longest → out.longest ≤ (g.mu : Int) →
    0 ≤ (foldFt F g L k out).games ∧ (foldFt F g L k out).games ≤ out.games + (sumC costF g L : Int) ∧ 0 ≤ (foldFt F g L k out).longest ∧ (foldFt F g L k out).longest ≤ (g.mu : Int)
  | [], k, out, _, h1, h2, h3 => ⟨h1, by simp [foldFt, sumC], h2, h3⟩
  | x :: L, k, out, hx, h1, h2, h3 => by
    obtain ⟨a1, a2, a3, a4⟩ := hF x (hx x List.mem_cons_self)
    have hm := hmu x (hx x List.mem_cons_self)
    have b1 : 0 ≤ (stepFt g.t k out (F (g.make x))).games := by show 0 ≤ out.games + _; omega
    have b2 : 0 ≤ (stepFt g.t k out (F (g.make x))).longest ∧ (stepFt g.t k out (F (g.make x))).longest ≤ (g.mu : Int) := by
      unfold stepFt
      dsimp only
      split <;> omega
    obtain ⟨c1, c2, c3, c4⟩ := fold_ok F g hF hmu L (k + 1) _ (fun y hy => hx y (List.mem_cons_of_mem _ hy)) b1 b2.1 b2.2
    refine ⟨c1, ?_, c3, c4⟩
    have e1 : (stepFt g.t k out (F (g.make x))).games = out.games + (F (g.make x)).games := rfl
    have e2 : sumC costF g (x :: L) = costF (g.make x) + sumC costF g L := rfl
    show (foldFt F g L (k + 1) (stepFt g.t k out (F (g.make x)))).games ≤ _
    rw [e1] at c2
    rw [e2]
    omega
theorem fateF_ok : ∀ (d : Nat) (g : Gm), GmOk g → g.mu ≤ d → FtOk g (fateF g)
  | 0, g, ho, h => by
    rw [fateF_over (mu_zero h)]
    exact ⟨by show (0 : Int) ≤ 1; omega, by show (1 : Int) ≤ _; have := costF_pos g; omega, Int.le_refl 0, by show (0 : Int) ≤ _; omega⟩
  | d + 1, g, ho, h => by
    cases hov : g.over with
    | true =>
      rw [fateF_over hov]
      exact ⟨by show (0 : Int) ≤ 1; omega, by show (1 : Int) ≤ _; have := costF_pos g; omega, Int.le_refl 0, by show (0 : Int) ≤ _; omega⟩
    | false =>
      rw [fateF_step ho hov]
      have hm : ∀ x ∈ g.moves, (g.make x).mu < g.mu := fun x hx => mu_make ho hx
      obtain ⟨c1, c2, c3, c4⟩ := fold_ok fateF g (fun x hx => fateF_ok d _ (make_ok ho hx) (by have := hm x hx; omega)) hm g.moves 0 ⟨0, 0, 0⟩ (fun x hx => hx) (Int.le_refl 0) (Int.le_refl 0) (by show (0 : Int) ≤ _; omega)
      refine ⟨c1, ?_, c3, c4⟩
      rw [costF_step ho hov]
      have e : ((⟨0, 0, 0⟩ : Ft).games : Int) = 0 := rfl
      rw [e] at c2
      omega
/-! the bound -/
def capB : Nat → Nat
  | 0 => 3
  | n + 1 => 3 + 2 * (n + 1) * capB n
theorem sumC_bound (C : Gm → Nat) (g : Gm) (B : Nat) : ∀ (L : List S_plLay), (∀ x ∈ L, C (g.make x) ≤ B) → sumC C g L ≤ L.length * B
  | [], _ => by simp [sumC]
  | x :: L, h => by
    have h1 := h x List.mem_cons_self
    have h2 := sumC_bound C g B L (fun y hy => h y (List.mem_cons_of_mem _ hy))
    show C (g.make x) + sumC C g L ≤ (L.length + 1) * B
    rw [Nat.add_mul, Nat.one_mul]; omega
def Gm.tiles (g : Gm) : Nat := g.f.length + g.s.length
theorem capB_mono (n : Nat) : capB n ≤ capB (n + 1) := by
  show capB n ≤ 3 + 2 * (n + 1) * capB n
  have : 1 * capB n ≤ 2 * (n + 1) * capB n := Nat.mul_le_mul_right _ (by omega)
  omega
theorem moves_len {g : Gm} (ho : GmOk g) : g.moves.length ≤ 2 * g.tiles ∨ g.moves = [⟨⟨0, 0⟩, false, true⟩] := by
  unfold Gm.moves movesL
  split
  · left; exact Nat.zero_le _
  · split
    · right; rfl
    · left
      refine Nat.le_trans (fitTo_len _ _ _ (Nat.le_refl _)) ?_
      have h1 := (sortT_permH ho.f).length_eq
      have h2 := (sortT_permH ho.s).length_eq
      unfold ownT Gm.tiles
      split <;> omega
theorem tiles_make {g : Gm} (ho : GmOk g) {x : S_plLay} (h : x ∈ g.moves) (hx : x.f2 = false) : (g.make x).tiles + 1 ≤ g.tiles := by
  obtain ⟨_, h2⟩ := moves_mem h
  rcases h2 with h2 | ⟨_, hm, _⟩
  · rw [h2] at hx; cases hx
  · unfold Gm.make Gm.tiles
    rw [hx]
    simp only [Bool.false_eq_true, if_false]
    have hf := gone1_len g.f x.f0
    have hs := gone1_len g.s x.f0
    unfold ownT at hm
    split at hm
    · have := gone1_lt hm; omega
    · have := gone1_lt hm; omega
/-- n tiles, p passes. -/
def capP (n : Nat) (p : Int) : Nat := if p = 2 then 1 else if p = 1 then 2 + 2 * n * capB (n - 1) else 3 + 2 * n * capB (n - 1)
theorem capP_le (n : Nat) (p : Int) : capP n p ≤ capB n := by
  unfold capP
  cases n with
  | zero => split <;> (try split) <;> simp [capB]
  | succ n =>
    show _ ≤ 3 + 2 * (n + 1) * capB n
    rw [Nat.add_sub_cancel]
    split
    · omega
    · split <;> omega
theorem cost_cap : ∀ (d : Nat) (g : Gm), GmOk g → g.mu ≤ d → costF g ≤ capP g.tiles g.p
  | d, g, ho, hd => by
    cases hov : g.over with
    | true =>
      have : costF g = 1 := by
        unfold costF
        cases g.mu with
        | zero => rfl
        | succ d => unfold costN; rw [if_pos hov]
      rw [this]
      unfold capP
      split
      · omega
      · split <;> omega
    | false =>
      have hp : g.p ≠ 2 := by
        unfold Gm.over overB at hov
        simp only [Bool.or_eq_false_iff, decide_eq_false_iff_not, beq_eq_false_iff_ne] at hov
        exact hov.2.2
      have hp2 := ho.p
      cases d with
      | zero => have := mu_zero hd; rw [this] at hov; cases hov
      | succ d =>
        rw [costF_step ho hov]
        have ih : ∀ x ∈ g.moves, costF (g.make x) ≤ capP (g.make x).tiles (g.make x).p := fun x hx => cost_cap d _ (make_ok ho hx) (by have := mu_make ho hx; omega)
        rcases moves_len ho with hl | hl
        · by_cases hpass : ∀ x ∈ g.moves, x.f2 = false
          · have hb : ∀ x ∈ g.moves, costF (g.make x) ≤ capB (g.tiles - 1) := fun x hx => by
              have h1 := tiles_make ho hx (hpass x hx)
              refine Nat.le_trans (ih x hx) (Nat.le_trans (capP_le _ _) ?_)
              have mono : ∀ (a b : Nat), a ≤ b → capB a ≤ capB b := fun a b hab => by
                induction hab with
                | refl => exact Nat.le_refl _
                | step _ q => exact Nat.le_trans q (capB_mono _)
              exact mono _ _ (by omega)
            have hs := sumC_bound costF g _ g.moves hb
            have hm : g.moves.length * capB (g.tiles - 1) ≤ 2 * g.tiles * capB (g.tiles - 1) := Nat.mul_le_mul_right _ hl
            unfold capP
            rw [if_neg hp]
            split <;> omega
          · have : ∃ x ∈ g.moves, x.f2 = true := by
              apply Classical.byContradiction
              intro q
              exact hpass fun x hx => by
                cases h2 : x.f2 with
                | false => rfl
                | true => exact (q ⟨x, hx, h2⟩).elim
            obtain ⟨x, hx, h2⟩ := this
            have hm1 : g.moves = [⟨⟨0, 0⟩, false, true⟩] := by
              obtain ⟨_, h3⟩ := moves_mem hx
              rcases h3 with h3 | ⟨h3, _⟩
              · unfold Gm.moves movesL at hx ⊢
                split at hx
                · cases hx
                · rename_i q1
                  rw [if_neg q1]
                  split at hx
                  · rename_i q2
                    rw [if_pos q2]
                  · exfalso
                    unfold fitTo at hx
                    obtain ⟨t, _, ht⟩ := List.mem_flatMap.1 hx
                    unfold fitL at ht
                    split at ht
                    · simp only [List.mem_singleton] at ht
                      rw [ht] at h2; cases h2
                    · rw [List.mem_append] at ht
                      rcases ht with ht | ht
                      · split at ht
                        · simp only [List.mem_singleton] at ht
                          rw [ht] at h2; cases h2
                        · cases ht
                      · split at ht
                        · simp only [List.mem_singleton] at ht
                          rw [ht] at h2; cases h2
                        · cases ht
              · rw [h3] at h2; cases h2
            exact cost_pass ho hp hp2 hm1 (ih _ (by rw [hm1]; exact List.mem_cons_self))
        · exact cost_pass ho hp hp2 hl (ih _ (by rw [hl]; exact List.mem_cons_self))
where
  cost_pass {g : Gm} (ho : GmOk g) (hp : g.p ≠ 2) (hp2 : 0 ≤ g.p ∧ g.p ≤ 2) (hm : g.moves = [⟨⟨0, 0⟩, false, true⟩]) (ih : costF (g.make ⟨⟨0, 0⟩, false, true⟩) ≤ capP (g.make ⟨⟨0, 0⟩, false, true⟩).tiles (g.make ⟨⟨0, 0⟩, false, true⟩).p) : 1 + sumC costF g g.moves ≤ capP g.tiles g.p := by
    rw [hm]
    have e : g.make ⟨⟨0, 0⟩, false, true⟩ = ⟨g.f, g.s, g.r, 1 - g.t, g.p + 1⟩ := by unfold Gm.make; rfl
    have e2 : sumC costF g [⟨⟨0, 0⟩, false, true⟩] = costF (g.make ⟨⟨0, 0⟩, false, true⟩) := by simp [sumC]
    rw [e2]
    rw [e] at ih ⊢
    have ih2 : costF ⟨g.f, g.s, g.r, 1 - g.t, g.p + 1⟩ ≤ capP g.tiles (g.p + 1) := ih
    unfold capP at ih2 ⊢
    rw [if_neg hp]
    by_cases h1 : g.p = 1
    · rw [if_pos (by omega)] at ih2
      rw [if_pos h1]; omega
    · rw [if_neg (by omega), if_pos (by omega)] at ih2
      rw [if_neg h1]; omega
theorem cost_small {g : Gm} (ho : GmOk g) (h : g.tiles ≤ 8) : costF g ≤ 51053907 := by
  refine Nat.le_trans (cost_cap g.mu g ho (Nat.le_refl _)) (Nat.le_trans (capP_le _ _) ?_)
  have mono : ∀ (a b : Nat), a ≤ b → capB a ≤ capB b := fun a b hab => by
    induction hab with
    | refl => exact Nat.le_refl _
    | step _ q => exact Nat.le_trans q (capB_mono _)
  exact Nat.le_trans (mono _ 8 h) (by decide)
end Go.Proofs.YtjaojemmbeddfaaGreat.Pure
