/- The heaviest move each time, up to the end: plain. -/
import Derived.Test.YtkjaahmlnbgnjaaGreatPGame
import Derived.Test.YtkjaahmlnbgnjaaGreatMGameMoves
import Derived.Test.YtkjaahmlnbgnjaaGreatMBehind
import Derived.Test.YtkjaahmlnbgnjaaGreatMPlMake
import Derived.Test.YtkjaahmlnbgnjaaGreatG5
import Derived.Test.YtkjaahmlnbgnjaaGreatPEv
import Derived.Test.YtkjaahmlnbgnjaaGreatG0
import Derived.Test.YtkjaahmlnbgnjaaGreatPFitA
import Derived.Test.YtkjaahmlnbgnjaaGreatMPlText
namespace Go.Proofs.YtkjaahmlnbgnjaaGreat.Pure
open Go.RowKit Go.Proofs.YtkjaahmlnbgnjaaGreat.Hd Go.Proofs.YtkjaahmlnbgnjaaGreatW.PrintWords Go.Proofs.YtkjaahmlnbgnjaaGreatW.PrintLast
set_option linter.unusedVariables false
set_option linter.unusedSimpArgs false
theorem plText_eq (x : S_plLay) (h : x.f2 = true ∨ goodT x.f0 = true) : spec_plText.f x.f0.f0 x.f0.f1 x.f1 x.f2 = some (txt x) := by
  unfold spec_plText.f
  obtain ⟨⟨a, b⟩, c, d⟩ := x
  dsimp only at h ⊢
  cases d with
  | true => rw [if_pos rfl]; rfl
  | false =>
    have hg : goodT ⟨a, b⟩ = true := by simpa using h
    unfold goodT at hg
    simp only [Bool.and_eq_true, decide_eq_true_eq] at hg
    rw [if_neg (by simp), if_pos ⟨⟨by omega, by omega⟩, by omega, by omega⟩]
theorem fitTo_good (r : List Int) (h : List S_Tile) (i : Nat) : ∀ x ∈ fitTo r (sortT h) i, x.f2 = true ∨ goodT x.f0 = true := by
  intro x hx
  unfold fitTo at hx
  rw [List.mem_flatMap] at hx
  obtain ⟨t, ht, hx⟩ := hx
  have hg := ((sortT_mem h t).1 (List.mem_of_mem_take ht)).2
  unfold fitL at hx
  split at hx
  · rw [List.mem_singleton] at hx; subst hx; exact Or.inr hg
  · rw [List.mem_append] at hx
    rcases hx with hx | hx
    · split at hx
      · rw [List.mem_singleton] at hx; subst hx; exact Or.inr hg
      · exact absurd hx List.not_mem_nil
    · split at hx
      · rw [List.mem_singleton] at hx; subst hx; exact Or.inr hg
      · exact absurd hx List.not_mem_nil
theorem movesL_good (f s : List S_Tile) (r : List Int) (t p : Int) : ∀ x ∈ movesL f s r t p, x.f2 = true ∨ goodT x.f0 = true := by
  intro x hx
  unfold movesL at hx
  split at hx
  · exact absurd hx List.not_mem_nil
  · split at hx
    · rw [List.mem_singleton] at hx; subst hx; exact Or.inl rfl
    · exact fitTo_good _ _ _ x hx
theorem movesL_len (f s : List S_Tile) (r : List Int) (t p : Int) : (movesL f s r t p).length ≤ 200 := by
  unfold movesL
  have h1 := fitTo_len r (sortT (ownT f s t)) (sortT (ownT f s t)).length (Nat.le_refl _)
  have h2 := sortT_len (ownT f s t)
  split
  · simp
  · split
    · simp
    · omega
end Go.Proofs.YtkjaahmlnbgnjaaGreat.Pure
namespace Go.Proofs.YtkjaahmlnbgnjaaGreat.Pure
open Go.RowKit Go.Proofs.YtkjaahmlnbgnjaaGreat.Hd Go.Proofs.YtkjaahmlnbgnjaaGreatW.PrintWords Go.Proofs.YtkjaahmlnbgnjaaGreatW.PrintLast
set_option linter.unusedVariables false
set_option linter.unusedSimpArgs false
theorem rdOfS_at {l : List ByteArray} {i : Nat} (h : i < l.length) : rdOf ByteArray.empty l (i : Int) = l[i] := by
  unfold rdOf
  rw [Int.toNat_natCast, List.getD_eq_getElem?_getD, List.getElem?_eq_getElem h]
  rfl
end Go.Proofs.YtkjaahmlnbgnjaaGreat.Pure
namespace Go.Proofs.YtkjaahmlnbgnjaaGreat.Pure
open Go.RowKit Go.Proofs.YtkjaahmlnbgnjaaGreat.Hd Go.Proofs.YtkjaahmlnbgnjaaGreatW.PrintWords Go.Proofs.YtkjaahmlnbgnjaaGreatW.PrintLast
set_option linter.unusedVariables false
set_option linter.unusedSimpArgs false
/-- A game with a word on whether there is one, as the functions hand it back. -/
def Gm.out (g : Gm) : List S_Tile × List S_Tile × List Int × Int × Int × Bool := (g.f, g.s, g.r, g.t, g.p, true)
theorem mkOk_of {g : Gm} {x : S_plLay} (h : x ∈ g.moves) : mkOk g.r x := by
  rcases (moves_mem h).2 with rfl | ⟨_, _, hg, _, hh⟩
  · exact .inl rfl
  · exact .inr ⟨hg, hh⟩
theorem plMake_eq {g : Gm} (hg : gmB g.f g.s g.r g.t g.p) {x : S_plLay} (h : x ∈ g.moves) : spec_plMake.f g.f g.s g.r g.t g.p x.f0.f0 x.f0.f1 x.f1 x.f2 = some ((g.makeS x).f, (g.makeS x).s, (g.makeS x).r, (g.makeS x).t, (g.makeS x).p) := by
  unfold spec_plMake.f
  rw [if_pos ⟨hg, mkOk_of h⟩]
theorem behind_eq {g : Gm} (hg : gmB g.f g.s g.r g.t g.p) {x : S_plLay} {mv : ByteArray} (h : findM g.moves mv = some x) : impl_Game_behind.f g.f g.s g.r g.t g.p mv = some ((g.make x).f, (g.make x).s, (g.make x).r, (g.make x).t, (g.make x).p) := by
  unfold impl_Game_behind.f
  rw [if_pos hg]
  unfold Gm.moves at h
  rw [h]
theorem plMoves_eq (g : Gm) (hf : handB g.f = true) (hs : handB g.s = true) (hr : g.r.length ≤ 2000000) : spec_plMoves.f g.f g.s g.r g.t g.p = some g.moves := by
  unfold spec_plMoves.f
  have h1 := hand_len hf
  have h2 := hand_len hs
  rw [if_pos ⟨by omega, by omega, hr⟩]
  rfl
theorem moves_eq (g : Gm) (hg : gmB g.f g.s g.r g.t g.p) : impl_Game_moves.f g.f g.s g.r g.t g.p = some (g.moves.map txt) := by
  unfold impl_Game_moves.f
  rw [if_pos hg]
  rfl
end Go.Proofs.YtkjaahmlnbgnjaaGreat.Pure
namespace Go.Proofs.YtkjaahmlnbgnjaaGreat.Pure
open Go.RowKit Go.Proofs.YtkjaahmlnbgnjaaGreat.Hd Go.Proofs.YtkjaahmlnbgnjaaGreatW.PrintWords Go.Proofs.YtkjaahmlnbgnjaaGreatW.PrintLast
set_option linter.unusedVariables false
set_option linter.unusedSimpArgs false
def wtM (x : S_plLay) : Int := x.f0.f0 + x.f0.f1
/-- The heaviest of the first k + 1 moves (of the first, beside k). -/
def bestTo (L : List S_plLay) : Nat → S_plLay
  | 0 => rd_plLay L 0
  | k + 1 => if wtM (rd_plLay L (k : Int)) > wtM (bestTo L k) then rd_plLay L (k : Int) else bestTo L k
theorem rdL_lt {L : List S_plLay} {i : Nat} (h : i < L.length) : rd_plLay L (i : Int) = L[i] := by unfold rd_plLay; rw [Int.toNat_natCast]; simp [h]
theorem bestTo_mem {L : List S_plLay} (h : 0 < L.length) : ∀ k, k ≤ L.length → bestTo L k ∈ L := by
  intro k
  induction k with
  | zero =>
    intro _
    have e : rd_plLay L 0 = L[0] := rdL_lt h
    show rd_plLay L 0 ∈ L
    rw [e]
    exact List.getElem_mem h
  | succ k ih =>
    intro hk
    simp only [bestTo]
    split
    · rw [rdL_lt (show k < L.length by omega)]; exact List.getElem_mem _
    · exact ih (by omega)
theorem bestTo_one (L : List S_plLay) : bestTo L 1 = rd_plLay L 0 := by
  simp only [bestTo]
  show (if wtM (rd_plLay L 0) > wtM (rd_plLay L 0) then _ else _) = _
  rw [if_neg (by omega)]
def bestM (L : List S_plLay) : S_plLay := bestTo L L.length
theorem moves_ne {g : Gm} (h : g.over = false) : 0 < g.moves.length := by
  unfold Gm.over at h
  unfold Gm.moves movesL
  rw [if_neg (by rw [h]; simp)]
  split
  · simp
  · omega
theorem best_mem {g : Gm} (h : g.over = false) : bestM g.moves ∈ g.moves := bestTo_mem (moves_ne h) _ (Nat.le_refl _)
def hg (g : Gm) : Nat → Gm
  | 0 => g
  | i + 1 => (hg g i).make (bestM (hg g i).moves)
/-- What is left to do. -/
def Gm.left (g : Gm) : Nat := 3 * (g.f.length + g.s.length) + (2 - g.p).toNat
theorem make_left {g : Gm} (ho : GmOk g) {x : S_plLay} (h : x ∈ g.moves) : (g.make x).left < g.left := by
  have hp := ho.p
  obtain ⟨hov, hx⟩ := moves_mem h
  have h2 : g.p ≠ 2 := fun e => by unfold Gm.over overB at hov; rw [e] at hov; simp at hov
  rcases hx with rfl | ⟨hn, hm, -⟩
  · unfold Gm.make Gm.left
    rw [if_pos rfl]
    dsimp only
    omega
  · unfold Gm.make Gm.left
    rw [if_neg (by rw [hn]; simp)]
    dsimp only
    have a1 := gone1_len g.f x.f0
    have a2 := gone1_len g.s x.f0
    unfold ownT at hm
    split at hm
    · have := gone1_lt hm; omega
    · have := gone1_lt hm; omega
def nOver : Nat → Gm → Nat
  | 0, _ => 0
  | n + 1, g => if g.over = true then 0 else nOver n (g.make (bestM g.moves)) + 1
theorem hg_tail (g : Gm) : ∀ i, hg g (i + 1) = hg (g.make (bestM g.moves)) i := by
  intro i
  induction i with
  | zero => rfl
  | succ i ih => show (hg g (i + 1)).make _ = _; rw [ih]; rfl
theorem nOver_spec : ∀ (n : Nat) (g : Gm), GmOk g → g.left < n → (hg g (nOver n g)).over = true ∧ (∀ j, j < nOver n g → (hg g j).over = false) ∧ nOver n g ≤ g.left := by
  intro n
  induction n with
  | zero => intro g _ h; omega
  | succ n ih =>
    intro g ho h
    simp only [nOver]
    by_cases hov : g.over = true
    · rw [if_pos hov]
      exact ⟨hov, fun j hj => by omega, Nat.zero_le _⟩
    · rw [if_neg hov]
      have hov2 : g.over = false := by simpa using hov
      have hl := make_left ho (best_mem hov2)
      obtain ⟨a, b, c⟩ := ih _ (make_ok ho (best_mem hov2)) (by omega)
      refine ⟨by rw [hg_tail]; exact a, fun j hj => ?_, by omega⟩
      rcases j with _ | j
      · exact hov2
      · rw [hg_tail]; exact b j (by omega)
/-- The number of moves up to the end. -/
def nH (g : Gm) : Nat := nOver 400 g
theorem left_le {g : Gm} (ho : GmOk g) : g.left ≤ 332 := by
  have h1 := hand_len ho.f
  have h2 := hand_len ho.s
  have hp := ho.p
  unfold Gm.left
  omega
theorem nH_spec {g : Gm} (ho : GmOk g) : (hg g (nH g)).over = true ∧ (∀ j, j < nH g → (hg g j).over = false) ∧ nH g ≤ 332 := by
  have hl := left_le ho
  obtain ⟨a, b, c⟩ := nOver_spec 400 g ho (by omega)
  exact ⟨a, b, Nat.le_trans c hl⟩
theorem nH_at {g : Gm} (ho : GmOk g) {i : Nat} (h : i ≤ nH g) : ((hg g i).over = true → i = nH g) ∧ ((hg g i).over = false → i < nH g) := by
  obtain ⟨a, b, -⟩ := nH_spec ho
  constructor
  · intro hov
    rcases Nat.lt_or_ge i (nH g) with q | q
    · rw [b i q] at hov; cases hov
    · omega
  · intro hov
    rcases Nat.lt_or_ge i (nH g) with q | q
    · exact q
    · rw [show i = nH g by omega, a] at hov; cases hov
theorem hg_ok {g : Gm} (ho : GmOk g) : ∀ i, i ≤ nH g → GmOk (hg g i) := by
  obtain ⟨-, b, -⟩ := nH_spec ho
  intro i
  induction i with
  | zero => intro _; exact ho
  | succ i ih =>
    intro h
    exact make_ok (ih (by omega)) (best_mem (b i (by omega)))
theorem hg_row (g : Gm) : ∀ i, (hg g i).r.length ≤ g.r.length + 2 * i := by
  intro i
  induction i with
  | zero => exact Nat.le_refl _
  | succ i ih => have := make_row (hg g i) (bestM (hg g i).moves); simp only [hg]; omega
def outH (g : Gm) : Nat → List ByteArray
  | 0 => []
  | i + 1 => outH g i ++ [txt (bestM (hg g i).moves)]
theorem outH_len (g : Gm) : ∀ i, (outH g i).length = i := by
  intro i
  induction i with
  | zero => rfl
  | succ i ih => simp only [outH]; rw [List.length_append, ih]; rfl
def resHeavyLine (f s : List S_Tile) (r : List Int) (t p : Int) : List ByteArray × Bool := if gameB f s r t p = true then (outH ⟨f, s, r, t, p⟩ (nH ⟨f, s, r, t, p⟩), true) else ([], false)
theorem resHeavyLine_len (f s : List S_Tile) (r : List Int) (t p : Int) : (resHeavyLine f s r t p).1.length ≤ 1048576 := by
  unfold resHeavyLine
  split
  · rename_i h
    have h1 := (nH_spec (GmOk.of h)).2.2
    show (outH _ _).length ≤ _
    rw [outH_len]
    omega
  · simp
theorem wt_bd {g : Gm} {x : S_plLay} (h : x ∈ g.moves) : 0 ≤ wtM x ∧ wtM x ≤ 18 := by
  rcases (moves_mem h).2 with rfl | ⟨-, -, hg, -⟩
  · exact ⟨by decide, by decide⟩
  · unfold goodT at hg
    simp only [Bool.and_eq_true, decide_eq_true_eq] at hg
    unfold wtM
    omega
end Go.Proofs.YtkjaahmlnbgnjaaGreat.Pure
