/- What spec.plMake, plFind answer; what impl.Game.behind answers. -/
import Derived.Test.YtkjaahmlnbgnjaaGreatPGame
import Derived.Test.YtkjaahmlnbgnjaaGreatMGameMoves
import Derived.Test.YtkjaahmlnbgnjaaGreatMBehind
import Derived.Test.YtkjaahmlnbgnjaaGreatMPlMake
import Derived.Test.YtkjaahmlnbgnjaaGreatG5
import Derived.Test.YtkjaahmlnbgnjaaGreatPFitA
import Derived.Test.YtkjaahmlnbgnjaaGreatMPlText
import Derived.Test.YtkjaahmlnbgnjaaGreatPEv
import Derived.Test.YtkjaahmlnbgnjaaGreatG0
namespace Go.Proofs.YtkjaahmlnbgnjaaGreat.Pure
open Go.RowKit Go.Proofs.YtkjaahmlnbgnjaaGreat.Hd Go.Proofs.YtkjaahmlnbgnjaaGreatW.PrintWords Go.Proofs.YtkjaahmlnbgnjaaGreatW.PrintLast
set_option linter.unusedVariables false
set_option linter.unusedSimpArgs false
theorem toList_iff (a b : ByteArray) : a.toList = b.toList ↔ a = b := by
  constructor
  · intro q
    rw [ByteArray.toList_eq, ByteArray.toList_eq] at q
    cases a; cases b
    simp only [ByteArray.mk.injEq]
    exact Array.toList_inj.1 q
  · intro h; rw [h]
theorem rdOfS_at {l : List ByteArray} {i : Nat} (h : i < l.length) : rdOf ByteArray.empty l (i : Int) = l[i] := by
  unfold rdOf
  rw [Int.toNat_natCast, List.getD_eq_getElem?_getD, List.getElem?_eq_getElem h]
  rfl
theorem indexS_l0 (l : List ByteArray) (x : ByteArray) (hl : l.length ≤ 1000000) : ∀ (d i : Nat), i + d = l.length → x ∉ l.take i →
    ∃ r, Ev (fun k => slices_Index_string_string.l0 k l x (l.length : Int) (i : Int)) r ∧ (r ≥ 0 ↔ x ∈ l) := by
  intro d
  induction d with
  | zero =>
    intro i hi hx
    refine ⟨-1, Ev.succ ?_, ⟨fun h => absurd h (by omega), fun h => absurd (by rwa [List.take_of_length_le (by omega)]) hx⟩⟩
    simp only [slices_Index_string_string.l0]
    exact Ev.neg (by omega) (Ev.ret rfl)
  | succ d ih =>
    intro i hi hx
    have hlt : i < l.length := by omega
    have e := rdOfS_at hlt
    by_cases hc : x = l[i]
    · refine ⟨(i : Int), Ev.succ ?_, ⟨fun _ => hc ▸ List.getElem_mem hlt, fun _ => by omega⟩⟩
      simp only [slices_Index_string_string.l0]
      exact Ev.pos (by omega) (Ev.pos (by omega) (Ev.pos (by omega) (Ev.pos ((toList_iff _ _).2 (hc.trans e.symm)) (Ev.ret rfl))))
    · obtain ⟨r, hr, hm⟩ := ih (i + 1) (by omega) (by
        rw [List.take_succ_eq_append_getElem hlt, List.mem_append, List.mem_singleton]
        exact fun q => q.elim hx hc)
      refine ⟨r, Ev.succ ?_, hm⟩
      simp only [slices_Index_string_string.l0]
      refine Ev.pos (by omega) (Ev.pos (by omega) (Ev.pos (by omega) (Ev.neg (fun q => hc (((toList_iff _ _).1 q).trans e)) ?_)))
      rw [w64' (n := (i : Int) + 1) (m := ((i + 1 : Nat) : Int)) (by omega) (by omega) (by omega)]
      exact hr
def inS (l : List ByteArray) (x : ByteArray) : Bool := l.any fun y => decide (y = x)
theorem inS_iff (l : List ByteArray) (x : ByteArray) : inS l x = true ↔ x ∈ l := by
  unfold inS
  rw [List.any_eq_true]
  constructor
  · rintro ⟨y, hy, e⟩; exact (of_decide_eq_true e) ▸ hy
  · exact fun h => ⟨x, h, decide_eq_true rfl⟩
theorem containsS_ev (l : List ByteArray) (x : ByteArray) (hl : l.length ≤ 1000000) : Ev (fun k => slices_Contains_string_string.f k l x) (inS l x) := by
  obtain ⟨r, hr, hm⟩ := indexS_l0 l x hl l.length 0 (by omega) (by simp)
  unfold slices_Contains_string_string.f slices_Index_string_string.f
  refine Ev.bd hr (Ev.ret ?_)
  rw [Bool.eq_iff_iff, decide_eq_true_eq, inS_iff]
  exact hm
end Go.Proofs.YtkjaahmlnbgnjaaGreat.Pure
namespace Go.Proofs.YtkjaahmlnbgnjaaGreat.Pure
open Go.RowKit Go.Proofs.YtkjaahmlnbgnjaaGreat.Hd Go.Proofs.YtkjaahmlnbgnjaaGreatW.PrintWords Go.Proofs.YtkjaahmlnbgnjaaGreatW.PrintLast
set_option linter.unusedVariables false
set_option linter.unusedSimpArgs false
theorem plText_eq (x : S_plLay) (h : x.f2 = true ∨ goodT x.f0 = true) : spec_plText.f x.f0.f0 x.f0.f1 x.f1 x.f2 = some (txt x) := by
  unfold spec_plText.f
  obtain ⟨⟨a, b⟩, c, d⟩ := x
  dsimp only at h ⊢
  cases d with
  | true => rw [if_pos rfl]; rfl
  | false =>
    have hg : goodT ⟨a, b⟩ = true := by simpa using h
    unfold goodT at hg
    simp only [Bool.and_eq_true, decide_eq_true_eq] at hg
    rw [if_neg (by simp), if_pos ⟨⟨by omega, by omega⟩, by omega, by omega⟩]
theorem fitTo_good (r : List Int) (h : List S_Tile) (i : Nat) : ∀ x ∈ fitTo r (sortT h) i, x.f2 = true ∨ goodT x.f0 = true := by
  intro x hx
  unfold fitTo at hx
  rw [List.mem_flatMap] at hx
  obtain ⟨t, ht, hx⟩ := hx
  have hg := ((sortT_mem h t).1 (List.mem_of_mem_take ht)).2
  unfold fitL at hx
  split at hx
  · rw [List.mem_singleton] at hx; subst hx; exact Or.inr hg
  · rw [List.mem_append] at hx
    rcases hx with hx | hx
    · split at hx
      · rw [List.mem_singleton] at hx; subst hx; exact Or.inr hg
      · exact absurd hx List.not_mem_nil
    · split at hx
      · rw [List.mem_singleton] at hx; subst hx; exact Or.inr hg
      · exact absurd hx List.not_mem_nil
theorem movesL_good (f s : List S_Tile) (r : List Int) (t p : Int) : ∀ x ∈ movesL f s r t p, x.f2 = true ∨ goodT x.f0 = true := by
  intro x hx
  unfold movesL at hx
  split at hx
  · exact absurd hx List.not_mem_nil
  · split at hx
    · rw [List.mem_singleton] at hx; subst hx; exact Or.inl rfl
    · exact fitTo_good _ _ _ x hx
theorem movesL_len (f s : List S_Tile) (r : List Int) (t p : Int) : (movesL f s r t p).length ≤ 200 := by
  unfold movesL
  have h1 := fitTo_len r (sortT (ownT f s t)) (sortT (ownT f s t)).length (Nat.le_refl _)
  have h2 := sortT_len (ownT f s t)
  split
  · simp
  · split
    · simp
    · omega
end Go.Proofs.YtkjaahmlnbgnjaaGreat.Pure
namespace Go.Proofs.YtkjaahmlnbgnjaaGreat.Pure
open Go.RowKit Go.Proofs.YtkjaahmlnbgnjaaGreat.Hd Go.Proofs.YtkjaahmlnbgnjaaGreatW.PrintWords Go.Proofs.YtkjaahmlnbgnjaaGreatW.PrintLast
set_option linter.unusedVariables false
set_option linter.unusedSimpArgs false
/-- A game with a word on whether there is one, as the functions hand it back. -/
def Gm.out (g : Gm) : List S_Tile × List S_Tile × List Int × Int × Int × Bool := (g.f, g.s, g.r, g.t, g.p, true)
def noGm : List S_Tile × List S_Tile × List Int × Int × Int × Bool := ([], [], [], 0, 0, false)
theorem mkOk_of {g : Gm} {x : S_plLay} (h : x ∈ g.moves) : mkOk g.r x := by
  rcases (moves_mem h).2 with rfl | ⟨_, _, hg, _, hh⟩
  · exact .inl rfl
  · exact .inr ⟨hg, hh⟩
theorem plMake_eq {g : Gm} (hg : gmB g.f g.s g.r g.t g.p) {x : S_plLay} (h : x ∈ g.moves) : spec_plMake.f g.f g.s g.r g.t g.p x.f0.f0 x.f0.f1 x.f1 x.f2 = some ((g.makeS x).f, (g.makeS x).s, (g.makeS x).r, (g.makeS x).t, (g.makeS x).p) := by
  unfold spec_plMake.f
  rw [if_pos ⟨hg, mkOk_of h⟩]
theorem behind_eq {g : Gm} (hg : gmB g.f g.s g.r g.t g.p) {x : S_plLay} {mv : ByteArray} (h : findM g.moves mv = some x) : impl_Game_behind.f g.f g.s g.r g.t g.p mv = some ((g.make x).f, (g.make x).s, (g.make x).r, (g.make x).t, (g.make x).p) := by
  unfold impl_Game_behind.f
  rw [if_pos hg]
  unfold Gm.moves at h
  rw [h]
theorem find_hit {L : List S_plLay} {mv : ByteArray} {i : Nat} (h : i < L.length) (ha : ∀ y ∈ L.take i, txt y ≠ mv) (hm : txt L[i] = mv) : findM L mv = some L[i] := by
  have e : L = L.take i ++ L[i] :: L.drop (i + 1) := by rw [← List.drop_eq_getElem_cons h, List.take_append_drop]
  unfold findM
  conv => lhs; rw [e]
  rw [List.find?_append]
  have h1 : (L.take i).find? (fun x => decide (txt x = mv)) = none := by
    rw [List.find?_eq_none]
    intro y hy
    simpa using ha y hy
  rw [h1, Option.none_or, List.find?_cons_of_pos (by simpa using hm)]
theorem find_none {L : List S_plLay} {mv : ByteArray} (ha : ∀ y ∈ L, txt y ≠ mv) : findM L mv = none := by
  unfold findM
  rw [List.find?_eq_none]
  intro y hy
  simpa using ha y hy
def resFind (g : Gm) (mv : ByteArray) : List S_Tile × List S_Tile × List Int × Int × Int × Bool := match findM g.moves mv with | some x => (g.makeS x).out | none => noGm
theorem plFind_l0 (g : Gm) (hg : gmB g.f g.s g.r g.t g.p) (mv : ByteArray) : ∀ (d i : Nat), i + d = g.moves.length → (∀ y ∈ g.moves.take i, txt y ≠ mv) →
    Ev (fun k => spec_plFind.l0 k mv g.moves (g.moves.length : Int) (i : Int) g.f g.s g.r g.t g.p) (resFind g mv) := by
  have hL : g.moves.length ≤ 200 := movesL_len _ _ _ _ _
  intro d
  induction d with
  | zero =>
    intro i hi ha
    refine Ev.succ ?_
    simp only [spec_plFind.l0]
    rw [List.take_of_length_le (by omega)] at ha
    refine Ev.neg (by omega) (Ev.ret ?_)
    unfold resFind
    rw [find_none ha]
    rfl
  | succ d ih =>
    intro i hi ha
    have hlt : i < g.moves.length := by omega
    have hmem : g.moves[i] ∈ g.moves := List.getElem_mem hlt
    have e : rd_plLay g.moves (i : Int) = g.moves[i] := by unfold rd_plLay; rw [Int.toNat_natCast]; simp [hlt]
    refine Ev.succ ?_
    simp only [spec_plFind.l0]
    rw [e]
    refine Ev.pos (by omega) (Ev.pos (by omega) (Ev.pos (by omega) (Ev.bs (plText_eq _ (movesL_good _ _ _ _ _ _ hmem)) ?_)))
    by_cases hc : txt g.moves[i] = mv
    · refine Ev.pos ((toList_iff _ _).2 hc) (Ev.bs (plMake_eq hg hmem) (Ev.ret ?_))
      unfold resFind
      rw [find_hit hlt ha hc]
      rfl
    · refine Ev.neg (fun q => hc ((toList_iff _ _).1 q)) ?_
      rw [w64' (n := (i : Int) + 1) (m := ((i + 1 : Nat) : Int)) (by omega) (by omega) (by omega)]
      refine ih (i + 1) (by omega) ?_
      intro y hy
      rw [List.take_succ_eq_append_getElem hlt, List.mem_append, List.mem_singleton] at hy
      rcases hy with hy | rfl
      · exact ha y hy
      · exact hc
theorem plMoves_eq (g : Gm) (hf : handB g.f = true) (hs : handB g.s = true) (hr : g.r.length ≤ 2000000) : spec_plMoves.f g.f g.s g.r g.t g.p = some g.moves := by
  unfold spec_plMoves.f
  have h1 := hand_len hf
  have h2 := hand_len hs
  rw [if_pos ⟨by omega, by omega, hr⟩]
  rfl
theorem plFind_ev (g : Gm) (hg : gmB g.f g.s g.r g.t g.p) (mv : ByteArray) : Ev (fun k => spec_plFind.f k g.f g.s g.r g.t g.p mv) (resFind g mv) := by
  unfold spec_plFind.f
  exact Ev.bs (plMoves_eq g hg.1.1 hg.1.2 hg.2.1) (plFind_l0 g hg mv g.moves.length 0 (by omega) (by simp))
theorem moves_eq (g : Gm) (hg : gmB g.f g.s g.r g.t g.p) : impl_Game_moves.f g.f g.s g.r g.t g.p = some (g.moves.map txt) := by
  unfold impl_Game_moves.f
  rw [if_pos hg]
  rfl
end Go.Proofs.YtkjaahmlnbgnjaaGreat.Pure
