/- Moves that are made: plain. -/
import Derived.Test.YtkjaahmlnbgnjaaPFitA
namespace Go.Proofs.Ytkjaahmlnbgnjaa.Pure
open Go.RowKit Go.Proofs.Ytkjaahmlnbgnjaa.Hd Go.Proofs.YtkjaahmlnbgnjaaW.PrintWords Go.Proofs.YtkjaahmlnbgnjaaW.PrintLast
set_option linter.unusedVariables false
set_option linter.unusedSimpArgs false
def outT (t x : S_Tile) : Bool := !(x.f0 == t.f0) || !(x.f1 == t.f1)
theorem outT_iff (t x : S_Tile) : outT t x = true ↔ x ≠ t := by
  obtain ⟨a, b⟩ := t; obtain ⟨c, d⟩ := x
  unfold outT
  by_cases h : c = a <;> by_cases h2 : d = b <;> simp [h, h2]
def gone1 (l : List S_Tile) (t : S_Tile) : List S_Tile := l.filter (outT t)
theorem gone1_lt {l : List S_Tile} {t : S_Tile} (h : t ∈ l) : (gone1 l t).length < l.length :=
  List.length_filter_lt_length_iff_exists.2 ⟨t, h, fun q => (outT_iff t t).1 q rfl⟩
structure Gm where
  f : List S_Tile
  s : List S_Tile
  r : List Int
  t : Int
  p : Int
def Gm.moves (g : Gm) : List S_plLay := movesL g.f g.s g.r g.t g.p
def Gm.over (g : Gm) : Bool := overB g.f g.s g.p
def otherN (t : S_Tile) (n : Int) : Int := t.f0 + t.f1 - n
def rowP (r : List Int) (x : S_plLay) : List Int := if r.length = 0 then [x.f0.f0, x.f0.f1] else if x.f1 = true then [otherN x.f0 (endA r)] ++ r else r ++ [otherN x.f0 (endB r)]
/-- The game behind a move, as the program makes it. -/
def Gm.make (g : Gm) (x : S_plLay) : Gm := if x.f2 = true then ⟨g.f, g.s, g.r, 1 - g.t, g.p + 1⟩ else ⟨gone1 g.f x.f0, gone1 g.s x.f0, rowP g.r x, 1 - g.t, 0⟩
structure GmOk (g : Gm) : Prop where
  f : handB g.f = true
  s : handB g.s = true
  t : 0 ≤ g.t ∧ g.t ≤ 1
  p : 0 ≤ g.p ∧ g.p ≤ 2
  d : ∀ x ∈ g.f, x ∉ g.s
theorem GmOk.of {f s : List S_Tile} {r : List Int} {t p : Int} (h : gameB f s r t p = true) : GmOk ⟨f, s, r, t, p⟩ := by
  unfold gameB inB difT at h
  simp only [Bool.and_eq_true, decide_eq_true_eq] at h
  obtain ⟨⟨h1, h2, ⟨h3, h4⟩, h5, h6⟩, -, h7⟩ := h
  refine ⟨h1, h2, ⟨h3, h4⟩, ⟨h5, h6⟩, fun x hx hs => ?_⟩
  rw [List.nodup_append] at h7
  have h8 := h7.1
  rw [List.nodup_append] at h8
  exact h8.2.2 x hx x hs rfl
/-- What the moves and the making of one want of a game. -/
def gmB (f s : List S_Tile) (r : List Int) (t p : Int) : Prop := (handB f = true ∧ handB s = true) ∧ r.length ≤ 2000000 ∧ (0 ≤ t ∧ t ≤ 1) ∧ 0 ≤ p ∧ p ≤ 2
instance (f s : List S_Tile) (r : List Int) (t p : Int) : Decidable (gmB f s r t p) := by unfold gmB; infer_instance
end Go.Proofs.Ytkjaahmlnbgnjaa.Pure
