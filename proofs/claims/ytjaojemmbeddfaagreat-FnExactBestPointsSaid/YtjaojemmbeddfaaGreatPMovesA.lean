/- Moves of a game, as the reference lists them: plain. -/
import Derived.Test.YtjaojemmbeddfaaGreatPOver
import Derived.Test.YtjaojemmbeddfaaGreatPSet
namespace Go.Proofs.YtjaojemmbeddfaaGreat.Pure
open Go.RowKit Go.Proofs.YtjaojemmbeddfaaGreat.Hd Go.Proofs.YtjaojemmbeddfaaGreatW.PrintWords Go.Proofs.YtjaojemmbeddfaaGreatW.PrintLast
set_option linter.unusedVariables false
set_option linter.unusedSimpArgs false
def hasT (t : S_Tile) (x : Int) : Bool := t.f0 == x || t.f1 == x
def endA (r : List Int) : Int := rd r 0
def endB (r : List Int) : Int := rd r ((r.length : Int) - 1)
/-- A tile's moves to a row. -/
def fitL (r : List Int) (t : S_Tile) : List S_plLay := if r.length = 0 then [⟨t, true, false⟩] else (if hasT t (endA r) = true then [⟨t, true, false⟩] else []) ++ (if hasT t (endB r) = true then [⟨t, false, false⟩] else [])
def fitTo (r : List Int) (T : List S_Tile) (i : Nat) : List S_plLay := (T.take i).flatMap (fitL r)
def ownT (f s : List S_Tile) (t : Int) : List S_Tile := if t = 1 then s else f
def movesL (f s : List S_Tile) (r : List Int) (t p : Int) : List S_plLay :=
  if overB f s p = true then [] else if (fitTo r (sortT (ownT f s t)) (sortT (ownT f s t)).length).length = 0 then [⟨⟨0, 0⟩, false, true⟩] else fitTo r (sortT (ownT f s t)) (sortT (ownT f s t)).length
theorem fitL_of {r : List Int} {t : S_Tile} {a b : Bool} (h : r.length ≠ 0) (ha : hasT t (endA r) = a) (hb : hasT t (endB r) = b) : fitL r t = (if a = true then [⟨t, true, false⟩] else []) ++ (if b = true then [⟨t, false, false⟩] else []) := by
  unfold fitL
  rw [if_neg h, ha, hb]
theorem fitL_len (r : List Int) (t : S_Tile) : (fitL r t).length ≤ 2 := by
  unfold fitL
  split
  · simp
  · split <;> split <;> simp
theorem fitTo_next (r : List Int) (T : List S_Tile) (i : Nat) (h : i < T.length) : fitTo r T (i + 1) = fitTo r T i ++ fitL r (rd_Tile T (i : Int)) := by
  unfold fitTo
  rw [List.take_succ_eq_append_getElem h, List.flatMap_append]
  simp [rd_Tile, h]
theorem fitTo_len (r : List Int) (T : List S_Tile) : ∀ i, i ≤ T.length → (fitTo r T i).length ≤ 2 * i := by
  intro i
  induction i with
  | zero => intro _; simp [fitTo]
  | succ i ih =>
    intro h
    have h1 := ih (by omega)
    have h2 := fitL_len r (rd_Tile T (i : Int))
    rw [fitTo_next r T i (by omega), List.length_append]
    omega
end Go.Proofs.YtjaojemmbeddfaaGreat.Pure
