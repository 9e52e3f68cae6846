/- The texts of a hand's moves; what impl.ends, has, sorted answer. -/
import Derived.Test.YtkjaahmlnbgnjaaMSorted2
import Derived.Test.YtkjaahmlnbgnjaaG0
import Derived.Test.YtkjaahmlnbgnjaaG2
import Derived.Test.YtkjaahmlnbgnjaaPSet
import Derived.Test.YtkjaahmlnbgnjaaMSorted
import Derived.Test.YtkjaahmlnbgnjaaPGame
namespace Go.Proofs.Ytkjaahmlnbgnjaa.Pure
open Go.RowKit Go.Proofs.Ytkjaahmlnbgnjaa.Hd Go.Proofs.YtkjaahmlnbgnjaaW.PrintWords Go.Proofs.YtkjaahmlnbgnjaaW.PrintLast
set_option linter.unusedVariables false
set_option linter.unusedSimpArgs false
def overB (f s : List S_Tile) (p : Int) : Bool := decide (f.length = 0) || (decide (s.length = 0) || p == 2)
end Go.Proofs.Ytkjaahmlnbgnjaa.Pure
namespace Go.Proofs.Ytkjaahmlnbgnjaa.Pure
open Go.RowKit Go.Proofs.Ytkjaahmlnbgnjaa.Hd Go.Proofs.YtkjaahmlnbgnjaaW.PrintWords Go.Proofs.YtkjaahmlnbgnjaaW.PrintLast
set_option linter.unusedVariables false
set_option linter.unusedSimpArgs false
def hasT (t : S_Tile) (x : Int) : Bool := t.f0 == x || t.f1 == x
def endA (r : List Int) : Int := rd r 0
def endB (r : List Int) : Int := rd r ((r.length : Int) - 1)
/-- A tile's moves to a row. -/
def fitL (r : List Int) (t : S_Tile) : List S_plLay := if r.length = 0 then [⟨t, true, false⟩] else (if hasT t (endA r) = true then [⟨t, true, false⟩] else []) ++ (if hasT t (endB r) = true then [⟨t, false, false⟩] else [])
def fitTo (r : List Int) (T : List S_Tile) (i : Nat) : List S_plLay := (T.take i).flatMap (fitL r)
def ownT (f s : List S_Tile) (t : Int) : List S_Tile := if t = 1 then s else f
def movesL (f s : List S_Tile) (r : List Int) (t p : Int) : List S_plLay :=
  if overB f s p = true then [] else if (fitTo r (sortT (ownT f s t)) (sortT (ownT f s t)).length).length = 0 then [⟨⟨0, 0⟩, false, true⟩] else fitTo r (sortT (ownT f s t)) (sortT (ownT f s t)).length
theorem fitL_of {r : List Int} {t : S_Tile} {a b : Bool} (h : r.length ≠ 0) (ha : hasT t (endA r) = a) (hb : hasT t (endB r) = b) : fitL r t = (if a = true then [⟨t, true, false⟩] else []) ++ (if b = true then [⟨t, false, false⟩] else []) := by
  unfold fitL
  rw [if_neg h, ha, hb]
theorem fitL_len (r : List Int) (t : S_Tile) : (fitL r t).length ≤ 2 := by
  unfold fitL
  split
  · simp
  · split <;> split <;> simp
theorem fitTo_next (r : List Int) (T : List S_Tile) (i : Nat) (h : i < T.length) : fitTo r T (i + 1) = fitTo r T i ++ fitL r (rd_Tile T (i : Int)) := by
  unfold fitTo
  rw [List.take_succ_eq_append_getElem h, List.flatMap_append]
  simp [rd_Tile, h]
theorem fitTo_len (r : List Int) (T : List S_Tile) : ∀ i, i ≤ T.length → (fitTo r T i).length ≤ 2 * i := by
  intro i
  induction i with
  | zero => intro _; simp [fitTo]
  | succ i ih =>
    intro h
    have h1 := ih (by omega)
    have h2 := fitL_len r (rd_Tile T (i : Int))
    rw [fitTo_next r T i (by omega), List.length_append]
    omega
end Go.Proofs.Ytkjaahmlnbgnjaa.Pure
namespace Go.Proofs.Ytkjaahmlnbgnjaa.Pure
open Go.RowKit Go.Proofs.Ytkjaahmlnbgnjaa.Hd Go.Proofs.YtkjaahmlnbgnjaaW.PrintWords Go.Proofs.YtkjaahmlnbgnjaaW.PrintLast
set_option linter.unusedVariables false
set_option linter.unusedSimpArgs false
theorem leT_iff (x y : S_Tile) : leT x y = true ↔ x.f0 < y.f0 ∨ (x.f0 = y.f0 ∧ x.f1 ≤ y.f1) := by unfold leT; rw [decide_eq_true_iff]
theorem leT_anti (x y : S_Tile) (h1 : leT x y = true) (h2 : leT y x = true) : x = y := by
  rw [leT_iff] at h1 h2
  obtain ⟨a, b⟩ := x
  obtain ⟨c, d⟩ := y
  dsimp only at h1 h2
  obtain ⟨rfl, rfl⟩ : a = c ∧ b = d := by omega
  rfl
theorem setT_pair : (setT 9).Pairwise (fun x y => leT x y = true ∧ x ≠ y) := of_decide_eq_true (by kernel_rfl)
theorem hand_t10 {l : List S_Tile} (h : l.all goodT = true) : l.all t10 = true := by
  rw [List.all_eq_true] at h ⊢
  intro t ht
  have := h t ht
  unfold goodT at this
  simp only [Bool.and_eq_true, decide_eq_true_eq] at this
  rw [t10_iff]; omega
theorem sort_eq {l : List S_Tile} (hg : l.all goodT = true) (hd : l.Nodup) : l.mergeSort leT = sortT l := by
  have h1 : (sortT l).Pairwise (fun x y => leT x y = true ∧ x ≠ y) := by unfold sortT keepT; exact setT_pair.filter _
  have hn : (sortT l).Nodup := h1.imp (fun h => h.2)
  refine List.Perm.eq_of_pairwise (le := fun x y => leT x y = true) (fun a b _ _ => leT_anti a b) ?_ (h1.imp fun h => h.1) ?_
  · exact List.pairwise_mergeSort (fun a b c h1 h2 => by rw [leT_iff] at *; omega) (fun a b => by
      rw [Bool.or_eq_true, leT_iff, leT_iff]; omega) l
  · refine (List.mergeSort_perm l leT).trans ?_
    rw [List.perm_ext_iff_of_nodup hd hn]
    intro t
    rw [sortT_mem]
    exact ⟨fun h => ⟨h, List.all_eq_true.1 hg t h⟩, fun h => h.1⟩
theorem sorted_eq {l : List S_Tile} (hg : l.all goodT = true) (hd : l.Nodup) (hl : l.length ≤ 8388608) : impl_sorted.f l = some (sortT l) := by
  unfold impl_sorted.f
  rw [if_pos ⟨hand_t10 hg, hl⟩, sort_eq hg hd]
end Go.Proofs.Ytkjaahmlnbgnjaa.Pure
namespace Go.Proofs.Ytkjaahmlnbgnjaa.Pure
open Go.RowKit Go.Proofs.Ytkjaahmlnbgnjaa.Hd Go.Proofs.YtkjaahmlnbgnjaaW.PrintWords Go.Proofs.YtkjaahmlnbgnjaaW.PrintLast
set_option linter.unusedVariables false
set_option linter.unusedSimpArgs false
def num1 (x : Int) : Int := (wrap64 (48 + x)) % 256
/-- A play's text. -/
def txt (x : S_plLay) : ByteArray := bif x.f2 then ⟨#[45]⟩ else strOfNums [num1 x.f0.f0, num1 x.f0.f1] ++ (bif x.f1 then ⟨#[108]⟩ else ⟨#[114]⟩)
theorem sorted_handG {hand : List S_Tile} (hb : handB hand = true) : impl_sorted.f hand = some (sortT hand) := by
  unfold handB at hb
  simp only [Bool.and_eq_true, decide_eq_true_eq, difT] at hb
  exact sorted_eq hb.2.1 hb.2.2 (by omega)
theorem has_eq (x y b : Int) : impl_Tile_has.f x y b = some (hasT ⟨x, y⟩ b) := by
  unfold impl_Tile_has.f hasT
  by_cases h : x = b
  · rw [if_pos h]; simp [h]
  · rw [if_neg h]; simp [h]
theorem ends_eq {r : List Int} (h : r.length ≠ 0) (hr : r.length ≤ 2000000) : impl_ends.f r = some (endA r, endB r) := by
  unfold impl_ends.f endA endB
  have e : wrap64 ((r.length : Int) - 1) = (r.length : Int) - 1 := w64' rfl (by omega) (by omega)
  rw [e, if_pos (by omega), if_pos (by omega), if_pos (by omega)]
theorem fitL_nil {r : List Int} {t : S_Tile} (h : r.length = 0) : fitL r t = [⟨t, true, false⟩] := by unfold fitL; rw [if_pos h]
end Go.Proofs.Ytkjaahmlnbgnjaa.Pure
