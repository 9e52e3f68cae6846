/- Tiles of lists of pairs of numbers. -/
import Derived.Test.YtipkmbgebpeeoaaPTl
import Derived.Test.YtipkmbgebpeeoaaPTile
import Derived.Test.YtipkmbgebpeeoaaG2
import Derived.Test.YtipkmbgebpeeoaaG2
namespace Go.Proofs.Ytipkmbgebpeeoaa.Pure
open Go.RowKit Go.Proofs.Ytipkmbgebpeeoaa.Hd Go.Proofs.YtipkmbgebpeeoaaW.PrintWords Go.Proofs.YtipkmbgebpeeoaaW.PrintLast
set_option linter.unusedVariables false
set_option linter.unusedSimpArgs false
/-- The tiles of a list of an even number of numbers. -/
def prs : List Int → List S_Tile
  | a :: b :: r => tl a b :: prs r
  | _ => []
theorem prs_short {l : List Int} (h : l.length < 2) : prs l = [] := by
  match l, h with
  | [], _ => rfl
  | [_], _ => rfl
theorem prs_len (l : List Int) : 2 * (prs l).length ≤ l.length := by
  match l with
  | [] => simp [prs]
  | [_] => simp [prs]
  | a :: b :: r => have := prs_len r; simp [prs]; omega
theorem prs_drop {l : List Int} {i : Nat} (h : i + 1 < l.length) : prs (l.drop i) = tl l[i] l[i + 1] :: prs (l.drop (i + 2)) := by
  rw [List.drop_eq_getElem_cons (show i < l.length by omega), List.drop_eq_getElem_cons h]
  rfl
theorem wiTiles_l0 (l : List Int) (hl : l.length ≤ 1048576) : ∀ (d i : Nat) (acc : List S_Tile), l.length ≤ i + d → i ≤ l.length → acc.length ≤ i →
    Ev (fun k => spec_wiTiles.l0 k l acc (i : Int)) (acc ++ prs (l.drop i)) := by
  intro d
  induction d using Nat.strongRecOn with
  | _ d ih =>
    intro i acc hi hi2 ha
    refine Ev.succ ?_
    simp only [spec_wiTiles.l0]
    rw [w64' (n := (i : Int) + 1) (m := ((i + 1 : Nat) : Int)) (by omega) (by omega) (by omega), w64' (n := (i : Int) + 2) (m := ((i + 2 : Nat) : Int)) (by omega) (by omega) (by omega)]
    by_cases h : i + 1 < l.length
    · refine Ev.pos (by omega) (Ev.pos (by omega) (Ev.pos (by omega) (Ev.pos (by omega) ?_)))
      rw [rd_at (show i < l.length by omega), rd_at h]
      refine Ev.bs (spec_tiOf_eq _ _) (Ev.pos (by omega) ?_)
      have hh := ih (d - 1) (by omega) (i + 2) (acc ++ [tl l[i] l[i + 1]]) (by omega) (by omega) (by simp only [List.length_append, List.length_cons, List.length_nil]; omega)
      rw [List.append_assoc] at hh
      rw [prs_drop h]
      exact hh
    · rw [prs_short (l := l.drop i) (by rw [List.length_drop]; omega), List.append_nil]
      exact Ev.neg (by omega) (Ev.ret rfl)
theorem wiTiles_ev (l : List Int) (hl : l.length ≤ 1048576) : Ev (fun k => spec_wiTiles.f k l) (prs l) := by
  unfold spec_wiTiles.f
  exact wiTiles_l0 l hl l.length 0 [] (by omega) (by omega) (Nat.le_refl _)
theorem tilesIn_l0 (l : List Int) (hl : l.length ≤ 1048576) : ∀ (d i : Nat) (acc : List S_Tile), l.length ≤ i + d → i ≤ l.length → acc.length ≤ i →
    Ev (fun k => impl_tilesIn.l0 k l acc (i : Int)) (acc ++ prs (l.drop i)) := by
  intro d
  induction d using Nat.strongRecOn with
  | _ d ih =>
    intro i acc hi hi2 ha
    refine Ev.succ ?_
    simp only [impl_tilesIn.l0]
    rw [w64' (n := (i : Int) + 1) (m := ((i + 1 : Nat) : Int)) (by omega) (by omega) (by omega), w64' (n := (i : Int) + 2) (m := ((i + 2 : Nat) : Int)) (by omega) (by omega) (by omega)]
    by_cases h : i + 1 < l.length
    · refine Ev.pos (by omega) (Ev.pos (by omega) (Ev.pos (by omega) (Ev.pos (by omega) ?_)))
      rw [rd_at (show i < l.length by omega), rd_at h]
      refine Ev.bs (impl_tile_eq _ _) (Ev.pos (by omega) ?_)
      have hh := ih (d - 1) (by omega) (i + 2) (acc ++ [tl l[i] l[i + 1]]) (by omega) (by omega) (by simp only [List.length_append, List.length_cons, List.length_nil]; omega)
      rw [List.append_assoc] at hh
      rw [prs_drop h]
      exact hh
    · rw [prs_short (l := l.drop i) (by rw [List.length_drop]; omega), List.append_nil]
      exact Ev.neg (by omega) (Ev.ret rfl)
theorem tilesIn_ev (l : List Int) (hl : l.length ≤ 1048576) : Ev (fun k => impl_tilesIn.f k l) (prs l) := by
  unfold impl_tilesIn.f
  exact tilesIn_l0 l hl l.length 0 [] (by omega) (by omega) (Nat.le_refl _)

theorem good_prs {l : List Int} (h : l.all (inB 0 9) = true) : (prs l).all goodT = true := by
  match l with
  | [] => rfl
  | [_] => rfl
  | a :: b :: r =>
    simp only [List.all_cons, Bool.and_eq_true] at h
    simp only [prs, List.all_cons, Bool.and_eq_true]
    exact ⟨good_tl h.1 h.2.1, good_prs h.2.2⟩
theorem hand_prs {l : List Int} (hl : l.length ≤ 111) (h : l.all (inB 0 9) = true) : handB (prs l) = difT (prs l) := by
  have := prs_len l
  unfold handB
  rw [good_prs h, decide_eq_true (by omega), Bool.true_and, Bool.true_and]
end Go.Proofs.Ytipkmbgebpeeoaa.Pure
