/- Layouts of tiles, one behind the other; windows that are kept (plain). -/
import Derived.Test.YtbkaedmabdgdhaaPTile0
import Derived.Test.YtbkaedmabdgdhaaG0
import Derived.Test.YtbkaedmabdgdhaaG2
import Derived.Test.YtbkaedmabdgdhaaPEv
import Derived.Test.YtbkaedmabdgdhaaPTile
import Derived.Test.YtbkaedmabdgdhaaPWin0
import Derived.Test.YtbkaedmabdgdhaaMCompactInt
import Derived.Test.YtbkaedmabdgdhaaPEqIntSS
import Derived.Test.YtbkaedmabdgdhaaMGrowInt
import Derived.Test.YtbkaedmabdgdhaaG1
namespace Go.Proofs.Ytbkaedmabdgdhaa.Pure
open Go.RowKit Go.Proofs.Ytbkaedmabdgdhaa.Hd Go.Proofs.YtbkaedmabdgdhaaW.PrintWords Go.Proofs.YtbkaedmabdgdhaaW.PrintLast
set_option linter.unusedVariables false
set_option linter.unusedSimpArgs false
end Go.Proofs.Ytbkaedmabdgdhaa.Pure
namespace Go.Proofs.Ytbkaedmabdgdhaa.Pure
open Go.RowKit Go.Proofs.Ytbkaedmabdgdhaa.Hd Go.Proofs.YtbkaedmabdgdhaaW.PrintWords Go.Proofs.YtbkaedmabdgdhaaW.PrintLast
set_option linter.unusedVariables false
set_option linter.unusedSimpArgs false
theorem l1Own_eq (l : List Int) (h : l.length ≤ 1048576) : spec_l1Own.f l = some l := by
  unfold spec_l1Own.f
  rw [Option.bind_some, if_pos (by simp; omega), List.nil_append]
end Go.Proofs.Ytbkaedmabdgdhaa.Pure
namespace Go.Proofs.Ytbkaedmabdgdhaa.Hd
open Go.RowKit Go.Proofs.YtbkaedmabdgdhaaW.PrintWords Go.Proofs.YtbkaedmabdgdhaaW.PrintLast Go.Proofs.YtbkaedmabdgdhaaW.PrintMore
set_option linter.unusedVariables false
set_option linter.unusedSimpArgs false
end Go.Proofs.Ytbkaedmabdgdhaa.Hd
namespace Go.Proofs.Ytbkaedmabdgdhaa.Pure
open Go.RowKit Go.Proofs.Ytbkaedmabdgdhaa.Hd Go.Proofs.YtbkaedmabdgdhaaW.PrintWords Go.Proofs.YtbkaedmabdgdhaaW.PrintLast
set_option linter.unusedVariables false
set_option linter.unusedSimpArgs false
end Go.Proofs.Ytbkaedmabdgdhaa.Pure
namespace Go.Proofs.Ytbkaedmabdgdhaa.Pure
open Go.RowKit Go.Proofs.Ytbkaedmabdgdhaa.Hd Go.Proofs.YtbkaedmabdgdhaaW.PrintWords Go.Proofs.YtbkaedmabdgdhaaW.PrintLast
set_option linter.unusedVariables false
set_option linter.unusedSimpArgs false
end Go.Proofs.Ytbkaedmabdgdhaa.Pure
namespace Go.Proofs.Ytbkaedmabdgdhaa.Pure
open Go.RowKit Go.Proofs.Ytbkaedmabdgdhaa.Hd Go.Proofs.YtbkaedmabdgdhaaW.PrintWords Go.Proofs.YtbkaedmabdgdhaaW.PrintLast
set_option linter.unusedVariables false
set_option linter.unusedSimpArgs false
theorem cloneT_eq (l : List S_Tile) (h : l.length ≤ 1048576) : slices_Clone_impl_Tile_impl_Tile.f l = some l := by
  unfold slices_Clone_impl_Tile_impl_Tile.f
  rw [Option.bind_some, if_pos (by simp; omega), List.nil_append]
end Go.Proofs.Ytbkaedmabdgdhaa.Pure
namespace Go.Proofs.Ytbkaedmabdgdhaa.Pure
open Go.RowKit Go.Proofs.Ytbkaedmabdgdhaa.Hd Go.Proofs.YtbkaedmabdgdhaaW.PrintWords Go.Proofs.YtbkaedmabdgdhaaW.PrintLast
set_option linter.unusedVariables false
set_option linter.unusedSimpArgs false
theorem cloneI_eq (l : List Int) (h : l.length ≤ 2000000) : slices_Clone_int_int.f l = some l := by
  unfold slices_Clone_int_int.f
  rw [Option.bind_some, if_pos (by simp; omega), List.nil_append]
end Go.Proofs.Ytbkaedmabdgdhaa.Pure
namespace Go.Proofs.Ytbkaedmabdgdhaa.Pure
open Go.RowKit Go.Proofs.Ytbkaedmabdgdhaa.Hd Go.Proofs.YtbkaedmabdgdhaaW.PrintWords Go.Proofs.YtbkaedmabdgdhaaW.PrintLast
set_option linter.unusedVariables false
set_option linter.unusedSimpArgs false
end Go.Proofs.Ytbkaedmabdgdhaa.Pure
namespace Go.Proofs.Ytbkaedmabdgdhaa.Pure
open Go.RowKit Go.Proofs.Ytbkaedmabdgdhaa.Hd Go.Proofs.YtbkaedmabdgdhaaW.PrintWords Go.Proofs.YtbkaedmabdgdhaaW.PrintLast
set_option linter.unusedVariables false
set_option linter.unusedSimpArgs false
/-- One tile that is taken, both ways; a double one way only. -/
def bothW (F : List Int → List S_Tile → List (List Int)) (l : List Int) (H : List S_Tile) (k : Nat) : List (List Int) :=
  F (l ++ [(rd_Tile H (k : Int)).f0, (rd_Tile H (k : Int)).f1]) (H.eraseIdx k) ++ (if ((rd_Tile H (k : Int)).f0 == (rd_Tile H (k : Int)).f1) = true then [] else F (l ++ [(rd_Tile H (k : Int)).f1, (rd_Tile H (k : Int)).f0]) (H.eraseIdx k))
/-- All lists of m tiles' numbers of a hand, with this beginning. -/
def layN (m : Nat) : Nat → List Int → List S_Tile → List (List Int)
  | 0, l, _ => if l.length = 2 * m then [l] else []
  | n + 1, l, H => if l.length = 2 * m then [l] else (List.range H.length).flatMap (bothW (layN m n) l H)
section
variable {σ : Type} (st : σ → List Int → σ)
def walkL (m n : Nat) (l : List Int) (H : List S_Tile) (s : σ) : σ := (layN m n l H).foldl st s
/-- The state when i tiles have been looked at. -/
def walkLTo (m n : Nat) (l : List Int) (H : List S_Tile) (s : σ) (i : Nat) : σ := ((List.range i).flatMap (bothW (layN m n) l H)).foldl st s
theorem walkL_end (m n : Nat) (l : List Int) (H : List S_Tile) (s : σ) (h : l.length = 2 * m) : walkL st m n l H s = st s l := by
  unfold walkL; cases n <;> simp [layN, h]
theorem walkLTo_zero (m n : Nat) (l : List Int) (H : List S_Tile) (s : σ) : walkLTo st m n l H s 0 = s := rfl
theorem walkLTo_next (m n : Nat) (l : List Int) (H : List S_Tile) (s : σ) (i : Nat) : walkLTo st m n l H s (i + 1) =
    (if ((rd_Tile H (i : Int)).f0 == (rd_Tile H (i : Int)).f1) = true then walkL st m n (l ++ [(rd_Tile H (i : Int)).f0, (rd_Tile H (i : Int)).f1]) (H.eraseIdx i) (walkLTo st m n l H s i)
      else walkL st m n (l ++ [(rd_Tile H (i : Int)).f1, (rd_Tile H (i : Int)).f0]) (H.eraseIdx i) (walkL st m n (l ++ [(rd_Tile H (i : Int)).f0, (rd_Tile H (i : Int)).f1]) (H.eraseIdx i) (walkLTo st m n l H s i))) := by
  unfold walkLTo walkL
  rw [List.range_succ, List.flatMap_append, List.foldl_append]
  simp only [List.flatMap_cons, List.flatMap_nil, List.append_nil, bothW]
  split
  · rw [List.append_nil]
  · rw [List.foldl_append]
theorem walkLTo_all (m n : Nat) (l : List Int) (H : List S_Tile) (s : σ) (h : l.length ≠ 2 * m) : walkLTo st m n l H s H.length = walkL st m (n + 1) l H s := by
  unfold walkL walkLTo
  simp only [layN]; rw [if_neg h]
theorem walkLTo_fin (m n : Nat) (l : List Int) (H : List S_Tile) (s : σ) (hn : H.length = n) (h : l.length ≠ 2 * m) : walkLTo st m (n - 1) l H s H.length = walkL st m n l H s := by
  cases n with
  | succ n => exact walkLTo_all st m n l H s h
  | zero =>
    rw [hn, walkLTo_zero]
    unfold walkL
    simp [layN, h]
end
theorem layN_mem (m : Nat) : ∀ (n : Nat) (l : List Int) (H : List S_Tile), ∀ w ∈ layN m n l H, w.length = 2 * m
  | 0, l, H, w, h => by
    unfold layN at h
    split at h
    · rename_i e; simp only [List.mem_singleton] at h; rw [h, e]
    · cases h
  | n + 1, l, H, w, h => by
    unfold layN at h
    split at h
    · rename_i e; simp only [List.mem_singleton] at h; rw [h, e]
    · obtain ⟨k, _, h⟩ := List.mem_flatMap.1 h
      unfold bothW at h
      rw [List.mem_append] at h
      rcases h with h | h
      · exact layN_mem m n _ _ w h
      · split at h
        · cases h
        · exact layN_mem m n _ _ w h
/-- A bound on the states: what grows by at most one a list. -/
theorem foldl_ge {σ : Type} (st : σ → List Int → σ) (q : σ → Nat) (h : ∀ s l, q s ≤ q (st s l)) : ∀ (L : List (List Int)) (s : σ), q s ≤ q (L.foldl st s) := by
  intro L; induction L with
  | nil => intro s; exact Nat.le_refl _
  | cons x L ih => intro s; exact Nat.le_trans (h s x) (ih _)
theorem walkLTo_le {σ : Type} (st : σ → List Int → σ) (q : σ → Nat) (h : ∀ s l, q s ≤ q (st s l)) (m n : Nat) (l : List Int) (H : List S_Tile) (s : σ) (i j : Nat) (hij : i ≤ j) : q (walkLTo st m n l H s i) ≤ q (walkLTo st m n l H s j) := by
  obtain ⟨d, rfl⟩ : ∃ d, j = i + d := ⟨j - i, by omega⟩
  unfold walkLTo
  rw [List.range_add, List.flatMap_append, List.foldl_append]
  exact foldl_ge st q h _ _
theorem erase_len {α : Type} {H : List α} {i : Nat} (hi : i < H.length) : (H.eraseIdx i).length = H.length - 1 := by rw [List.length_eraseIdx, if_pos hi]
theorem erase_all {H : List S_Tile} {i : Nat} (h : ∀ x ∈ H, goodT x = true) : ∀ x ∈ H.eraseIdx i, goodT x = true := fun x hx => h x (List.mem_of_mem_eraseIdx hx)
theorem rdT_lt {H : List S_Tile} {i : Nat} (hi : i < H.length) : rd_Tile H (i : Int) = H[i] := by
  unfold rd_Tile; simp [hi]
end Go.Proofs.Ytbkaedmabdgdhaa.Pure
