/- The reference's search for lists of tiles' numbers (plain). -/
import Derived.Test.YtbkaedmabdgdhaaPTile0
import Derived.Test.YtbkaedmabdgdhaaG2
import Derived.Test.YtbkaedmabdgdhaaPTile
import Derived.Test.YtbkaedmabdgdhaaG0
import Derived.Test.YtbkaedmabdgdhaaPEv
import Derived.Test.YtbkaedmabdgdhaaPWin0
import Derived.Test.YtbkaedmabdgdhaaMCompactInt
import Derived.Test.YtbkaedmabdgdhaaPEqIntSS
import Derived.Test.YtbkaedmabdgdhaaMGrowInt
import Derived.Test.YtbkaedmabdgdhaaG1
namespace Go.Proofs.Ytbkaedmabdgdhaa.Pure
open Go.RowKit Go.Proofs.Ytbkaedmabdgdhaa.Hd Go.Proofs.YtbkaedmabdgdhaaW.PrintWords Go.Proofs.YtbkaedmabdgdhaaW.PrintLast
set_option linter.unusedVariables false
set_option linter.unusedSimpArgs false
end Go.Proofs.Ytbkaedmabdgdhaa.Pure
namespace Go.Proofs.Ytbkaedmabdgdhaa.Pure
open Go.RowKit Go.Proofs.Ytbkaedmabdgdhaa.Hd Go.Proofs.YtbkaedmabdgdhaaW.PrintWords Go.Proofs.YtbkaedmabdgdhaaW.PrintLast
set_option linter.unusedVariables false
set_option linter.unusedSimpArgs false
theorem l1Own_eq (l : List Int) (h : l.length ≤ 1048576) : spec_l1Own.f l = some l := by
  unfold spec_l1Own.f
  rw [Option.bind_some, if_pos (by simp; omega), List.nil_append]
end Go.Proofs.Ytbkaedmabdgdhaa.Pure
namespace Go.Proofs.Ytbkaedmabdgdhaa.Hd
open Go.RowKit Go.Proofs.YtbkaedmabdgdhaaW.PrintWords Go.Proofs.YtbkaedmabdgdhaaW.PrintLast Go.Proofs.YtbkaedmabdgdhaaW.PrintMore
set_option linter.unusedVariables false
set_option linter.unusedSimpArgs false
end Go.Proofs.Ytbkaedmabdgdhaa.Hd
namespace Go.Proofs.Ytbkaedmabdgdhaa.Pure
open Go.RowKit Go.Proofs.Ytbkaedmabdgdhaa.Hd Go.Proofs.YtbkaedmabdgdhaaW.PrintWords Go.Proofs.YtbkaedmabdgdhaaW.PrintLast
set_option linter.unusedVariables false
set_option linter.unusedSimpArgs false
end Go.Proofs.Ytbkaedmabdgdhaa.Pure
namespace Go.Proofs.Ytbkaedmabdgdhaa.Pure
open Go.RowKit Go.Proofs.Ytbkaedmabdgdhaa.Hd Go.Proofs.YtbkaedmabdgdhaaW.PrintWords Go.Proofs.YtbkaedmabdgdhaaW.PrintLast
set_option linter.unusedVariables false
set_option linter.unusedSimpArgs false
end Go.Proofs.Ytbkaedmabdgdhaa.Pure
namespace Go.Proofs.Ytbkaedmabdgdhaa.Pure
open Go.RowKit Go.Proofs.Ytbkaedmabdgdhaa.Hd Go.Proofs.YtbkaedmabdgdhaaW.PrintWords Go.Proofs.YtbkaedmabdgdhaaW.PrintLast
set_option linter.unusedVariables false
set_option linter.unusedSimpArgs false
/-- a comes before b, both as long. -/
def lexB : List Int → List Int → Bool
  | x :: xs, y :: ys => if x = y then lexB xs ys else decide (x < y)
  | _, _ => false
end Go.Proofs.Ytbkaedmabdgdhaa.Pure
namespace Go.Proofs.Ytbkaedmabdgdhaa.Pure
open Go.RowKit Go.Proofs.Ytbkaedmabdgdhaa.Hd Go.Proofs.YtbkaedmabdgdhaaW.PrintWords Go.Proofs.YtbkaedmabdgdhaaW.PrintLast
set_option linter.unusedVariables false
set_option linter.unusedSimpArgs false
theorem cloneT_eq (l : List S_Tile) (h : l.length ≤ 1048576) : slices_Clone_impl_Tile_impl_Tile.f l = some l := by
  unfold slices_Clone_impl_Tile_impl_Tile.f
  rw [Option.bind_some, if_pos (by simp; omega), List.nil_append]
end Go.Proofs.Ytbkaedmabdgdhaa.Pure
namespace Go.Proofs.Ytbkaedmabdgdhaa.Pure
open Go.RowKit Go.Proofs.Ytbkaedmabdgdhaa.Hd Go.Proofs.YtbkaedmabdgdhaaW.PrintWords Go.Proofs.YtbkaedmabdgdhaaW.PrintLast
set_option linter.unusedVariables false
set_option linter.unusedSimpArgs false
theorem cloneI_eq (l : List Int) (h : l.length ≤ 2000000) : slices_Clone_int_int.f l = some l := by
  unfold slices_Clone_int_int.f
  rw [Option.bind_some, if_pos (by simp; omega), List.nil_append]
end Go.Proofs.Ytbkaedmabdgdhaa.Pure
namespace Go.Proofs.Ytbkaedmabdgdhaa.Pure
open Go.RowKit Go.Proofs.Ytbkaedmabdgdhaa.Hd Go.Proofs.YtbkaedmabdgdhaaW.PrintWords Go.Proofs.YtbkaedmabdgdhaaW.PrintLast
set_option linter.unusedVariables false
set_option linter.unusedSimpArgs false
/-- One tile that is taken, both ways; a double one way only. -/
def bothW (F : List Int → List S_Tile → List (List Int)) (l : List Int) (H : List S_Tile) (k : Nat) : List (List Int) :=
  F (l ++ [(rd_Tile H (k : Int)).f0, (rd_Tile H (k : Int)).f1]) (H.eraseIdx k) ++ (if ((rd_Tile H (k : Int)).f0 == (rd_Tile H (k : Int)).f1) = true then [] else F (l ++ [(rd_Tile H (k : Int)).f1, (rd_Tile H (k : Int)).f0]) (H.eraseIdx k))
/-- All lists of m tiles' numbers of a hand, with this beginning. -/
def layN (m : Nat) : Nat → List Int → List S_Tile → List (List Int)
  | 0, l, _ => if l.length = 2 * m then [l] else []
  | n + 1, l, H => if l.length = 2 * m then [l] else (List.range H.length).flatMap (bothW (layN m n) l H)
section
variable {σ : Type} (st : σ → List Int → σ)
def walkL (m n : Nat) (l : List Int) (H : List S_Tile) (s : σ) : σ := (layN m n l H).foldl st s
/-- The state when i tiles have been looked at. -/
def walkLTo (m n : Nat) (l : List Int) (H : List S_Tile) (s : σ) (i : Nat) : σ := ((List.range i).flatMap (bothW (layN m n) l H)).foldl st s
theorem walkL_end (m n : Nat) (l : List Int) (H : List S_Tile) (s : σ) (h : l.length = 2 * m) : walkL st m n l H s = st s l := by
  unfold walkL; cases n <;> simp [layN, h]
theorem walkLTo_zero (m n : Nat) (l : List Int) (H : List S_Tile) (s : σ) : walkLTo st m n l H s 0 = s := rfl
theorem walkLTo_next (m n : Nat) (l : List Int) (H : List S_Tile) (s : σ) (i : Nat) : walkLTo st m n l H s (i + 1) =
    (if ((rd_Tile H (i : Int)).f0 == (rd_Tile H (i : Int)).f1) = true then walkL st m n (l ++ [(rd_Tile H (i : Int)).f0, (rd_Tile H (i : Int)).f1]) (H.eraseIdx i) (walkLTo st m n l H s i)
      else walkL st m n (l ++ [(rd_Tile H (i : Int)).f1, (rd_Tile H (i : Int)).f0]) (H.eraseIdx i) (walkL st m n (l ++ [(rd_Tile H (i : Int)).f0, (rd_Tile H (i : Int)).f1]) (H.eraseIdx i) (walkLTo st m n l H s i))) := by
  unfold walkLTo walkL
  rw [List.range_succ, List.flatMap_append, List.foldl_append]
  simp only [List.flatMap_cons, List.flatMap_nil, List.append_nil, bothW]
  split
  · rw [List.append_nil]
  · rw [List.foldl_append]
theorem walkLTo_all (m n : Nat) (l : List Int) (H : List S_Tile) (s : σ) (h : l.length ≠ 2 * m) : walkLTo st m n l H s H.length = walkL st m (n + 1) l H s := by
  unfold walkL walkLTo
  simp only [layN]; rw [if_neg h]
theorem walkLTo_fin (m n : Nat) (l : List Int) (H : List S_Tile) (s : σ) (hn : H.length = n) (h : l.length ≠ 2 * m) : walkLTo st m (n - 1) l H s H.length = walkL st m n l H s := by
  cases n with
  | succ n => exact walkLTo_all st m n l H s h
  | zero =>
    rw [hn, walkLTo_zero]
    unfold walkL
    simp [layN, h]
end
theorem layN_mem (m : Nat) : ∀ (n : Nat) (l : List Int) (H : List S_Tile), ∀ w ∈ layN m n l H, w.length = 2 * m
  | 0, l, H, w, h => by
    unfold layN at h
    split at h
    · rename_i e; simp only [List.mem_singleton] at h; rw [h, e]
    · cases h
  | n + 1, l, H, w, h => by
    unfold layN at h
    split at h
    · rename_i e; simp only [List.mem_singleton] at h; rw [h, e]
    · obtain ⟨k, _, h⟩ := List.mem_flatMap.1 h
      unfold bothW at h
      rw [List.mem_append] at h
      rcases h with h | h
      · exact layN_mem m n _ _ w h
      · split at h
        · cases h
        · exact layN_mem m n _ _ w h
/-- A bound on the states: what grows by at most one a list. -/
theorem foldl_ge {σ : Type} (st : σ → List Int → σ) (q : σ → Nat) (h : ∀ s l, q s ≤ q (st s l)) : ∀ (L : List (List Int)) (s : σ), q s ≤ q (L.foldl st s) := by
  intro L; induction L with
  | nil => intro s; exact Nat.le_refl _
  | cons x L ih => intro s; exact Nat.le_trans (h s x) (ih _)
theorem walkLTo_le {σ : Type} (st : σ → List Int → σ) (q : σ → Nat) (h : ∀ s l, q s ≤ q (st s l)) (m n : Nat) (l : List Int) (H : List S_Tile) (s : σ) (i j : Nat) (hij : i ≤ j) : q (walkLTo st m n l H s i) ≤ q (walkLTo st m n l H s j) := by
  obtain ⟨d, rfl⟩ : ∃ d, j = i + d := ⟨j - i, by omega⟩
  unfold walkLTo
  rw [List.range_add, List.flatMap_append, List.foldl_append]
  exact foldl_ge st q h _ _
theorem erase_len {α : Type} {H : List α} {i : Nat} (hi : i < H.length) : (H.eraseIdx i).length = H.length - 1 := by rw [List.length_eraseIdx, if_pos hi]
theorem erase_all {H : List S_Tile} {i : Nat} (h : ∀ x ∈ H, goodT x = true) : ∀ x ∈ H.eraseIdx i, goodT x = true := fun x hx => h x (List.mem_of_mem_eraseIdx hx)
theorem rdT_lt {H : List S_Tile} {i : Nat} (hi : i < H.length) : rd_Tile H (i : Int) = H[i] := by
  unfold rd_Tile; simp [hi]
end Go.Proofs.Ytbkaedmabdgdhaa.Pure
namespace Go.Proofs.Ytbkaedmabdgdhaa.Pure
open Go.RowKit Go.Proofs.Ytbkaedmabdgdhaa.Hd Go.Proofs.YtbkaedmabdgdhaaW.PrintWords Go.Proofs.YtbkaedmabdgdhaaW.PrintLast
set_option linter.unusedVariables false
set_option linter.unusedSimpArgs false
/-- The tiles with the lesser number lo and the greater one hi, hi + 1, .. (d of them). -/
def rowT (lo hi : Nat) : Nat → List S_Tile
  | 0 => []
  | d + 1 => ⟨lo, hi⟩ :: rowT lo (hi + 1) d
/-- The tiles with lesser numbers lo, lo + 1, .. (d of them), the greater one up to n. -/
def rowsT (n lo : Nat) : Nat → List S_Tile
  | 0 => []
  | d + 1 => rowT lo lo (n + 1 - lo) ++ rowsT n (lo + 1) d
def setT (n : Nat) : List S_Tile := rowsT n 0 (n + 1)
theorem rowT_len (lo hi d : Nat) : (rowT lo hi d).length = d := by
  induction d generalizing hi with
  | zero => rfl
  | succ d ih => simp [rowT, ih]
theorem rowsT_len (n lo d : Nat) : (rowsT n lo d).length ≤ (n + 1) * d := by
  induction d generalizing lo with
  | zero => simp [rowsT]
  | succ d ih =>
    have h1 := ih (lo + 1)
    simp only [rowsT, List.length_append, rowT_len, Nat.mul_succ]
    have : n + 1 - lo ≤ n + 1 := Nat.sub_le _ _
    omega
theorem setT_len {n : Nat} (h : n ≤ 9) : (setT n).length ≤ 100 := by
  have h1 := rowsT_len n 0 (n + 1)
  have : (n + 1) * (n + 1) ≤ 10 * 10 := Nat.mul_le_mul (by omega) (by omega)
  unfold setT; omega
theorem rowT_mem (lo hi d : Nat) (t : S_Tile) : t ∈ rowT lo hi d ↔ t.f0 = lo ∧ (hi : Int) ≤ t.f1 ∧ t.f1 < hi + d := by
  induction d generalizing hi with
  | zero => simp only [rowT, List.not_mem_nil, false_iff]; omega
  | succ d ih =>
    simp only [rowT, List.mem_cons, ih]
    obtain ⟨a, b⟩ := t
    simp only [S_Tile.mk.injEq]
    omega
theorem rowsT_mem (n lo d : Nat) (t : S_Tile) (h : lo + d = n + 1) : t ∈ rowsT n lo d ↔ (lo : Int) ≤ t.f0 ∧ t.f0 ≤ t.f1 ∧ t.f1 ≤ n := by
  induction d generalizing lo with
  | zero => simp only [rowsT, List.not_mem_nil, false_iff]; omega
  | succ d ih =>
    simp only [rowsT, List.mem_append, rowT_mem, ih (lo + 1) (by omega)]
    omega
theorem setT_mem (n : Nat) (t : S_Tile) : t ∈ setT n ↔ 0 ≤ t.f0 ∧ t.f0 ≤ t.f1 ∧ t.f1 ≤ n := by
  unfold setT
  have := rowsT_mem n 0 (n + 1) t (by omega)
  simpa using this
theorem setT_good (t : S_Tile) : t ∈ setT 9 ↔ goodT t = true := by
  rw [setT_mem]
  simp only [goodT, Bool.and_eq_true, decide_eq_true_eq, and_assoc]
  omega
theorem tiSet_l0 (n : Nat) (hn : n ≤ 9) : ∀ (d lo : Nat) (acc : List S_Tile), lo + d = n + 1 → acc.length + 10 * d ≤ 500 → Ev (fun k => spec_tiSet.l0 k (n : Int) acc (lo : Int)) (acc ++ rowsT n lo d) := by
  intro d
  induction d with
  | zero =>
    intro lo acc h1 h2
    refine Ev.succ ?_
    simp only [spec_tiSet.l0]
    exact Ev.neg (by omega) (Ev.ret (by simp [rowsT]))
  | succ d ih =>
    intro lo acc h1 h2
    refine Ev.succ ?_
    simp only [spec_tiSet.l0]
    refine Ev.pos (by omega) ?_
    have key : ∀ (d2 hi : Nat) (acc : List S_Tile), hi + d2 = n + 1 → acc.length + d2 + 10 * d ≤ 500 → Ev (fun k => spec_tiSet.l1 k (n : Int) acc (lo : Int) (hi : Int)) (acc ++ rowT lo hi d2 ++ rowsT n (lo + 1) d) := by
      intro d2
      induction d2 with
      | zero =>
        intro hi acc h1' h2'
        refine Ev.succ ?_
        simp only [spec_tiSet.l1]
        rw [w64' (n := (lo : Int) + 1) (m := ((lo + 1 : Nat) : Int)) (by omega) (by omega) (by omega)]
        refine Ev.neg (by omega) ?_
        simp only [rowT, List.append_nil]
        exact ih (lo + 1) acc (by omega) (by omega)
      | succ d2 ih2 =>
        intro hi acc h1' h2'
        refine Ev.succ ?_
        simp only [spec_tiSet.l1]
        rw [w64' (n := (hi : Int) + 1) (m := ((hi + 1 : Nat) : Int)) (by omega) (by omega) (by omega)]
        have hh := ih2 (hi + 1) (acc ++ [⟨lo, hi⟩]) (by omega) (by simp only [List.length_append, List.length_cons, List.length_nil]; omega)
        simp only [List.append_assoc] at hh ⊢
        exact Ev.pos (by omega) (Ev.pos (by omega) hh)
    have := key (n + 1 - lo) lo acc (by omega) (by omega)
    rw [List.append_assoc] at this
    exact this
theorem tiSet_ev (n : Nat) (hn : n ≤ 9) : Ev (fun k => spec_tiSet.f k (n : Int)) (setT n) := by
  unfold spec_tiSet.f
  exact tiSet_l0 n hn (n + 1) 0 [] (by omega) (by simp only [List.length_nil]; omega)
/-- Those of a list that are in another one exactly if they should be. -/
def keepT (b : List S_Tile) (inn : Bool) (l : List S_Tile) : List S_Tile := l.filter fun t => decide (t ∈ b) == inn
theorem keepT_take (b : List S_Tile) (inn : Bool) (l : List S_Tile) (i : Nat) (h : i < l.length) : keepT b inn (l.take (i + 1)) = keepT b inn (l.take i) ++ (if (decide (l[i] ∈ b) == inn) = true then [l[i]] else []) := by
  unfold keepT
  rw [List.take_succ_eq_append_getElem h, List.filter_append]
  congr 1
  simp only [List.filter_cons, List.filter_nil]
theorem keepT_len (b : List S_Tile) (inn : Bool) (l : List S_Tile) : (keepT b inn l).length ≤ l.length := List.length_filter_le _ _
theorem idx_dec (b : List S_Tile) (t : S_Tile) : decide (idxT b t ≥ 0) = decide (t ∈ b) := by rw [decide_eq_decide]; exact idxT_ge b t
theorem tiPick_l0 (b : List S_Tile) (hb : b.length ≤ 1048576) (inn : Bool) (l : List S_Tile) (hl : l.length ≤ 1048576) : ∀ (d i : Nat), i + d = l.length →
    Ev (fun k => spec_tiPick.l0 k b inn (keepT b inn (l.take i)) l (l.length : Int) (i : Int)) (keepT b inn l) := by
  intro d
  induction d with
  | zero =>
    intro i hi
    refine Ev.succ ?_
    simp only [spec_tiPick.l0]
    exact Ev.neg (by omega) (Ev.ret (by rw [List.take_of_length_le (by omega)]))
  | succ d ih =>
    intro i hi
    refine Ev.succ ?_
    have hlt : i < l.length := by omega
    have h2 := keepT_len b inn (l.take i)
    rw [List.length_take] at h2
    have hk := keepT_take b inn l i hlt
    have hh := ih (i + 1) (by omega)
    simp only [spec_tiPick.l0]
    rw [rdT_at hlt, w64' (n := (i : Int) + 1) (m := ((i + 1 : Nat) : Int)) (by omega) (by omega) (by omega)]
    refine Ev.pos (by omega) (Ev.pos (by omega) (Ev.pos (by omega) (Ev.bd (tiPlace_ev b (by omega) l[i]) ?_)))
    simp only [idx_dec]
    by_cases c : (decide (l[i] ∈ b) == inn) = true
    · rw [if_pos c] at hk
      refine Ev.pos c (Ev.pos (by omega) ?_)
      rw [hk] at hh
      exact hh
    · rw [if_neg c, List.append_nil] at hk
      rw [hk] at hh
      exact Ev.neg c hh
theorem tiPick_ev (n : Nat) (hn : n ≤ 9) (b : List S_Tile) (hb : b.length ≤ 1048576) (inn : Bool) : Ev (fun k => spec_tiPick.f k (n : Int) b inn) (keepT b inn (setT n)) := by
  unfold spec_tiPick.f
  have := setT_len hn
  exact Ev.bd (tiSet_ev n hn) (tiPick_l0 b hb inn (setT n) (by omega) (setT n).length 0 (by omega))
/-- A hand sorted. -/
def sortT (l : List S_Tile) : List S_Tile := keepT l true (setT 9)
theorem sortT_len (l : List S_Tile) : (sortT l).length ≤ 100 := Nat.le_trans (keepT_len _ _ _) (setT_len (by omega))
theorem tiSort_ev (l : List S_Tile) (hl : l.length ≤ 1048576) : Ev (fun k => spec_tiSort.f k l) (sortT l) := by
  unfold spec_tiSort.f
  exact Ev.bd (tiPick_ev 9 (by omega) l hl true) (Ev.ret rfl)
theorem sortT_mem (l : List S_Tile) (t : S_Tile) : t ∈ sortT l ↔ t ∈ l ∧ goodT t = true := by
  unfold sortT keepT
  rw [List.mem_filter, setT_good]
  simp only [beq_true, decide_eq_true_eq]
  exact And.comm
end Go.Proofs.Ytbkaedmabdgdhaa.Pure
namespace Go.Proofs.Ytbkaedmabdgdhaa.Pure
open Go.RowKit Go.Proofs.Ytbkaedmabdgdhaa.Hd Go.Proofs.YtbkaedmabdgdhaaW.PrintWords Go.Proofs.YtbkaedmabdgdhaaW.PrintLast
set_option linter.unusedVariables false
set_option linter.unusedSimpArgs false
theorem tiThose_l0 (b : List S_Tile) (hb : b.length ≤ 1048576) (inn : Bool) (l : List S_Tile) (hl : l.length ≤ 1048576) : ∀ (d i : Nat), i + d = l.length →
    Ev (fun k => spec_tiThose.l0 k b inn (keepT b inn (l.take i)) l (l.length : Int) (i : Int)) (keepT b inn l) := by
  intro d
  induction d with
  | zero =>
    intro i hi
    refine Ev.succ ?_
    simp only [spec_tiThose.l0]
    exact Ev.neg (by omega) (Ev.ret (by rw [List.take_of_length_le (by omega)]))
  | succ d ih =>
    intro i hi
    refine Ev.succ ?_
    have hlt : i < l.length := by omega
    have h2 := keepT_len b inn (l.take i)
    rw [List.length_take] at h2
    have hk := keepT_take b inn l i hlt
    have hh := ih (i + 1) (by omega)
    simp only [spec_tiThose.l0]
    rw [rdT_at hlt, w64' (n := (i : Int) + 1) (m := ((i + 1 : Nat) : Int)) (by omega) (by omega) (by omega)]
    refine Ev.pos (by omega) (Ev.pos (by omega) (Ev.pos (by omega) (Ev.bd (tiPlace_ev b (by omega) l[i]) ?_)))
    simp only [idx_dec]
    by_cases c : (decide (l[i] ∈ b) == inn) = true
    · rw [if_pos c] at hk
      refine Ev.pos c (Ev.pos (by omega) ?_)
      rw [hk] at hh
      exact hh
    · rw [if_neg c, List.append_nil] at hk
      rw [hk] at hh
      exact Ev.neg c hh
theorem tiThose_ev (a b : List S_Tile) (ha : a.length ≤ 1048576) (hb : b.length ≤ 1048576) (inn : Bool) : Ev (fun k => spec_tiThose.f k a b inn) (keepT b inn (sortT a)) := by
  unfold spec_tiThose.f
  have := sortT_len a
  exact Ev.bd (tiSort_ev a ha) (tiThose_l0 b hb inn (sortT a) (by omega) (sortT a).length 0 (by omega))
end Go.Proofs.Ytbkaedmabdgdhaa.Pure
namespace Go.Proofs.Ytbkaedmabdgdhaa.Pure
open Go.RowKit Go.Proofs.Ytbkaedmabdgdhaa.Hd Go.Proofs.YtbkaedmabdgdhaaW.PrintWords Go.Proofs.YtbkaedmabdgdhaaW.PrintLast
set_option linter.unusedVariables false
set_option linter.unusedSimpArgs false
def tl (a b : Int) : S_Tile := ⟨min a b, max a b⟩
theorem spec_tiOf_eq (a b : Int) : spec_tiOf.f a b = some ((tl a b).f0, (tl a b).f1) := by
  unfold spec_tiOf.f spec_l1Least.f spec_l1Most.f tl
  by_cases h : a < b
  · rw [if_pos h, Option.bind_some, if_neg (by omega), Option.bind_some]
    simp only [Option.some.injEq, Prod.mk.injEq]; omega
  · rw [if_neg h, Option.bind_some]
    by_cases h2 : a > b
    · rw [if_pos h2, Option.bind_some]; simp only [Option.some.injEq, Prod.mk.injEq]; omega
    · rw [if_neg h2, Option.bind_some]; simp only [Option.some.injEq, Prod.mk.injEq]; omega
end Go.Proofs.Ytbkaedmabdgdhaa.Pure
namespace Go.Proofs.Ytbkaedmabdgdhaa.Pure
open Go.RowKit Go.Proofs.Ytbkaedmabdgdhaa.Hd Go.Proofs.YtbkaedmabdgdhaaW.PrintWords Go.Proofs.YtbkaedmabdgdhaaW.PrintLast
set_option linter.unusedVariables false
set_option linter.unusedSimpArgs false
def lessT (hand : List S_Tile) (t : S_Tile) : List S_Tile := keepT [t] false (sortT hand)
theorem those_ev (hand : List S_Tile) (t : S_Tile) (h : hand.length ≤ 1048576) : Ev (fun k => spec_tiThose.f k hand [t] false) (lessT hand t) := tiThose_ev hand [t] h (by simp) false
end Go.Proofs.Ytbkaedmabdgdhaa.Pure
namespace Go.Proofs.Ytbkaedmabdgdhaa.Pure
open Go.RowKit Go.Proofs.Ytbkaedmabdgdhaa.Hd Go.Proofs.YtbkaedmabdgdhaaW.PrintWords Go.Proofs.YtbkaedmabdgdhaaW.PrintLast
set_option linter.unusedVariables false
set_option linter.unusedSimpArgs false
def cellL (F : List Int → List S_Tile → List (List Int)) (l : List Int) (H : List S_Tile) (a b : Nat) : List (List Int) :=
  if tl (a : Int) (b : Int) ∈ H then F (l ++ [(a : Int), (b : Int)]) (lessT H (tl (a : Int) (b : Int))) else []
/-- All lists with this beginning, number by number, till the end's test holds. -/
def lookN (stp : List Int → List S_Tile → Bool) : Nat → List Int → List S_Tile → List (List Int)
  | 0, l, H => if stp l H = true then [l] else []
  | d + 1, l, H => if stp l H = true then [l] else (List.range 10).flatMap fun a => (List.range 10).flatMap (cellL (lookN stp d) l H a)
section
variable {σ : Type} (st : σ → List Int → σ) (stp : List Int → List S_Tile → Bool)
def lookS (d : Nat) (l : List Int) (H : List S_Tile) (s : σ) : σ := (lookN stp d l H).foldl st s
def lookO (d : Nat) (l : List Int) (H : List S_Tile) (s : σ) (i : Nat) : σ := ((List.range i).flatMap fun a => (List.range 10).flatMap (cellL (lookN stp d) l H a)).foldl st s
def lookI (d : Nat) (l : List Int) (H : List S_Tile) (s : σ) (i j : Nat) : σ := ((List.range j).flatMap (cellL (lookN stp d) l H i)).foldl st (lookO st stp d l H s i)
theorem lookS_end (d : Nat) (l : List Int) (H : List S_Tile) (s : σ) (h : stp l H = true) : lookS st stp d l H s = st s l := by
  unfold lookS; cases d <;> simp [lookN, h]
theorem lookI_next (d : Nat) (l : List Int) (H : List S_Tile) (s : σ) (i j : Nat) : lookI st stp d l H s i (j + 1) =
    if tl (i : Int) (j : Int) ∈ H then lookS st stp d (l ++ [(i : Int), (j : Int)]) (lessT H (tl (i : Int) (j : Int))) (lookI st stp d l H s i j) else lookI st stp d l H s i j := by
  unfold lookI lookS
  rw [List.range_succ, List.flatMap_append, List.foldl_append]
  simp only [List.flatMap_cons, List.flatMap_nil, List.append_nil, cellL]
  split <;> rfl
theorem lookO_next (d : Nat) (l : List Int) (H : List S_Tile) (s : σ) (i : Nat) : lookO st stp d l H s (i + 1) = lookI st stp d l H s i 10 := by
  unfold lookO lookI
  rw [List.range_succ (n := i), List.flatMap_append, List.foldl_append]
  simp only [List.flatMap_cons, List.flatMap_nil, List.append_nil]
  rfl
theorem lookO_all (d : Nat) (l : List Int) (H : List S_Tile) (s : σ) (h : stp l H = false) : lookO st stp d l H s 10 = lookS st stp (d + 1) l H s := by
  unfold lookS lookO
  simp [lookN, h]
theorem lookO_le (q : σ → Nat) (h : ∀ s l, q s ≤ q (st s l)) (d : Nat) (l : List Int) (H : List S_Tile) (s : σ) (i j : Nat) (hij : i ≤ j) : q (lookO st stp d l H s i) ≤ q (lookO st stp d l H s j) := by
  obtain ⟨e, rfl⟩ : ∃ e, j = i + e := ⟨j - i, by omega⟩
  unfold lookO
  rw [List.range_add, List.flatMap_append, List.foldl_append]
  exact foldl_ge st q h _ _
theorem lookI_le (q : σ → Nat) (h : ∀ s l, q s ≤ q (st s l)) (d : Nat) (l : List Int) (H : List S_Tile) (s : σ) (i j : Nat) (hi : i < 10) (hj : j ≤ 10) : q (lookI st stp d l H s i j) ≤ q (lookO st stp d l H s 10) := by
  refine Nat.le_trans ?_ (lookO_le st stp q h d l H s (i + 1) 10 (by omega))
  rw [lookO_next]
  obtain ⟨e, he⟩ : ∃ e, 10 = j + e := ⟨10 - j, by omega⟩
  rw [he]
  unfold lookI
  rw [List.range_add, List.flatMap_append, List.foldl_append]
  exact foldl_ge st q h _ _
end
theorem idx_neg {H : List S_Tile} {t : S_Tile} : idxT H t < 0 ↔ t ∉ H := by
  have := idxT_ge H t
  constructor
  · intro h q; have := this.2 q; omega
  · intro h; have := mt this.1 h; omega
end Go.Proofs.Ytbkaedmabdgdhaa.Pure
