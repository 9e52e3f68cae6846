/- The set of all tiles up to a number, picking and sorting in it: the reference's tiSet, tiPick, tiSort. -/
import Derived.Test.YtjaojemmbeddfaaGreatPTile
import Derived.Test.YtjaojemmbeddfaaGreatG2
namespace Go.Proofs.YtjaojemmbeddfaaGreat.Pure
open Go.RowKit Go.Proofs.YtjaojemmbeddfaaGreat.Hd Go.Proofs.YtjaojemmbeddfaaGreatW.PrintWords Go.Proofs.YtjaojemmbeddfaaGreatW.PrintLast
set_option linter.unusedVariables false
set_option linter.unusedSimpArgs false
/-- The tiles with the lesser number lo and the greater one hi, hi + 1, .. (d of them). -/
def rowT (lo hi : Nat) : Nat → List S_Tile
  | 0 => []
  | d + 1 => ⟨lo, hi⟩ :: rowT lo (hi + 1) d
/-- The tiles with lesser numbers lo, lo + 1, .. (d of them), the greater one up to n. -/
def rowsT (n lo : Nat) : Nat → List S_Tile
  | 0 => []
  | d + 1 => rowT lo lo (n + 1 - lo) ++ rowsT n (lo + 1) d
def setT (n : Nat) : List S_Tile := rowsT n 0 (n + 1)
theorem rowT_len (lo hi d : Nat) : (rowT lo hi d).length = d := by
  induction d generalizing hi with
  | zero => rfl
  | succ d ih => simp [rowT, ih]
theorem rowsT_len (n lo d : Nat) : (rowsT n lo d).length ≤ (n + 1) * d := by
  induction d generalizing lo with
  | zero => simp [rowsT]
  | succ d ih =>
    have h1 := ih (lo + 1)
    simp only [rowsT, List.length_append, rowT_len, Nat.mul_succ]
    have : n + 1 - lo ≤ n + 1 := Nat.sub_le _ _
    omega
theorem setT_len {n : Nat} (h : n ≤ 9) : (setT n).length ≤ 100 := by
  have h1 := rowsT_len n 0 (n + 1)
  have : (n + 1) * (n + 1) ≤ 10 * 10 := Nat.mul_le_mul (by omega) (by omega)
  unfold setT; omega
theorem rowT_mem (lo hi d : Nat) (t : S_Tile) : t ∈ rowT lo hi d ↔ t.f0 = lo ∧ (hi : Int) ≤ t.f1 ∧ t.f1 < hi + d := by
  induction d generalizing hi with
  | zero => simp only [rowT, List.not_mem_nil, false_iff]; omega
  | succ d ih =>
    simp only [rowT, List.mem_cons, ih]
    obtain ⟨a, b⟩ := t
    simp only [S_Tile.mk.injEq]
    omega
theorem rowsT_mem (n lo d : Nat) (t : S_Tile) (h : lo + d = n + 1) : t ∈ rowsT n lo d ↔ (lo : Int) ≤ t.f0 ∧ t.f0 ≤ t.f1 ∧ t.f1 ≤ n := by
  induction d generalizing lo with
  | zero => simp only [rowsT, List.not_mem_nil, false_iff]; omega
  | succ d ih =>
    simp only [rowsT, List.mem_append, rowT_mem, ih (lo + 1) (by omega)]
    omega
theorem setT_mem (n : Nat) (t : S_Tile) : t ∈ setT n ↔ 0 ≤ t.f0 ∧ t.f0 ≤ t.f1 ∧ t.f1 ≤ n := by
  unfold setT
  have := rowsT_mem n 0 (n + 1) t (by omega)
  simpa using this
theorem setT_good (t : S_Tile) : t ∈ setT 9 ↔ goodT t = true := by
  rw [setT_mem]
  simp only [goodT, Bool.and_eq_true, decide_eq_true_eq, and_assoc]
  omega
theorem tiSet_l0 (n : Nat) (hn : n ≤ 9) : ∀ (d lo : Nat) (acc : List S_Tile), lo + d = n + 1 → acc.length + 10 * d ≤ 500 → Ev (fun k => spec_tiSet.l0 k (n : Int) acc (lo : Int)) (acc ++ rowsT n lo d) := by
  intro d
  induction d with
  | zero =>
    intro lo acc h1 h2
    refine Ev.succ ?_
    simp only [spec_tiSet.l0]
    exact Ev.neg (by omega) (Ev.ret (by simp [rowsT]))
  | succ d ih =>
    intro lo acc h1 h2
    refine Ev.succ ?_
    simp only [spec_tiSet.l0]
    refine Ev.pos (by omega) ?_
    have key : ∀ (d2 hi : Nat) (acc : List S_Tile), hi + d2 = n + 1 → acc.length + d2 + 10 * d ≤ 500 → Ev (fun k => spec_tiSet.l1 k (n : Int) acc (lo : Int) (hi : Int)) (acc ++ rowT lo hi d2 ++ rowsT n (lo + 1) d) := by
      intro d2
      induction d2 with
      | zero =>
        intro hi acc h1' h2'
        refine Ev.succ ?_
        simp only [spec_tiSet.l1]
        rw [w64' (n := (lo : Int) + 1) (m := ((lo + 1 : Nat) : Int)) (by omega) (by omega) (by omega)]
        refine Ev.neg (by omega) ?_
        simp only [rowT, List.append_nil]
        exact ih (lo + 1) acc (by omega) (by omega)
      | succ d2 ih2 =>
        intro hi acc h1' h2'
        refine Ev.succ ?_
        simp only [spec_tiSet.l1]
        rw [w64' (n := (hi : Int) + 1) (m := ((hi + 1 : Nat) : Int)) (by omega) (by omega) (by omega)]
        have hh := ih2 (hi + 1) (acc ++ [⟨lo, hi⟩]) (by omega) (by simp only [List.length_append, List.length_cons, List.length_nil]; omega)
        simp only [List.append_assoc] at hh ⊢
        exact Ev.pos (by omega) (Ev.pos (by omega) hh)
    have := key (n + 1 - lo) lo acc (by omega) (by omega)
    rw [List.append_assoc] at this
    exact this
theorem tiSet_ev (n : Nat) (hn : n ≤ 9) : Ev (fun k => spec_tiSet.f k (n : Int)) (setT n) := by
  unfold spec_tiSet.f
  exact tiSet_l0 n hn (n + 1) 0 [] (by omega) (by simp only [List.length_nil]; omega)
/-- Those of a list that are in another one exactly if they should be. -/
def keepT (b : List S_Tile) (inn : Bool) (l : List S_Tile) : List S_Tile := l.filter fun t => decide (t ∈ b) == inn
theorem keepT_take (b : List S_Tile) (inn : Bool) (l : List S_Tile) (i : Nat) (h : i < l.length) : keepT b inn (l.take (i + 1)) = keepT b inn (l.take i) ++ (if (decide (l[i] ∈ b) == inn) = true then [l[i]] else []) := by
  unfold keepT
  rw [List.take_succ_eq_append_getElem h, List.filter_append]
  congr 1
  simp only [List.filter_cons, List.filter_nil]
theorem keepT_len (b : List S_Tile) (inn : Bool) (l : List S_Tile) : (keepT b inn l).length ≤ l.length := List.length_filter_le _ _
theorem idx_dec (b : List S_Tile) (t : S_Tile) : decide (idxT b t ≥ 0) = decide (t ∈ b) := by rw [decide_eq_decide]; exact idxT_ge b t
theorem tiPick_l0 (b : List S_Tile) (hb : b.length ≤ 1048576) (inn : Bool) (l : List S_Tile) (hl : l.length ≤ 1048576) : ∀ (d i : Nat), i + d = l.length →
    Ev (fun k => spec_tiPick.l0 k b inn (keepT b inn (l.take i)) l (l.length : Int) (i : Int)) (keepT b inn l) := by
  intro d
  induction d with
  | zero =>
    intro i hi
    refine Ev.succ ?_
    simp only [spec_tiPick.l0]
    exact Ev.neg (by omega) (Ev.ret (by rw [List.take_of_length_le (by omega)]))
  | succ d ih =>
    intro i hi
    refine Ev.succ ?_
    have hlt : i < l.length := by omega
    have h2 := keepT_len b inn (l.take i)
    rw [List.length_take] at h2
    have hk := keepT_take b inn l i hlt
    have hh := ih (i + 1) (by omega)
    simp only [spec_tiPick.l0]
    rw [rdT_at hlt, w64' (n := (i : Int) + 1) (m := ((i + 1 : Nat) : Int)) (by omega) (by omega) (by omega)]
    refine Ev.pos (by omega) (Ev.pos (by omega) (Ev.pos (by omega) (Ev.bd (tiPlace_ev b (by omega) l[i]) ?_)))
    simp only [idx_dec]
    by_cases c : (decide (l[i] ∈ b) == inn) = true
    · rw [if_pos c] at hk
      refine Ev.pos c (Ev.pos (by omega) ?_)
      rw [hk] at hh
      exact hh
    · rw [if_neg c, List.append_nil] at hk
      rw [hk] at hh
      exact Ev.neg c hh
theorem tiPick_ev (n : Nat) (hn : n ≤ 9) (b : List S_Tile) (hb : b.length ≤ 1048576) (inn : Bool) : Ev (fun k => spec_tiPick.f k (n : Int) b inn) (keepT b inn (setT n)) := by
  unfold spec_tiPick.f
  have := setT_len hn
  exact Ev.bd (tiSet_ev n hn) (tiPick_l0 b hb inn (setT n) (by omega) (setT n).length 0 (by omega))
/-- A hand sorted. -/
def sortT (l : List S_Tile) : List S_Tile := keepT l true (setT 9)
theorem sortT_len (l : List S_Tile) : (sortT l).length ≤ 100 := Nat.le_trans (keepT_len _ _ _) (setT_len (by omega))
theorem tiSort_ev (l : List S_Tile) (hl : l.length ≤ 1048576) : Ev (fun k => spec_tiSort.f k l) (sortT l) := by
  unfold spec_tiSort.f
  exact Ev.bd (tiPick_ev 9 (by omega) l hl true) (Ev.ret rfl)
theorem sortT_mem (l : List S_Tile) (t : S_Tile) : t ∈ sortT l ↔ t ∈ l ∧ goodT t = true := by
  unfold sortT keepT
  rw [List.mem_filter, setT_good]
  simp only [beq_true, decide_eq_true_eq]
  exact And.comm
end Go.Proofs.YtjaojemmbeddfaaGreat.Pure
