/- Dealing two hands: plain. -/
import Derived.Test.YtdcjapdkbocgmaaPSortT
import Derived.Test.YtdcjapdkbocgmaaPWithin
import Derived.Test.YtdcjapdkbocgmaaMSorted2
import Derived.Test.YtdcjapdkbocgmaaG0
import Derived.Test.YtdcjapdkbocgmaaG1
import Derived.Test.YtdcjapdkbocgmaaG1
import Derived.Test.YtdcjapdkbocgmaaG1
import Derived.Test.YtdcjapdkbocgmaaG1
namespace Go.Proofs.Ytdcjapdkbocgmaa.Pure
open Go.RowKit Go.Proofs.Ytdcjapdkbocgmaa.Hd Go.Proofs.YtdcjapdkbocgmaaW.PrintWords Go.Proofs.YtdcjapdkbocgmaaW.PrintLast
set_option linter.unusedVariables false
set_option linter.unusedSimpArgs false
theorem inB_iff {a b n : Int} : inB a b n = true ↔ a ≤ n ∧ n ≤ b := by unfold inB; simp only [Bool.and_eq_true, decide_eq_true_eq]
structure DealSt where
  left : List S_Tile
  a : List S_Tile
  b : List S_Tile
  z : Int
def dealI (s : DealSt) : Nat := (((s.z * 163 + 229) % 10007) % (s.left.length : Int)).toNat
def dealT (s : DealSt) : S_Tile := rd_Tile s.left (dealI s : Int)
def dealStep (k : Nat) (s : DealSt) : DealSt := ⟨s.left.eraseIdx (dealI s), if k % 2 = 0 then s.a ++ [dealT s] else s.a, if k % 2 = 0 then s.b else s.b ++ [dealT s], (s.z * 163 + 229) % 10007⟩
def dealS (L : List S_Tile) (z : Int) : Nat → DealSt
  | 0 => ⟨L, [], [], z⟩
  | k + 1 => dealStep k (dealS L z k)
theorem dealI_eq (s : DealSt) (h : 0 < s.left.length) : (dealI s : Int) = ((s.z * 163 + 229) % 10007) % (s.left.length : Int) := by
  unfold dealI
  exact Int.toNat_of_nonneg (Int.emod_nonneg _ (by omega))
theorem dealI_lt (s : DealSt) (h : 0 < s.left.length) : dealI s < s.left.length := by
  have h1 := dealI_eq s h
  have h2 := Int.emod_lt_of_pos ((s.z * 163 + 229) % 10007) (b := (s.left.length : Int)) (by omega)
  omega
theorem deal_z (L : List S_Tile) (z : Int) (h : 0 ≤ z ∧ z ≤ 10006) (k : Nat) : 0 ≤ (dealS L z k).z ∧ (dealS L z k).z ≤ 10006 := by
  cases k with
  | zero => exact h
  | succ k => simp only [dealS, dealStep]; omega
theorem era_perm {α : Type} : ∀ (l : List α) (i : Nat) (h : i < l.length), (l[i] :: l.eraseIdx i).Perm l := by
  intro l
  induction l with
  | nil => intro i h; exact absurd h (by simp)
  | cons x xs ih =>
    intro i h
    cases i with
    | zero => exact List.Perm.refl _
    | succ i => exact (List.Perm.swap x _ _).trans ((ih i (by simp at h; omega)).cons x)
/-- What the deal keeps: the tiles are L's. -/
theorem deal_keeps (L : List S_Tile) (z : Int) : ∀ k, k ≤ L.length → (dealS L z k).left.length + k = L.length ∧ ((dealS L z k).left ++ ((dealS L z k).a ++ (dealS L z k).b)).Perm L := by
  intro k
  induction k with
  | zero => intro _; simp [dealS]
  | succ k ih =>
    intro hk
    obtain ⟨h1, h2⟩ := ih (by omega)
    generalize hs : dealS L z k = s at h1 h2
    have hlt := dealI_lt s (by omega)
    have e : dealT s = s.left[dealI s] := by unfold dealT rd_Tile; rw [Int.toNat_natCast]; simp [hlt]
    have hp : (s.left.eraseIdx (dealI s) ++ (s.a ++ s.b ++ [dealT s])).Perm L := by
      refine List.Perm.trans ?_ h2
      rw [e]
      have q := era_perm s.left (dealI s) hlt
      have q2 : (s.left.eraseIdx (dealI s) ++ (s.a ++ s.b ++ [s.left[dealI s]])).Perm ((s.left[dealI s] :: s.left.eraseIdx (dealI s)) ++ (s.a ++ s.b)) := by
        rw [← List.append_assoc]
        refine (List.perm_append_comm).trans ?_
        simp
      exact q2.trans (q.append_right _)
    have hl : (s.left.eraseIdx (dealI s)).length = s.left.length - 1 := List.length_eraseIdx_of_lt hlt
    refine ⟨?_, ?_⟩
    · simp only [dealS, dealStep, hs]
      rw [hl]; omega
    · simp only [dealS, dealStep, hs]
      by_cases hk2 : k % 2 = 0
      · rw [if_pos hk2, if_pos hk2]
        refine List.Perm.trans (List.Perm.append_left _ ?_) hp
        rw [List.append_assoc, List.append_assoc]
        exact List.Perm.append_left _ List.perm_append_comm
      · rw [if_neg hk2, if_neg hk2, ← List.append_assoc s.a]
        exact hp
theorem deal_len (L : List S_Tile) (z : Int) (k : Nat) (h : k ≤ L.length) : (dealS L z k).left.length = L.length - k := by have := (deal_keeps L z k h).1; omega
theorem deal_alen (L : List S_Tile) (z : Int) (k : Nat) (h : k ≤ L.length) : (dealS L z k).a.length ≤ k ∧ (dealS L z k).b.length ≤ k := by
  have h1 := deal_keeps L z k h
  have h2 := h1.2.length_eq
  simp only [List.length_append] at h2
  omega
theorem deal_good (n : Nat) (hn : n ≤ 9) (z : Int) (k : Nat) (h : k ≤ (setT n).length) (t : S_Tile) (ht : t ∈ (dealS (setT n) z k).a ∨ t ∈ (dealS (setT n) z k).b) : goodT t = true := by
  have h1 := (deal_keeps (setT n) z k h).2
  have : t ∈ setT n := h1.subset (by simp only [List.mem_append]; rcases ht with h | h <;> simp [h])
  rw [setT_mem] at this
  unfold goodT
  simp only [Bool.and_eq_true, decide_eq_true_eq]
  omega
theorem setT_nodup {n : Nat} (h : n ≤ 9) : (setT n).Nodup := by
  have h1 : (List.range 10).all (fun n => decide ((setT n).Nodup)) = true := by kernel_rfl
  rw [List.all_eq_true] at h1
  exact of_decide_eq_true (h1 n (List.mem_range.2 (by omega)))
theorem deal_nodup (n : Nat) (hn : n ≤ 9) (z : Int) (k : Nat) (h : k ≤ (setT n).length) : (dealS (setT n) z k).left.Nodup ∧ (dealS (setT n) z k).a.Nodup ∧ (dealS (setT n) z k).b.Nodup := by
  have h1 := ((deal_keeps (setT n) z k h).2.nodup_iff).2 (setT_nodup hn)
  rw [List.nodup_append] at h1
  have h2 := h1.2.1
  rw [List.nodup_append] at h2
  exact ⟨h1.1, h2.1, h2.2.1⟩
theorem deal_sorted (n : Nat) (hn : n ≤ 9) (z : Int) (k : Nat) (h : k ≤ (setT n).length) : impl_sorted.f (dealS (setT n) z k).a = some (sortT (dealS (setT n) z k).a) ∧ impl_sorted.f (dealS (setT n) z k).b = some (sortT (dealS (setT n) z k).b) := by
  have hl := deal_alen (setT n) z k h
  have hs := setT_len hn
  have hd := deal_nodup n hn z k h
  exact ⟨sorted_eq (List.all_eq_true.2 fun t ht => deal_good n hn z k h t (Or.inl ht)) hd.2.1 (by omega), sorted_eq (List.all_eq_true.2 fun t ht => deal_good n hn z k h t (Or.inr ht)) hd.2.2 (by omega)⟩
def okDeal (n e z : Int) : Bool := inB 0 9 n && (inB 0 (((setT n.toNat).length : Int) / 2) e && inB 0 9999 z)
theorem okDeal_n {n e z : Int} (h : okDeal n e z = true) : n.toNat ≤ 9 ∧ 0 ≤ n ∧ 0 ≤ e ∧ (2 * e).toNat ≤ (setT n.toNat).length ∧ 0 ≤ z ∧ z ≤ 9999 := by
  unfold okDeal inB at h
  simp only [Bool.and_eq_true, decide_eq_true_eq] at h
  omega
def resDealHands (n e z : Int) : List S_Tile × List S_Tile × Bool := if okDeal n e z = true then (sortT (dealS (setT n.toNat) z (2 * e).toNat).a, sortT (dealS (setT n.toNat) z (2 * e).toNat).b, true) else ([], [], false)
theorem isNumberD (n : Int) : impl_isNumber.f n = some (inB 0 9 n) := by unfold impl_isNumber.f; rw [within_eq]; rfl
theorem tiNumberD (n : Int) : spec_tiNumber.f n = some (inB 0 9 n) := by unfold spec_tiNumber.f; rw [l1In_eq]; rfl
theorem tiSet_evZ (a : Int) (h : inB 0 9 a = true) : Ev (fun k => spec_tiSet.f k a) (setT a.toNat) := by
  unfold inB at h
  simp only [Bool.and_eq_true, decide_eq_true_eq] at h
  have q := tiSet_ev a.toNat (by omega)
  rw [Int.toNat_of_nonneg h.1] at q
  exact q
theorem setT_card {n : Nat} (h : n ≤ 9) : ((setT n).length : Int) = ((n : Int) + 1) * ((n : Int) + 2) / 2 := by
  have h1 : (List.range 10).all (fun n => decide (((setT n).length : Int) = ((n : Int) + 1) * ((n : Int) + 2) / 2)) = true := by kernel_rfl
  rw [List.all_eq_true] at h1
  exact of_decide_eq_true (h1 n (List.mem_range.2 (by omega)))
theorem okDeal_c {n e z : Int} (h : okDeal n e z = true) : inB 0 9 n = true ∧ 0 ≤ e ∧ e ≤ 55 ∧ 2 * e ≤ (n + 1) * (n + 2) / 2 ∧ inB 0 9999 z = true := by
  have h0 := okDeal_n h
  have hc := setT_card h0.1
  rw [Int.toNat_of_nonneg h0.2.1] at hc
  have hl : (setT n.toNat).length ≤ 55 := by
    have h1 : (List.range 10).all (fun n => decide ((setT n).length ≤ 55)) = true := by kernel_rfl
    rw [List.all_eq_true] at h1
    exact of_decide_eq_true (h1 n.toNat (List.mem_range.2 (by omega)))
  unfold okDeal at h
  simp only [Bool.and_eq_true] at h
  refine ⟨h.1, h0.2.2.1, by omega, by omega, h.2.2⟩
theorem okDeal_mk {n e z : Int} (h1 : inB 0 9 n = true) (h2 : 0 ≤ e) (h3 : 2 * e ≤ (n + 1) * (n + 2) / 2) (h4 : inB 0 9999 z = true) : okDeal n e z = true := by
  have h0 := h1
  unfold inB at h0
  simp only [Bool.and_eq_true, decide_eq_true_eq] at h0
  have hc := setT_card (n := n.toNat) (by omega)
  rw [Int.toNat_of_nonneg h0.1] at hc
  unfold okDeal
  rw [h1, h4, hc]
  have : inB 0 ((n + 1) * (n + 2) / 2 / 2) e = true := by unfold inB; simp only [Bool.and_eq_true, decide_eq_true_eq]; omega
  rw [this]; rfl
theorem setOf_l1g (n : Nat) (hn : n ≤ 9) (lo : Nat) (hlo : lo ≤ n) (S : List S_Tile) {B : Nat} : (hK : ∀ acc : List S_Tile, acc.length ≤ B → Ev (fun k => impl_setOf.l0 k (n : Int) acc ((n + 1 : Nat) : Int) ((lo + 1 : Nat) : Int)) (acc ++ S)) →
    ∀ (d hi : Nat) (acc : List S_Tile), hi + d = n + 1 → acc.length + d ≤ B ∧ B ≤ 1000 → Ev (fun k => impl_setOf.l1 k (n : Int) acc (lo : Int) (hi : Int) ((n + 1 : Nat) : Int) (lo : Int)) (acc ++ rowT lo hi d ++ S) := by
  intro hK d
  induction d with
  | zero =>
    intro hi acc h1 h2
    refine Ev.succ ?_
    simp only [impl_setOf.l1]
    refine Ev.neg (by omega) ?_
    rw [w64' (n := (lo : Int) + 1) (m := ((lo + 1 : Nat) : Int)) (by omega) (by omega) (by omega)]
    simp only [rowT, List.append_nil]
    exact hK acc (by omega)
  | succ d ih =>
    intro hi acc h1 h2
    refine Ev.succ ?_
    simp only [impl_setOf.l1]
    refine Ev.pos (by omega) (Ev.pos (by omega) ?_)
    rw [w64' (n := (hi : Int) + 1) (m := ((hi + 1 : Nat) : Int)) (by omega) (by omega) (by omega)]
    have q := ih (hi + 1) (acc ++ [⟨lo, hi⟩]) (by omega) (by simp; omega)
    simp only [rowT]
    have e : acc ++ [(⟨lo, hi⟩ : S_Tile)] ++ rowT lo (hi + 1) d ++ S = acc ++ (⟨lo, hi⟩ :: rowT lo (hi + 1) d) ++ S := by simp
    rw [e] at q
    exact q
theorem setOf_l0 (n : Nat) (hn : n ≤ 9) : ∀ (d lo : Nat) (acc : List S_Tile), lo + d = n + 1 → acc.length + 11 * d ≤ 900 → Ev (fun k => impl_setOf.l0 k (n : Int) acc ((n + 1 : Nat) : Int) (lo : Int)) (acc ++ rowsT n lo d) := by
  intro d
  induction d with
  | zero =>
    intro lo acc h1 h2
    refine Ev.succ ?_
    simp only [impl_setOf.l0]
    exact Ev.neg (by omega) (Ev.ret (by simp [rowsT]))
  | succ d ih =>
    intro lo acc h1 h2
    refine Ev.succ ?_
    simp only [impl_setOf.l0]
    refine Ev.pos (by omega) ?_
    simp only [rowsT, ← List.append_assoc]
    have hr := rowT_len lo lo (n + 1 - lo)
    refine setOf_l1g n hn lo (by omega) (rowsT n (lo + 1) d) (B := 900 - 11 * d) (fun acc' h => ih (lo + 1) acc' (by omega) (by omega)) (n + 1 - lo) lo acc (by omega) (by omega)
theorem setOf_ev (a : Int) (h : inB 0 9 a = true) : Ev (fun k => impl_setOf.f k a) (setT a.toNat) := by
  unfold inB at h
  simp only [Bool.and_eq_true, decide_eq_true_eq] at h
  have q := setOf_l0 a.toNat (by omega) (a.toNat + 1) 0 [] (by omega) (by simp; omega)
  unfold impl_setOf.f setT
  rw [w64' (n := a + 1) (m := ((a.toNat + 1 : Nat) : Int)) (by omega) (by omega) (by omega)]
  rw [Int.toNat_of_nonneg h.1] at q
  simpa using q
end Go.Proofs.Ytdcjapdkbocgmaa.Pure
