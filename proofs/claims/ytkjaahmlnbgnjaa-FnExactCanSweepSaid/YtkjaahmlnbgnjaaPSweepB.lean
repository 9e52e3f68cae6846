/- Laying all tiles of a hand: the program's way is the reference's, plain. -/
import Derived.Test.YtkjaahmlnbgnjaaPSweepS
namespace Go.Proofs.Ytkjaahmlnbgnjaa.Pure
open Go.RowKit Go.Proofs.Ytkjaahmlnbgnjaa.Hd Go.Proofs.YtkjaahmlnbgnjaaW.PrintWords Go.Proofs.YtkjaahmlnbgnjaaW.PrintLast
set_option linter.unusedVariables false
set_option linter.unusedSimpArgs false
theorem less_gone {h : List S_Tile} (hh : handB h = true) (t x : S_Tile) : x ∈ lessS h [t] ↔ x ∈ gone1 h t := by
  rw [lessS_mem hh, gone1_mem_iff, List.mem_singleton]
theorem rowP_front {r : List Int} (h : r.length ≠ 0) (t : S_Tile) : rowP r ⟨t, true, false⟩ = otherN t (endA r) :: r := by
  unfold rowP
  rw [if_neg h, if_pos rfl]
  rfl
theorem rowP_back {r : List Int} (h : r.length ≠ 0) (t : S_Tile) : rowP r ⟨t, false, false⟩ = r ++ [otherN t (endB r)] := by
  unfold rowP
  rw [if_neg h, if_neg (by simp)]
theorem endA_cons (a : Int) (r : List Int) : endA (a :: r) = a := rfl
theorem endB_cons (a : Int) {r : List Int} (h : r.length ≠ 0) : endB (a :: r) = endB r := by
  obtain ⟨b, q, rfl⟩ : ∃ b q, r = b :: q := by cases r with
    | nil => exact absurd rfl h
    | cons b q => exact ⟨b, q, rfl⟩
  unfold endB rd
  rw [List.length_cons, List.length_cons, show (((q.length + 1 + 1 : Nat) : Int) - 1).toNat = q.length + 1 by omega, show (((q.length + 1 : Nat) : Int) - 1).toNat = q.length by omega]
  rfl
theorem endA_snoc {r : List Int} (h : r.length ≠ 0) (b : Int) : endA (r ++ [b]) = endA r := by
  cases r with
  | nil => exact absurd rfl h
  | cons c q => rfl
theorem endB_snoc (r : List Int) (b : Int) : endB (r ++ [b]) = b := by
  unfold endB rd
  rw [List.length_append, show (((r.length + [b].length : Nat) : Int) - 1).toNat = r.length by simp]
  simp
theorem swI_sw : ∀ (d : Nat) (h : List S_Tile) (r : List Int), handB h = true → r.length ≠ 0 → swI d h r = swS d h (endA r) (endB r) := by
  intro d
  induction d with
  | zero => intro h r _ _; rfl
  | succ d ih =>
    intro h r hh hr
    rw [swI_succ]
    simp only [swS]
    by_cases h0 : h.length = 0
    · rw [if_pos h0, decide_eq_true h0, Bool.true_or]
    · rw [if_neg h0, decide_eq_false h0, Bool.false_or]
      unfold fitTo
      rw [List.take_length, List.any_flatMap]
      refine any_same (fun x => (sortT_perm hh).mem_iff) (fun x hx => ?_)
      have e1 : stepI d h r ⟨x, true, false⟩ = swS d (gone1 h x) (otherN x (endA r)) (endB r) := by
        unfold stepI
        rw [rowP_front hr, ih _ _ (lessS_hand hh _) (by simp), endA_cons, endB_cons _ hr]
        exact swS_same _ _ _ _ _ (less_gone hh x)
      have e2 : stepI d h r ⟨x, false, false⟩ = swS d (gone1 h x) (endA r) (otherN x (endB r)) := by
        unfold stepI
        rw [rowP_back hr, ih _ _ (lessS_hand hh _) (by simp), endA_snoc hr, endB_snoc]
        exact swS_same _ _ _ _ _ (less_gone hh x)
      rw [← e1, ← e2]
      unfold fitL
      rw [if_neg hr, List.any_append]
      cases hasT x (endA r) <;> cases hasT x (endB r) <;> simp
/-- Behind an empty row. -/
def first0 (h : List S_Tile) : Bool := decide (h.length = 0) || h.any fun t => sw (gone1 h t) t.f0 t.f1
theorem swS_up {h : List S_Tile} (h8 : h.length < 8) (l r : Int) : swS 8 h l r = sw h l r := (swS_more 8 h l r h8).symm
theorem swI_row {h : List S_Tile} (hh : handB h = true) {r : List Int} (hr : r.length ≠ 0) : swI 9 h r = sw h (endA r) (endB r) := swI_sw 9 h r hh hr
theorem swI_empty {h : List S_Tile} (hh : handB h = true) (h8 : h.length ≤ 8) : swI 9 h [] = first0 h := by
  rw [swI_succ]
  unfold first0
  by_cases h0 : h.length = 0
  · rw [if_pos h0, decide_eq_true h0, Bool.true_or]
  · rw [if_neg h0, decide_eq_false h0, Bool.false_or]
    unfold fitTo
    rw [List.take_length, List.any_flatMap]
    refine any_same (fun x => (sortT_perm hh).mem_iff) (fun x hx => ?_)
    have hx' := (sortT_perm hh).mem_iff.1 hx
    have e1 : stepI 8 h [] ⟨x, true, false⟩ = sw (gone1 h x) x.f0 x.f1 := by
      unfold stepI
      rw [show rowP [] ⟨x, true, false⟩ = [x.f0, x.f1] from rfl, swI_sw 8 _ _ (lessS_hand hh _) (by simp), swS_same 8 _ (gone1 h x) _ _ (less_gone hh x), swS_up (by have := gone1_lt hx'; omega)]
      rfl
    rw [← e1]
    unfold fitL
    rw [if_pos (show ([] : List Int).length = 0 from rfl), List.any_cons, List.any_nil, Bool.or_false]
/-- Sets of tiles. -/
theorem subH_none {h : List S_Tile} {s : Nat} (hs : s < 2 ^ h.length) : (subH h s).length = 0 ↔ s = 0 := by
  rw [List.length_eq_zero_iff]
  induction h generalizing s with
  | nil =>
    have : s < 1 := hs
    simp [subH]
    omega
  | cons t r ih =>
    have hs2 : s / 2 < 2 ^ r.length := by
      rw [List.length_cons, Nat.pow_succ] at hs
      omega
    have := ih hs2
    simp only [subH]
    by_cases h1 : s % 2 = 1
    · rw [if_pos h1]; simp; omega
    · rw [if_neg h1, List.nil_append, this]; omega
theorem subH_all : ∀ (h : List S_Tile) (x : S_Tile), x ∈ subH h (2 ^ h.length - 1) ↔ x ∈ h := by
  intro h
  induction h with
  | nil => intro x; simp [subH]
  | cons t r ih =>
    intro x
    have h2 : 2 ^ (t :: r).length = 2 * 2 ^ r.length := by rw [List.length_cons, Nat.pow_succ, Nat.mul_comm]
    have h3 : 1 ≤ 2 ^ r.length := Nat.one_le_two_pow
    simp only [subH]
    rw [h2, if_pos (by omega), show (2 * 2 ^ r.length - 1) / 2 = 2 ^ r.length - 1 by omega, List.mem_append, ih]
    simp
theorem pow_all : ∀ n ≤ 8, 2 ^ n ≤ 256 ∧ 1 ≤ 2 ^ n := of_decide_eq_true (by kernel_rfl)
theorem gone_clr {hand : List S_Tile} (hn : hand.Nodup) (h8 : hand.length ≤ 8) {s i : Nat} (hs : s < 256) (hi : i < hand.length) (x : S_Tile) : x ∈ gone1 (subH hand s) hand[i] ↔ x ∈ subH hand (clr s i) := by
  rw [gone1_mem_iff, subH_mem, subH_mem]
  have hb := (clr_bits s hs i (by omega)).2.2
  constructor
  · rintro ⟨⟨j, hj, h1, h2⟩, hne⟩
    refine ⟨j, hj, ?_, h2⟩
    rw [hb j (by omega), if_neg (fun e => by subst e; exact hne h2.symm)]
    exact h1
  · rintro ⟨j, hj, h1, h2⟩
    rw [hb j (by omega)] at h1
    split at h1
    · omega
    · rename_i hne
      refine ⟨⟨j, hj, h1, h2⟩, fun e => ?_⟩
      rw [← h2] at e
      exact hne ((List.getElem_inj hn).1 e)
theorem sw_all_set {hand : List S_Tile} (l r : Int) : sw (subH hand (2 ^ hand.length - 1)) l r = sw hand l r := swS_same 9 _ _ _ _ (subH_all hand)
theorem sw_first {hand : List S_Tile} (hn : hand.Nodup) (h8 : hand.length ≤ 8) {i : Nat} (hi : i < hand.length) (l r : Int) : sw (subH hand (clr (2 ^ hand.length - 1) i)) l r = sw (gone1 hand hand[i]) l r := by
  refine swS_same 9 _ _ _ _ (fun x => ?_)
  rw [← gone_clr hn h8 (by have := pow_all hand.length h8; omega) hi, gone1_mem_iff, gone1_mem_iff, subH_all]
theorem opt_mem {hand : List S_Tile} {s i : Nat} (hi : i < hand.length) (hb : bitq s i % 2 = 1) : hand[i] ∈ subH hand s := (subH_mem hand s _).2 ⟨i, hi, hb, rfl⟩
/-- A set from which there is a way: some tile of it can be laid. -/
theorem sw_yes {hand : List S_Tile} (hn : hand.Nodup) (h8 : hand.length ≤ 8) {s i : Nat} (hs : s < 256) (hi : i < hand.length) (hb : bitq s i % 2 = 1) {l r : Int} (ho : endS hand (clr s i) hand[i] hand[i].f0 l r = true ∨ endS hand (clr s i) hand[i] hand[i].f1 l r = true) : sw (subH hand s) l r = true := by
  rw [sw_step (Nat.le_trans (subH_len hand s) h8), Bool.or_eq_true]
  right
  refine List.any_eq_true.2 ⟨hand[i], opt_mem hi hb, ?_⟩
  rw [opt_ends hn h8 hs hi, Bool.or_eq_true]
  exact ho
theorem sw_no {hand : List S_Tile} (hn : hand.Nodup) (h8 : hand.length ≤ 8) {s : Nat} (hs : s < 2 ^ hand.length) (h0 : s ≠ 0) {l r : Int} (ho : ∀ i (hi : i < hand.length), bitq s i % 2 = 1 → endS hand (clr s i) hand[i] hand[i].f0 l r = false ∧ endS hand (clr s i) hand[i] hand[i].f1 l r = false) : sw (subH hand s) l r = false := by
  have hp := (pow_all hand.length h8).1
  rw [sw_step (Nat.le_trans (subH_len hand s) h8), decide_eq_false (fun q => h0 ((subH_none hs).1 q)), Bool.false_or, List.any_eq_false]
  intro x hx
  obtain ⟨i, hi, hb, rfl⟩ := (subH_mem hand s x).1 hx
  rw [opt_ends hn h8 (by omega) hi, (ho i hi hb).1, (ho i hi hb).2]
  simp
theorem sw_zero (hand : List S_Tile) (l r : Int) : sw (subH hand 0) l r = true := by
  have : subH hand 0 = [] := List.length_eq_zero_iff.1 ((subH_none (Nat.pos_of_ne_zero (by have := @Nat.one_le_two_pow hand.length; omega))).2 rfl)
  rw [this]
  rfl
end Go.Proofs.Ytkjaahmlnbgnjaa.Pure
