/- Laying all tiles of a hand: the reference's way (sets as bits, ends), plain. -/
import Derived.Test.YtkjaahmlnbgnjaaPSweepA
namespace Go.Proofs.Ytkjaahmlnbgnjaa.Pure
open Go.RowKit Go.Proofs.Ytkjaahmlnbgnjaa.Hd Go.Proofs.YtkjaahmlnbgnjaaW.PrintWords Go.Proofs.YtkjaahmlnbgnjaaW.PrintLast
set_option linter.unusedVariables false
set_option linter.unusedSimpArgs false
def bitq (s i : Nat) : Nat := s / 2 ^ i
def shlN (a i : Nat) : Nat := a * 2 ^ i
def clr (s i : Nat) : Nat := if bitq s i % 2 = 1 then s - 2 ^ i else s
theorem clr_bits : ∀ s < 256, ∀ i < 8, (bitq s i % 2 = 1 → clr s i < s) ∧ clr s i ≤ s ∧ ∀ j < 8, bitq (clr s i) j % 2 = if j = i then 0 else bitq s j % 2 := of_decide_eq_true (by kernel_rfl)
/-- The tiles of a set. -/
def subH : List S_Tile → Nat → List S_Tile
  | [], _ => []
  | t :: r, s => (if s % 2 = 1 then [t] else []) ++ subH r (s / 2)
theorem bitq_succ (s i : Nat) : bitq s (i + 1) = bitq (s / 2) i := by
  unfold bitq
  rw [Nat.pow_succ, Nat.mul_comm, Nat.div_div_eq_div_mul]
theorem bitq_zero (s : Nat) : bitq s 0 = s := by unfold bitq; simp
theorem subH_mem : ∀ (h : List S_Tile) (s : Nat) (x : S_Tile), x ∈ subH h s ↔ ∃ (i : Nat) (hi : i < h.length), bitq s i % 2 = 1 ∧ h[i] = x := by
  intro h
  induction h with
  | nil => intro s x; simp [subH]
  | cons t r ih =>
    intro s x
    simp only [subH]
    rw [List.mem_append, ih]
    constructor
    · rintro (h1 | ⟨i, hi, hb, hx⟩)
      · split at h1
        · rename_i hc
          rw [List.mem_singleton] at h1
          exact ⟨0, by simp, by rw [bitq_zero]; exact hc, by simp [h1]⟩
        · exact absurd h1 List.not_mem_nil
      · exact ⟨i + 1, by simp; exact hi, by rw [bitq_succ]; exact hb, by simpa using hx⟩
    · rintro ⟨i, hi, hb, hx⟩
      rcases i with _ | i
      · left
        rw [bitq_zero] at hb
        rw [if_pos hb, List.mem_singleton]
        simpa using hx.symm
      · right
        exact ⟨i, by simpa using hi, by rw [bitq_succ] at hb; exact hb, by simpa using hx⟩
theorem subH_len : ∀ (h : List S_Tile) (s : Nat), (subH h s).length ≤ h.length := by
  intro h
  induction h with
  | nil => intro s; exact Nat.le_refl _
  | cons t r ih =>
    intro s
    have := ih (s / 2)
    simp only [subH]
    rw [List.length_append]
    split <;> simp <;> omega
/-- Whether all tiles can be laid at two ends. -/
def swS : Nat → List S_Tile → Int → Int → Bool
  | 0, _, _, _ => true
  | d + 1, h, l, r => decide (h.length = 0) || h.any fun t => (hasT t l && swS d (gone1 h t) (otherN t l) r) || (hasT t r && swS d (gone1 h t) l (otherN t r))
theorem any_same {p q : S_Tile → Bool} {h h' : List S_Tile} (hm : ∀ x, x ∈ h ↔ x ∈ h') (hp : ∀ x ∈ h, p x = q x) : h.any p = h'.any q := by
  rw [Bool.eq_iff_iff, List.any_eq_true, List.any_eq_true]
  constructor
  · rintro ⟨x, hx, h1⟩; exact ⟨x, (hm x).1 hx, by rw [← hp x hx]; exact h1⟩
  · rintro ⟨x, hx, h1⟩; exact ⟨x, (hm x).2 hx, by rw [hp x ((hm x).2 hx)]; exact h1⟩
theorem gone1_mem_iff (h : List S_Tile) (t x : S_Tile) : x ∈ gone1 h t ↔ x ∈ h ∧ x ≠ t := by
  unfold gone1
  rw [List.mem_filter, outT_iff]
theorem len0_same {h h' : List S_Tile} (hm : ∀ x, x ∈ h ↔ x ∈ h') : decide (h.length = 0) = decide (h'.length = 0) := by
  rw [decide_eq_decide, List.length_eq_zero_iff, List.length_eq_zero_iff, List.eq_nil_iff_forall_not_mem, List.eq_nil_iff_forall_not_mem]
  exact ⟨fun h1 x hx => h1 x ((hm x).2 hx), fun h1 x hx => h1 x ((hm x).1 hx)⟩
/-- Only the members count. -/
theorem swS_same : ∀ (d : Nat) (h h' : List S_Tile) (l r : Int), (∀ x, x ∈ h ↔ x ∈ h') → swS d h l r = swS d h' l r := by
  intro d
  induction d with
  | zero => intro h h' l r _; rfl
  | succ d ih =>
    intro h h' l r hm
    simp only [swS]
    rw [len0_same hm, any_same hm (fun x _ => by
      have hg : ∀ y, y ∈ gone1 h x ↔ y ∈ gone1 h' x := fun y => by rw [gone1_mem_iff, gone1_mem_iff, hm]
      rw [ih _ _ (otherN x l) r hg, ih _ _ l (otherN x r) hg])]
theorem swS_more : ∀ (d : Nat) (h : List S_Tile) (l r : Int), h.length < d → swS (d + 1) h l r = swS d h l r := by
  intro d
  induction d with
  | zero => intro h l r hd; omega
  | succ d ih =>
    intro h l r hd
    rw [show swS (d + 1 + 1) h l r = (decide (h.length = 0) || h.any fun t => (hasT t l && swS (d + 1) (gone1 h t) (otherN t l) r) || (hasT t r && swS (d + 1) (gone1 h t) l (otherN t r))) from rfl]
    rw [show swS (d + 1) h l r = (decide (h.length = 0) || h.any fun t => (hasT t l && swS d (gone1 h t) (otherN t l) r) || (hasT t r && swS d (gone1 h t) l (otherN t r))) from rfl]
    congr 1
    refine any_same (fun _ => Iff.rfl) (fun x hx => ?_)
    have := gone1_lt hx
    rw [ih _ _ _ (by omega), ih _ _ _ (by omega)]
def sw (h : List S_Tile) (l r : Int) : Bool := swS 9 h l r
def optS (h : List S_Tile) (t : S_Tile) (l r : Int) : Bool := (hasT t l && sw (gone1 h t) (otherN t l) r) || (hasT t r && sw (gone1 h t) l (otherN t r))
theorem sw_step {h : List S_Tile} (hl : h.length ≤ 8) (l r : Int) : sw h l r = (decide (h.length = 0) || h.any fun t => optS h t l r) := by
  unfold sw optS sw
  rw [← swS_more 9 h l r (by omega)]
  rfl
/-- One end of a tile, as the reference looks at it. -/
def endS (hand : List S_Tile) (s : Nat) (t : S_Tile) (n l r : Int) : Bool := (n == l && sw (subH hand s) (otherN t n) r) || (n == r && sw (subH hand s) l (otherN t n))
theorem opt_ends {hand : List S_Tile} (hn : hand.Nodup) (h8 : hand.length ≤ 8) {s i : Nat} (hs : s < 256) (hi : i < hand.length) (l r : Int) : optS (subH hand s) hand[i] l r = (endS hand (clr s i) hand[i] hand[i].f0 l r || endS hand (clr s i) hand[i] hand[i].f1 l r) := by
  have hm : ∀ x, x ∈ gone1 (subH hand s) hand[i] ↔ x ∈ subH hand (clr s i) := by
    intro x
    rw [gone1_mem_iff, subH_mem, subH_mem]
    have hb := (clr_bits s hs i (by omega)).2.2
    constructor
    · rintro ⟨⟨j, hj, h1, h2⟩, hne⟩
      refine ⟨j, hj, ?_, h2⟩
      rw [hb j (by omega), if_neg (fun e => by subst e; exact hne h2.symm)]
      exact h1
    · rintro ⟨j, hj, h1, h2⟩
      rw [hb j (by omega)] at h1
      split at h1
      · omega
      · rename_i hne
        refine ⟨⟨j, hj, h1, h2⟩, fun e => ?_⟩
        rw [← h2] at e
        exact hne ((List.getElem_inj hn).1 e)
  have e : ∀ a b : Int, sw (gone1 (subH hand s) hand[i]) a b = sw (subH hand (clr s i)) a b := fun a b => swS_same 9 _ _ a b hm
  unfold optS endS hasT
  rw [e, e]
  generalize hand[i] = t
  have k : ∀ (n m : Int) (f : Int → Bool), ((n == m) && f n) = ((n == m) && f m) := by
    intro n m f
    by_cases q : n = m
    · subst q; rfl
    · rw [beq_eq_false_iff_ne.2 q]; rfl
  rw [k t.f0 l (fun n => sw (subH hand (clr s i)) (otherN t n) r), k t.f0 r (fun n => sw (subH hand (clr s i)) l (otherN t n)), k t.f1 l (fun n => sw (subH hand (clr s i)) (otherN t n) r), k t.f1 r (fun n => sw (subH hand (clr s i)) l (otherN t n))]
  generalize sw (subH hand (clr s i)) (otherN t l) r = x
  generalize sw (subH hand (clr s i)) l (otherN t r) = y
  generalize (t.f0 == l) = a
  generalize (t.f1 == l) = b
  generalize (t.f0 == r) = c
  generalize (t.f1 == r) = d
  revert a b c d x y
  decide
/-- The places in the table of failed states. -/
def atS (s : Nat) (l r : Int) : Int := ((s : Int) * 10 + l) * 10 + r
def inR (n : Nat) (s : Nat) (l r : Int) : Prop := s < 2 ^ n ∧ 0 ≤ l ∧ l ≤ 9 ∧ 0 ≤ r ∧ r ≤ 9
def mk (sn : List Bool) (s : Nat) (l r : Int) : Bool := rdOf false sn (atS s l r)
end Go.Proofs.Ytkjaahmlnbgnjaa.Pure
