/- The table of failed states, plain. -/
import Derived.Test.YtkjaahmlnbgnjaaPSweepB
namespace Go.Proofs.Ytkjaahmlnbgnjaa.Pure
open Go.RowKit Go.Proofs.Ytkjaahmlnbgnjaa.Hd Go.Proofs.YtkjaahmlnbgnjaaW.PrintWords Go.Proofs.YtkjaahmlnbgnjaaW.PrintLast
set_option linter.unusedVariables false
set_option linter.unusedSimpArgs false
/-- Marks that lie there: of greater sets (those are under way), or of states that fail. -/
def OldOk (h : List S_Tile) (sn : List Bool) (s0 : Nat) : Prop := ∀ (s : Nat) (l r : Int), inR h.length s l r → mk sn s l r = true → s0 < s ∨ sw (subH h s) l r = false
/-- Marks that came in are of states that fail. -/
def ExtT (h : List S_Tile) (sn sn2 : List Bool) : Prop := ∀ (s : Nat) (l r : Int), inR h.length s l r → mk sn2 s l r = true → mk sn s l r = true ∨ sw (subH h s) l r = false
theorem ExtT.refl (h : List S_Tile) (sn : List Bool) : ExtT h sn sn := fun _ _ _ _ q => .inl q
theorem ExtT.trans {h : List S_Tile} {a b c : List Bool} (h1 : ExtT h a b) (h2 : ExtT h b c) : ExtT h a c := fun s l r hr q => by
  rcases h2 s l r hr q with q | q
  · exact h1 s l r hr q
  · exact .inr q
theorem atS_inj {s s2 : Nat} {l r l2 r2 : Int} (h1 : 0 ≤ l ∧ l ≤ 9 ∧ 0 ≤ r ∧ r ≤ 9) (h2 : 0 ≤ l2 ∧ l2 ≤ 9 ∧ 0 ≤ r2 ∧ r2 ≤ 9) (h : atS s l r = atS s2 l2 r2) : s = s2 ∧ l = l2 ∧ r = r2 := by
  unfold atS at h
  omega
theorem mk_set {sn : List Bool} {s s2 : Nat} {l r l2 r2 : Int} (h1 : 0 ≤ l ∧ l ≤ 9 ∧ 0 ≤ r ∧ r ≤ 9) (h2 : 0 ≤ l2 ∧ l2 ≤ 9 ∧ 0 ≤ r2 ∧ r2 ≤ 9) (h : mk (sn.set (atS s l r).toNat true) s2 l2 r2 = true) : (s2 = s ∧ l2 = l ∧ r2 = r) ∨ mk sn s2 l2 r2 = true := by
  by_cases e : (atS s2 l2 r2) = atS s l r
  · left
    exact atS_inj h2 h1 e
  · right
    unfold mk rdOf at h ⊢
    rw [List.getD_eq_getElem?_getD] at h ⊢
    rw [List.getElem?_set_ne] at h
    · exact h
    · intro q
      apply e
      unfold atS at q ⊢
      omega
theorem OldOk.mark {h : List S_Tile} {sn : List Bool} {s c : Nat} {l r : Int} (hO : OldOk h sn s) (h1 : 0 ≤ l ∧ l ≤ 9 ∧ 0 ≤ r ∧ r ≤ 9) (hc : c < s) : OldOk h (sn.set (atS s l r).toNat true) c := by
  intro s2 l2 r2 hr q
  rcases mk_set h1 hr.2 q with ⟨rfl, rfl, rfl⟩ | q
  · exact .inl hc
  · rcases hO s2 l2 r2 hr q with q | q
    · exact .inl (by omega)
    · exact .inr q
theorem OldOk.ext {h : List S_Tile} {sn sn2 : List Bool} {c : Nat} (hO : OldOk h sn c) (hE : ExtT h sn sn2) : OldOk h sn2 c := by
  intro s l r hr q
  rcases hE s l r hr q with q | q
  · exact hO s l r hr q
  · exact .inr q
theorem ExtT.fails {h : List S_Tile} {sn sn2 : List Bool} {s : Nat} {l r : Int} (h1 : 0 ≤ l ∧ l ≤ 9 ∧ 0 ≤ r ∧ r ≤ 9) (hE : ExtT h (sn.set (atS s l r).toNat true) sn2) (hf : sw (subH h s) l r = false) : ExtT h sn sn2 := by
  intro s2 l2 r2 hr q
  rcases hE s2 l2 r2 hr q with q | q
  · rcases mk_set h1 hr.2 q with ⟨rfl, rfl, rfl⟩ | q
    · exact .inr hf
    · exact .inl q
  · exact .inr q
theorem OldOk.seen {h : List S_Tile} {sn : List Bool} {s : Nat} {l r : Int} (hO : OldOk h sn s) (hr : inR h.length s l r) (hm : mk sn s l r = true) : sw (subH h s) l r = false := by
  rcases hO s l r hr hm with q | q
  · omega
  · exact q
theorem mk_zero (n s : Nat) (l r : Int) : mk (List.replicate n false) s l r = false := by
  unfold mk rdOf
  rw [List.getD_eq_getElem?_getD, List.getElem?_replicate]
  split <;> rfl
theorem OldOk.zero (h : List S_Tile) (n s : Nat) : OldOk h (List.replicate n false) s := fun s2 l r _ q => by rw [mk_zero] at q; cases q
/-- The ends of a tile, as the reference's loop takes them. -/
def endN (t : S_Tile) (k : Nat) : Int := rd [t.f0, t.f1] (k : Int)
theorem endN_cases (t : S_Tile) (k : Nat) (hk : k < 2) : (k = 0 ∧ endN t k = t.f0) ∨ (k = 1 ∧ endN t k = t.f1) := by
  rcases k with _ | _ | k
  · exact .inl ⟨rfl, rfl⟩
  · exact .inr ⟨rfl, rfl⟩
  · omega
theorem endN_bd {t : S_Tile} (hg : goodT t = true) {k : Nat} (hk : k < 2) : 0 ≤ endN t k ∧ endN t k ≤ 9 ∧ 0 ≤ otherN t (endN t k) ∧ otherN t (endN t k) ≤ 9 := by
  unfold goodT at hg
  simp only [Bool.and_eq_true, decide_eq_true_eq] at hg
  unfold otherN
  rcases endN_cases t k hk with ⟨-, q⟩ | ⟨-, q⟩ <;> rw [q] <;> omega
theorem rdTile_lt {h : List S_Tile} {i : Nat} (hi : i < h.length) : rd_Tile h (i : Int) = h[i] := by unfold rd_Tile; rw [Int.toNat_natCast]; simp [hi]
theorem sw_yesR {h : List S_Tile} (hn : h.Nodup) (h8 : h.length ≤ 8) {s i k : Nat} (hs : s < 256) (hi : i < h.length) (hk : k < 2) (hb : bitq s i % 2 = 1) {l r : Int} (ho : endS h (clr s i) (rd_Tile h (i : Int)) (endN (rd_Tile h (i : Int)) k) l r = true) : sw (subH h s) l r = true := by
  rw [rdTile_lt hi] at ho
  refine sw_yes hn h8 hs hi hb ?_
  rcases endN_cases h[i] k hk with ⟨-, q⟩ | ⟨-, q⟩ <;> rw [q] at ho
  · exact .inl ho
  · exact .inr ho
theorem sw_noR {h : List S_Tile} (hn : h.Nodup) (h8 : h.length ≤ 8) {s : Nat} (hs : s < 2 ^ h.length) (h0 : s ≠ 0) {l r : Int} (ho : ∀ i, i < h.length → bitq s i % 2 = 1 → ∀ k, k < 2 → endS h (clr s i) (rd_Tile h (i : Int)) (endN (rd_Tile h (i : Int)) k) l r = false) : sw (subH h s) l r = false := by
  refine sw_no hn h8 hs h0 (fun i hi hb => ?_)
  have e0 := ho i hi hb 0 (by omega)
  have e1 := ho i hi hb 1 (by omega)
  rw [rdTile_lt hi] at e0 e1
  exact ⟨e0, e1⟩
theorem bit_of {s i : Nat} (h : (((bitq s i : Nat) : Int) % 2 == 0) = false) : bitq s i % 2 = 1 := by
  have := beq_eq_false_iff_ne.1 h
  omega
theorem bit_no {s i : Nat} (h : (((bitq s i : Nat) : Int) % 2 == 0) = true) : bitq s i % 2 ≠ 1 := by
  have := beq_iff_eq.1 h
  omega
theorem endS_no {h : List S_Tile} {s : Nat} {t : S_Tile} {n l r : Int} (h1 : (n == l) = false ∨ sw (subH h s) (otherN t n) r = false) (h2 : (n == r) = false ∨ sw (subH h s) l (otherN t n) = false) : endS h s t n l r = false := by
  unfold endS
  rcases h1 with h1 | h1 <;> rcases h2 with h2 | h2 <;> rw [h1, h2] <;> simp
theorem endS_yl {h : List S_Tile} {s : Nat} {t : S_Tile} {n l r : Int} (h1 : (n == l) = true) (h2 : sw (subH h s) (otherN t n) r = true) : endS h s t n l r = true := by
  unfold endS
  rw [h1, h2]
  simp
theorem endS_yr {h : List S_Tile} {s : Nat} {t : S_Tile} {n l r : Int} (h1 : (n == r) = true) (h2 : sw (subH h s) l (otherN t n) = true) : endS h s t n l r = true := by
  unfold endS
  rw [h1, h2]
  simp
end Go.Proofs.Ytkjaahmlnbgnjaa.Pure
