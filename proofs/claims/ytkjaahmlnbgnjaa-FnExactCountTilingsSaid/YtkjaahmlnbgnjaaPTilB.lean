/- What CountTilings answers; an odd number of cells has no tiling. -/
import Derived.Test.YtkjaahmlnbgnjaaPTilA
import Derived.Test.YtkjaahmlnbgnjaaPTile0
import Derived.Test.YtkjaahmlnbgnjaaPWithin
namespace Go.Proofs.Ytkjaahmlnbgnjaa.Pure
open Go.RowKit Go.Proofs.Ytkjaahmlnbgnjaa.Hd Go.Proofs.YtkjaahmlnbgnjaaW.PrintWords Go.Proofs.YtkjaahmlnbgnjaaW.PrintLast
set_option linter.unusedVariables false
set_option linter.unusedSimpArgs false
def resCountTilings (a b : Int) : Int × Bool := if (inB 1 30 a && inB 1 30 b && decide (a * b ≤ 30)) = true then ((if (a * b) % 2 = 1 then 0 else cntT a (a * b) 31 (List.replicate (a * b).toNat 0) 0), true) else (0, false)
theorem inB_iffT {a b n : Int} : inB a b n = true ↔ a ≤ n ∧ n ≤ b := by unfold inB; simp
/-- The free cells from a on. -/
def freeN (b : List Int) (a : Nat) : Nat := (b.drop a).countP (fun x => x == 0)
theorem free_next {b : List Int} {a : Nat} (h : a < b.length) : freeN b a = freeN b (a + 1) + (if b[a] == 0 then 1 else 0) := by
  unfold freeN
  rw [List.drop_eq_getElem_cons h, List.countP_cons]
theorem free_skip {b : List Int} : ∀ (m a : Nat), a + m ≤ b.length → (∀ j : Nat, a ≤ j → j < a + m → rd b (j : Int) ≠ 0) → freeN b a = freeN b (a + m) := by
  intro m
  induction m with
  | zero => intro a _ _; rfl
  | succ m ih =>
    intro a hm h
    have h0 := h a (Nat.le_refl _) (by omega)
    rw [rd_at (show a < b.length by omega)] at h0
    rw [free_next (show a < b.length by omega), if_neg (by simpa using h0), Nat.add_zero, ih (a + 1) (by omega) (fun j h1 h2 => h j (by omega) (by omega))]
    congr 1
    omega
theorem free_end (b : List Int) : freeN b b.length = 0 := by unfold freeN; simp
theorem ffN_ge (b : List Int) (a : Nat) : a ≤ ffN b a := by unfold ffN; omega
theorem ffN_le {b : List Int} {a : Nat} (h : a ≤ b.length) : ffN b a ≤ b.length := by
  have := List.findIdx_le_length (p := fun x : Int => x == 0) (xs := b.drop a)
  rw [List.length_drop] at this
  unfold ffN
  omega
theorem ffN_skip {b : List Int} {a j : Nat} (hl : a ≤ b.length) (h1 : a ≤ j) (h2 : j < ffN b a) : rd b (j : Int) ≠ 0 := by
  have hle := ffN_le hl
  have hj : j - a < (b.drop a).findIdx (fun x => x == 0) := by unfold ffN at h2; omega
  have := List.not_of_lt_findIdx hj
  rw [List.getElem_drop] at this
  rw [rd_at (show j < b.length by omega)]
  have e : b[a + (j - a)]'(by omega) = b[j] := by congr 1; omega
  rw [e] at this
  simpa using this
theorem ffN_free {b : List Int} {a : Nat} (h : ffN b a < b.length) : rd b (ffN b a : Int) = 0 := by
  have hl : (b.drop a).findIdx (fun x => x == 0) < (b.drop a).length := by rw [List.length_drop]; unfold ffN at h; omega
  have := List.findIdx_getElem (w := hl)
  rw [List.getElem_drop] at this
  rw [rd_at h]
  exact eq_of_beq this
theorem cnt_odd {w h : Int} {n : Nat} (hw : 1 ≤ w) (hwh : w * h = (n : Int)) : ∀ (d : Nat) (b : List Int) (a : Nat), b.length = n → a ≤ n → freeN b a % 2 = 1 → cntT w (n : Int) d b a = 0 := by
  intro d
  induction d with
  | zero => intro b a _ _ _; rfl
  | succ d ih =>
    intro b a hb ha hf
    have hle := ffN_le (b := b) (a := a) (by omega)
    have hge := ffN_ge b a
    have hsk := free_skip (b := b) (ffN b a - a) a (by omega) (fun j h1 h2 => ffN_skip (by omega) h1 (by omega))
    rw [show a + (ffN b a - a) = ffN b a by omega] at hsk
    rw [cntT_succ]
    by_cases e : ffN b a = b.length
    · rw [e, free_end] at hsk
      omega
    · rw [if_neg e]
      have hlt : ffN b a < b.length := by omega
      have h0 := ffN_free hlt
      have hn := free_next hlt
      rw [rd_at hlt] at h0
      rw [if_pos (by rw [h0]; rfl)] at hn
      have key : ∀ j l l2 : Int, (0 ≤ j → (ffN b a : Int) < j ∧ j < n) → l2 ≠ 0 → putC w (n : Int) d b (ffN b a) j l l2 = 0 := by
        intro j l l2 hj hl2
        unfold putC
        split
        · rename_i hc
          obtain ⟨h1, h2⟩ := hj hc.1
          obtain ⟨m, rfl⟩ := Int.eq_ofNat_of_zero_le hc.1
          have hz := hc.2
          rw [Int.toNat_natCast]
          have hm : m < b.length := by omega
          rw [rd_at hm] at hz
          refine ih _ _ (by simp; exact hb) (by omega) ?_
          have e1 : freeN ((b.set (ffN b a) l).set m l2) (ffN b a + 1) = freeN b (ffN b a + 1) - 1 := by
            unfold freeN
            rw [List.drop_set, if_neg (by omega), List.drop_set_of_lt (by omega), List.countP_set (by rw [List.length_drop]; omega)]
            have e2 : (List.drop (ffN b a + 1) b)[m - (ffN b a + 1)]'(by rw [List.length_drop]; omega) = 0 := by
              rw [List.getElem_drop]
              have e3 : b[ffN b a + 1 + (m - (ffN b a + 1))]'(by omega) = b[m] := by congr 1; omega
              rw [e3, hz]
            rw [if_pos (by rw [e2]; rfl), if_neg (by simpa using hl2), Nat.add_zero]
          have e4 : 1 ≤ freeN b (ffN b a + 1) := by
            unfold freeN
            rw [Nat.one_le_iff_ne_zero, ← Nat.pos_iff_ne_zero, List.countP_pos_iff]
            refine ⟨b[m], ?_, by rw [hz]; rfl⟩
            rw [List.mem_iff_getElem]
            refine ⟨m - (ffN b a + 1), by rw [List.length_drop]; omega, ?_⟩
            rw [List.getElem_drop]
            congr 1
            omega
          rw [e1]
          omega
        · rfl
      have bE := nearE_bd (i := (ffN b a : Int)) hw hwh (by omega) (by omega)
      have bS := nearS_bd (n := n) (i := (ffN b a : Int)) hw (by omega) (by omega)
      have gE : 0 ≤ nearE w (ffN b a : Int) → (ffN b a : Int) < nearE w (ffN b a : Int) ∧ nearE w (ffN b a : Int) < n := by
        intro q; refine ⟨?_, bE.2.1⟩; unfold nearE at q ⊢; split
        · omega
        · rename_i hc; rw [if_neg hc] at q; omega
      have gS : 0 ≤ nearS w (n : Int) (ffN b a : Int) → (ffN b a : Int) < nearS w (n : Int) (ffN b a : Int) ∧ nearS w (n : Int) (ffN b a : Int) < n := by
        intro q; refine ⟨?_, bS.2.1⟩; unfold nearS at q ⊢; split
        · omega
        · rename_i hc; rw [if_neg hc] at q; omega
      rw [key _ 101 119 gE (by decide), key _ 115 110 gS (by decide)]
      rfl
theorem tilOdd {w h : Int} {n : Nat} (hw : 1 ≤ w) (hwh : w * h = (n : Int)) : (if (n : Int) % 2 = 1 then 0 else cntT w (n : Int) 31 (List.replicate n 0) 0) = cntT w (n : Int) 31 (List.replicate n 0) 0 := by
  split
  · rename_i ho
    rw [cnt_odd hw hwh 31 (List.replicate n 0) 0 (by simp) (Nat.zero_le _) ?_]
    unfold freeN
    rw [List.drop_zero, List.countP_replicate, if_pos (by rfl)]
    omega
  · rfl
end Go.Proofs.Ytkjaahmlnbgnjaa.Pure
