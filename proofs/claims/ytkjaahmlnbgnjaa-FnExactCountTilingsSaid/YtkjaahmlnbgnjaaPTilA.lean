/- Tilings: how many ways there are on from a board (the numbers of letters, 0 for a free cell), plain. -/
import Derived.Test.YtkjaahmlnbgnjaaPEv
namespace Go.Proofs.Ytkjaahmlnbgnjaa.Pure
open Go.RowKit Go.Proofs.Ytkjaahmlnbgnjaa.Hd Go.Proofs.YtkjaahmlnbgnjaaW.PrintWords Go.Proofs.YtkjaahmlnbgnjaaW.PrintLast
set_option linter.unusedVariables false
set_option linter.unusedSimpArgs false
/-- The first free cell from a on. -/
def ffN (b : List Int) (a : Nat) : Nat := a + (b.drop a).findIdx (fun x => x == 0)
theorem ffN_hit {b : List Int} {a i : Nat} (h1 : a ≤ i) (h2 : i < b.length) (h3 : ∀ j, a ≤ j → j < i → rd b (j : Int) ≠ 0) (h4 : rd b (i : Int) = 0) : ffN b a = i := by
  unfold ffN
  have hl : i - a < (b.drop a).length := by rw [List.length_drop]; omega
  have e : (b.drop a).findIdx (fun x => x == 0) = i - a := by
    rw [List.findIdx_eq hl]
    refine ⟨?_, fun j hj => ?_⟩
    · rw [List.getElem_drop]
      have : b[a + (i - a)]'(by omega) = b[i] := by congr 1; omega
      rw [this, ← rd_at h2, h4]
      rfl
    · rw [List.getElem_drop, ← rd_at (show a + j < b.length by omega)]
      have := h3 (a + j) (by omega) (by omega)
      simpa using this
  omega
theorem ffN_end {b : List Int} {a : Nat} (h1 : a ≤ b.length) (h3 : ∀ j, a ≤ j → j < b.length → rd b (j : Int) ≠ 0) : ffN b a = b.length := by
  unfold ffN
  have e : (b.drop a).findIdx (fun x => x == 0) = (b.drop a).length := by
    rw [List.findIdx_eq_length]
    intro x hx
    obtain ⟨j, hj, rfl⟩ := List.getElem_of_mem hx
    rw [List.length_drop] at hj
    rw [List.getElem_drop, ← rd_at (show a + j < b.length by omega)]
    have := h3 (a + j) (by omega) (by omega)
    simpa using this
  rw [e, List.length_drop]
  omega
def nearE (w i : Int) : Int := if i % w < w - 1 then i + 1 else -1
def nearS (w n i : Int) : Int := if i + w < n then i + w else -1
def cntT (w n : Int) : Nat → List Int → Nat → Int
  | 0, _, _ => 0
  | d + 1, b, a => if ffN b a = b.length then 1 else
      (if 0 ≤ nearE w (ffN b a) ∧ rd b (nearE w (ffN b a)) = 0 then cntT w n d ((b.set (ffN b a) 101).set (nearE w (ffN b a)).toNat 119) (ffN b a + 1) else 0) +
      (if 0 ≤ nearS w n (ffN b a) ∧ rd b (nearS w n (ffN b a)) = 0 then cntT w n d ((b.set (ffN b a) 115).set (nearS w n (ffN b a)).toNat 110) (ffN b a + 1) else 0)
/-- What a tile on i and j (negative: none) adds. -/
def putC (w n : Int) (d : Nat) (b : List Int) (i : Nat) (j l l2 : Int) : Int := if 0 ≤ j ∧ rd b j = 0 then cntT w n d ((b.set i l).set j.toNat l2) (i + 1) else 0
theorem cntT_succ (w n : Int) (d : Nat) (b : List Int) (a : Nat) : cntT w n (d + 1) b a = if ffN b a = b.length then 1 else putC w n d b (ffN b a) (nearE w (ffN b a)) 101 119 + putC w n d b (ffN b a) (nearS w n (ffN b a)) 115 110 := rfl
def P2 : Nat → Int
  | 0 => 1
  | d + 1 => 2 * P2 d
theorem P2_pos : ∀ d, 1 ≤ P2 d := by
  intro d
  induction d with
  | zero => exact Int.le_refl _
  | succ d ih => simp only [P2]; omega
theorem cntT_bd (w n : Int) : ∀ (d : Nat) (b : List Int) (a : Nat), 0 ≤ cntT w n d b a ∧ cntT w n d b a ≤ P2 d := by
  intro d
  induction d with
  | zero => intro b a; exact ⟨Int.le_refl _, by show (0 : Int) ≤ 1; omega⟩
  | succ d ih =>
    intro b a
    have hp := P2_pos d
    have key : ∀ b i j l l2, 0 ≤ putC w n d b i j l l2 ∧ putC w n d b i j l l2 ≤ P2 d := by
      intro b i j l l2
      unfold putC
      split
      · exact ih _ _
      · omega
    rw [cntT_succ]
    simp only [P2]
    split
    · omega
    · have h1 := key b (ffN b a) (nearE w (ffN b a)) 101 119
      have h2 := key b (ffN b a) (nearS w n (ffN b a)) 115 110
      omega
theorem putC_bd (w n : Int) (d : Nat) (b : List Int) (i : Nat) (j l l2 : Int) : 0 ≤ putC w n d b i j l l2 ∧ putC w n d b i j l l2 ≤ P2 d := by
  unfold putC
  have hp := P2_pos d
  split
  · exact cntT_bd w n d _ _
  · omega
theorem set_back (b : List Int) (i j : Nat) (l l2 : Int) (hi : i < b.length) (hj : j < b.length) (h1 : rd b (i : Int) = 0) (h2 : rd b (j : Int) = 0) : ((((b.set i l).set j l2).set i 0).set j 0) = b := by
  rw [rd_at hi] at h1
  rw [rd_at hj] at h2
  apply List.ext_getElem
  · simp
  · intro k hk1 hk2
    simp only [List.getElem_set]
    split
    · rename_i e; subst e; rw [h2]
    · split
      · rename_i e; subst e; rw [h1]
      · rfl
theorem nearE_bd {w h i : Int} {n : Nat} (hw : 1 ≤ w) (hwh : w * h = (n : Int)) (h0 : 0 ≤ i) (hi : i < n) : -1 ≤ nearE w i ∧ nearE w i < n ∧ nearE w i ≠ i := by
  unfold nearE
  split
  · rename_i hc
    refine ⟨by omega, ?_, by omega⟩
    have hne : i + 1 ≠ (n : Int) := by
      intro e
      have e2 : i = (w - 1) + w * (h - 1) := by rw [Int.mul_sub, hwh]; omega
      have e3 : i % w = w - 1 := by rw [e2, Int.add_mul_emod_self_left, Int.emod_eq_of_lt (by omega) (by omega)]
      omega
    omega
  · omega
theorem nearS_bd {w i : Int} {n : Nat} (hw : 1 ≤ w) (h0 : 0 ≤ i) (hi : i < n) : -1 ≤ nearS w n i ∧ nearS w n i < n ∧ nearS w n i ≠ i := by
  unfold nearS
  split <;> omega
end Go.Proofs.Ytkjaahmlnbgnjaa.Pure
