/- The search for layouts: what it does with a caller's state, and the layouts that it meets, plain. -/
import Derived.Test.YtokkiiepddhkiaaGreatDoorPEv
namespace Go.Proofs.YtokkiiepddhkiaaGreatDoor.Pure
open Go.RowKit Go.Proofs.YtokkiiepddhkiaaGreatDoor.Hd Go.Proofs.YtokkiiepddhkiaaGreatDoorW.PrintWords Go.Proofs.YtokkiiepddhkiaaGreatDoorW.PrintLast
set_option linter.unusedVariables false
set_option linter.unusedSimpArgs false
/-- The first free cell from a on. -/
def ffN (b : List Int) (a : Nat) : Nat := a + (b.drop a).findIdx (fun x => x == 0)
theorem ffN_hit {b : List Int} {a i : Nat} (h1 : a ≤ i) (h2 : i < b.length) (h3 : ∀ j, a ≤ j → j < i → rd b (j : Int) ≠ 0) (h4 : rd b (i : Int) = 0) : ffN b a = i := by
  unfold ffN
  have hl : i - a < (b.drop a).length := by rw [List.length_drop]; omega
  have e : (b.drop a).findIdx (fun x => x == 0) = i - a := by
    rw [List.findIdx_eq hl]
    refine ⟨?_, fun j hj => ?_⟩
    · rw [List.getElem_drop]
      have : b[a + (i - a)]'(by omega) = b[i] := by congr 1; omega
      rw [this, ← rd_at h2, h4]
      rfl
    · rw [List.getElem_drop, ← rd_at (show a + j < b.length by omega)]
      have := h3 (a + j) (by omega) (by omega)
      simpa using this
  omega
theorem ffN_end {b : List Int} {a : Nat} (h1 : a ≤ b.length) (h3 : ∀ j, a ≤ j → j < b.length → rd b (j : Int) ≠ 0) : ffN b a = b.length := by
  unfold ffN
  have e : (b.drop a).findIdx (fun x => x == 0) = (b.drop a).length := by
    rw [List.findIdx_eq_length]
    intro x hx
    obtain ⟨j, hj, rfl⟩ := List.getElem_of_mem hx
    rw [List.length_drop] at hj
    rw [List.getElem_drop, ← rd_at (show a + j < b.length by omega)]
    have := h3 (a + j) (by omega) (by omega)
    simpa using this
  rw [e, List.length_drop]
  omega
def nearE (w i : Int) : Int := if i % w < w - 1 then i + 1 else -1
def nearS (w n i : Int) : Int := if i + w < n then i + w else -1
def P2 : Nat → Int
  | 0 => 1
  | d + 1 => 2 * P2 d
theorem P2_pos : ∀ d, 1 ≤ P2 d := by
  intro d
  induction d with
  | zero => exact Int.le_refl _
  | succ d ih => simp only [P2]; omega
theorem set_back (b : List Int) (i j : Nat) (l l2 : Int) (hi : i < b.length) (hj : j < b.length) (h1 : rd b (i : Int) = 0) (h2 : rd b (j : Int) = 0) : ((((b.set i l).set j l2).set i 0).set j 0) = b := by
  rw [rd_at hi] at h1
  rw [rd_at hj] at h2
  apply List.ext_getElem
  · simp
  · intro k hk1 hk2
    simp only [List.getElem_set]
    split
    · rename_i e; subst e; rw [h2]
    · split
      · rename_i e; subst e; rw [h1]
      · rfl
theorem nearE_bd {w h i : Int} {n : Nat} (hw : 1 ≤ w) (hwh : w * h = (n : Int)) (h0 : 0 ≤ i) (hi : i < n) : -1 ≤ nearE w i ∧ nearE w i < n ∧ nearE w i ≠ i := by
  unfold nearE
  split
  · rename_i hc
    refine ⟨by omega, ?_, by omega⟩
    have hne : i + 1 ≠ (n : Int) := by
      intro e
      have e2 : i = (w - 1) + w * (h - 1) := by rw [Int.mul_sub, hwh]; omega
      have e3 : i % w = w - 1 := by rw [e2, Int.add_mul_emod_self_left, Int.emod_eq_of_lt (by omega) (by omega)]
      omega
    omega
  · omega
theorem nearS_bd {w i : Int} {n : Nat} (hw : 1 ≤ w) (h0 : 0 ≤ i) (hi : i < n) : -1 ≤ nearS w n i ∧ nearS w n i < n ∧ nearS w n i ≠ i := by
  unfold nearS
  split <;> omega
end Go.Proofs.YtokkiiepddhkiaaGreatDoor.Pure
namespace Go.Proofs.YtokkiiepddhkiaaGreatDoor.Pure
open Go.RowKit Go.Proofs.YtokkiiepddhkiaaGreatDoor.Hd Go.Proofs.YtokkiiepddhkiaaGreatDoorW.PrintWords Go.Proofs.YtokkiiepddhkiaaGreatDoorW.PrintLast
set_option linter.unusedVariables false
set_option linter.unusedSimpArgs false
/-- What the search does with a caller's state. -/
structure Sea (τ : Type) where
  take : τ → Nat → Nat → Bool × τ
  back : τ → Nat → Nat → τ
  each : τ → List Int → Bool × τ
section
variable {τ : Type}
def tryG (S : Sea τ) (f : List Int → Nat → τ → Bool × τ) (b : List Int) (i j : Nat) (l l2 : Int) (t : τ) : Bool × τ :=
  if (S.take t i j).1 = true then ((f ((b.set i l).set j l2) (i + 1) (S.take t i j).2).1, S.back (f ((b.set i l).set j l2) (i + 1) (S.take t i j).2).2 i j) else (true, (S.take t i j).2)
def eastG (S : Sea τ) (w : Int) (f : List Int → Nat → τ → Bool × τ) (b : List Int) (i : Nat) (t : τ) : Bool × τ :=
  if (i : Int) % w < w - 1 ∧ rd b ((i : Int) + 1) = 0 then tryG S f b i (i + 1) 101 119 t else (true, t)
def southG (S : Sea τ) (w : Int) (n : Nat) (f : List Int → Nat → τ → Bool × τ) (b : List Int) (i : Nat) (t : τ) : Bool × τ :=
  if (i : Int) + w < (n : Int) then tryG S f b i ((i : Int) + w).toNat 115 110 t else (true, t)
def layG (S : Sea τ) (w : Int) (n : Nat) : Nat → List Int → Nat → τ → Bool × τ
  | 0, _, _, t => (true, t)
  | d + 1, b, a, t => if ffN b a = b.length then S.each t b else
      if (eastG S w (layG S w n d) b (ffN b a) t).1 = true then southG S w n (layG S w n d) b (ffN b a) (eastG S w (layG S w n d) b (ffN b a) t).2
      else (false, (eastG S w (layG S w n d) b (ffN b a) t).2)
/-- A list's members one after the other, till one is refused. -/
def goL {α β : Type} (ea : α → β → Bool × α) : List β → α → Bool × α
  | [], s => (true, s)
  | x :: l, s => if (ea s x).1 = true then goL ea l (ea s x).2 else (false, (ea s x).2)
theorem goL_append {α β : Type} (ea : α → β → Bool × α) : ∀ (l1 l2 : List β) (s : α), goL ea (l1 ++ l2) s = if (goL ea l1 s).1 = true then goL ea l2 (goL ea l1 s).2 else goL ea l1 s := by
  intro l1
  induction l1 with
  | nil => intro l2 s; rfl
  | cons x l ih =>
    intro l2 s
    show (if (ea s x).1 = true then goL ea (l ++ l2) (ea s x).2 else (false, (ea s x).2)) = _
    by_cases h : (ea s x).1 = true
    · rw [if_pos h, ih]
      have e : goL ea (x :: l) s = goL ea l (ea s x).2 := by show (if _ then _ else _) = _; rw [if_pos h]
      rw [e]
    · have e : goL ea (x :: l) s = (false, (ea s x).2) := by show (if _ then _ else _) = _; rw [if_neg h]
      rw [if_neg h, e]
      simp
/-- The layouts that a search meets, in order; a step on the caller's state h may refuse a pair of cells. -/
def putL {η : Type} (nx : η → Nat → Nat → Option η) (f : List Int → Nat → η → List (List Int × η)) (b : List Int) (i : Nat) (j l l2 : Int) (h : η) : List (List Int × η) :=
  if 0 ≤ j ∧ rd b j = 0 then ((nx h i j.toNat).elim [] (fun h' => f ((b.set i l).set j.toNat l2) (i + 1) h')) else []
def lvs {η : Type} (nx : η → Nat → Nat → Option η) (w n : Int) : Nat → List Int → Nat → η → List (List Int × η)
  | 0, _, _, _ => []
  | d + 1, b, a, h => if ffN b a = b.length then [(b, h)] else
      putL nx (lvs nx w n d) b (ffN b a) (nearE w (ffN b a)) 101 119 h ++ putL nx (lvs nx w n d) b (ffN b a) (nearS w n (ffN b a)) 115 110 h
theorem lvs_succ {η : Type} (nx : η → Nat → Nat → Option η) (w n : Int) (d : Nat) (b : List Int) (a : Nat) (h : η) : lvs nx w n (d + 1) b a h = if ffN b a = b.length then [(b, h)] else
      putL nx (lvs nx w n d) b (ffN b a) (nearE w (ffN b a)) 101 119 h ++ putL nx (lvs nx w n d) b (ffN b a) (nearS w n (ffN b a)) 115 110 h := rfl
end
end Go.Proofs.YtokkiiepddhkiaaGreatDoor.Pure
