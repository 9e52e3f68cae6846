/- The search for layouts with marks on tiles: it tells the caller of the layouts that it meets, one after the other (plain). -/
import Derived.Test.YtokkiiepddhkiaaGreatDoorPLayG
import Derived.Test.YtokkiiepddhkiaaGreatDoorMSxG
namespace Go.Proofs.YtokkiiepddhkiaaGreatDoor.Pure
open Go.RowKit Go.Proofs.YtokkiiepddhkiaaGreatDoor.Hd Go.Proofs.YtokkiiepddhkiaaGreatDoorW.PrintWords Go.Proofs.YtokkiiepddhkiaaGreatDoorW.PrintLast
set_option linter.unusedVariables false
set_option linter.unusedSimpArgs false
section
variable {α : Type} (til : Nat → Nat → S_Tile) (v : Bool) (ea : (S_Tile → Bool) → α → List Int → Bool × α)
/-- A search with marks: a tile may be taken where its mark is v; it is then turned, and turned back behind. -/
def markS : Sea ((S_Tile → Bool) × α) where
  take t i j := (t.1 (til i j) == v, (upd t.1 (til i j) (!v), t.2))
  back t i j := (upd t.1 (til i j) v, t.2)
  each t b := ((ea t.1 t.2 b).1, (t.1, (ea t.1 t.2 b).2))
def nxM (m : S_Tile → Bool) (i j : Nat) : Option (S_Tile → Bool) := if (m (til i j) == v) = true then some (upd m (til i j) (!v)) else none
abbrev eaL : α → List Int × (S_Tile → Bool) → Bool × α := fun s x => ea x.2 s x.1
theorem ffN_le (b : List Int) (a : Nat) : a ≤ ffN b a := Nat.le_add_right _ _
theorem ffN_lt {b : List Int} {a : Nat} (ha : a ≤ b.length) (h : ¬ ffN b a = b.length) : ffN b a < b.length ∧ rd b ((ffN b a : Nat) : Int) = 0 := by
  have h1 : (b.drop a).findIdx (fun x => x == 0) ≤ (b.drop a).length := List.findIdx_le_length
  rw [List.length_drop] at h1
  have h2 : ffN b a < b.length := by unfold ffN at h ⊢; omega
  refine ⟨h2, ?_⟩
  rw [rd_at h2]
  have h3 : (b.drop a).findIdx (fun x => x == 0) < (b.drop a).length := by rw [List.length_drop]; unfold ffN at h2; omega
  have h4 := List.findIdx_getElem (w := h3)
  rw [List.getElem_drop] at h4
  exact eq_of_beq h4
theorem til_invP {b : List Int} {a i j : Nat} {l l2 w : Int} (hw : 1 ≤ w) (hai : a ≤ i) (hjw : (j : Int) ≤ (i : Int) + w) (hz : ∀ k : Nat, (a : Int) + w ≤ (k : Int) → k < b.length → rd b (k : Int) = 0) : ∀ k : Nat, ((i + 1 : Nat) : Int) + w ≤ (k : Int) → k < b.length → rd ((b.set i l).set j l2) (k : Int) = 0 := by
  intro k h1 h2
  have h3 := hz k (by omega) h2
  rw [rd_at h2] at h3
  rw [rd_at (by simp; omega), List.getElem_set_ne (by omega), List.getElem_set_ne (by omega)]
  exact h3
variable {til v ea}
theorem try_marks {w : Int} {n d : Nat} {b : List Int} {i j : Nat} {l l2 : Int} {m : S_Tile → Bool} {s : α}
    (IH : ∀ m s, layG (markS til v ea) w n d ((b.set i l).set j l2) (i + 1) (m, s) = ((goL (eaL ea) (lvs (nxM til v) w n d ((b.set i l).set j l2) (i + 1) m) s).1, (m, (goL (eaL ea) (lvs (nxM til v) w n d ((b.set i l).set j l2) (i + 1) m) s).2))) :
    tryG (markS til v ea) (layG (markS til v ea) w n d) b i j l l2 (m, s) =
      ((goL (eaL ea) ((nxM til v m i j).elim [] (fun h' => lvs (nxM til v) w n d ((b.set i l).set j l2) (i + 1) h')) s).1, (m, (goL (eaL ea) ((nxM til v m i j).elim [] (fun h' => lvs (nxM til v) w n d ((b.set i l).set j l2) (i + 1) h')) s).2)) := by
  unfold tryG
  show (if (m (til i j) == v) = true then _ else _) = _
  by_cases h : (m (til i j) == v) = true
  · have hv : m (til i j) = v := eq_of_beq h
    have e : nxM til v m i j = some (upd m (til i j) (!v)) := by unfold nxM; rw [if_pos h]
    rw [if_pos h, e]
    have q := IH (upd m (til i j) (!v)) s
    show ((layG (markS til v ea) w n d ((b.set i l).set j l2) (i + 1) (upd m (til i j) (!v), s)).1, (upd (layG (markS til v ea) w n d ((b.set i l).set j l2) (i + 1) (upd m (til i j) (!v), s)).2.1 (til i j) v, (layG (markS til v ea) w n d ((b.set i l).set j l2) (i + 1) (upd m (til i j) (!v), s)).2.2)) = _
    rw [q]
    simp only [upd_back hv]
    rfl
  · have hv : m (til i j) = !v := by
      cases v <;> cases hm : m (til i j) <;> rw [hm] at h <;> first | rfl | exact absurd rfl h
    have e : nxM til v m i j = none := by unfold nxM; rw [if_neg h]
    rw [if_neg h, e]
    show (true, (upd m (til i j) (!v), s)) = _
    rw [upd_same hv]
    rfl
theorem layG_marks {w : Int} (hw : 1 ≤ w) {n : Nat} : ∀ (d : Nat) (b : List Int) (a : Nat) (m : S_Tile → Bool) (s : α), b.length = n → a ≤ n → (∀ k : Nat, (a : Int) + w ≤ (k : Int) → k < b.length → rd b (k : Int) = 0) →
    layG (markS til v ea) w n d b a (m, s) = ((goL (eaL ea) (lvs (nxM til v) w n d b a m) s).1, (m, (goL (eaL ea) (lvs (nxM til v) w n d b a m) s).2)) := by
  intro d
  induction d with
  | zero => intro b a m s _ _ _; rfl
  | succ d ih =>
    intro b a m s hbn han hz
    have hlen : ∀ (b : List Int) (i j : Nat) (l l2 : Int), ((b.set i l).set j l2).length = b.length := fun b i j l l2 => by simp
    unfold layG
    rw [lvs_succ]
    by_cases hf : ffN b a = b.length
    · rw [if_pos hf, if_pos hf]
      show ((ea m s b).1, (m, (ea m s b).2)) = ((if (ea m s b).1 = true then (true, (ea m s b).2) else (false, (ea m s b).2)).1, (m, (if (ea m s b).1 = true then (true, (ea m s b).2) else (false, (ea m s b).2)).2))
      cases (ea m s b).1 <;> rfl
    · rw [if_neg hf, if_neg hf]
      obtain ⟨hlt, hfree⟩ := ffN_lt (by omega) hf
      have hle := ffN_le b a
      obtain ⟨i, hi⟩ : ∃ i, i = ffN b a := ⟨_, rfl⟩
      rw [← hi] at hlt hfree hle ⊢
      have hE : eastG (markS til v ea) w (layG (markS til v ea) w n d) b i (m, s) = ((goL (eaL ea) (putL (nxM til v) (lvs (nxM til v) w n d) b i (nearE w i) 101 119 m) s).1, (m, (goL (eaL ea) (putL (nxM til v) (lvs (nxM til v) w n d) b i (nearE w i) 101 119 m) s).2)) := by
        unfold eastG putL nearE
        by_cases hc : (i : Int) % w < w - 1
        · rw [if_pos hc]
          by_cases h0 : rd b ((i : Int) + 1) = 0
          · rw [if_pos ⟨hc, h0⟩, if_pos ⟨by omega, h0⟩]
            have e : ((i : Int) + 1).toNat = i + 1 := by omega
            rw [e]
            exact try_marks (fun m s => ih ((b.set i 101).set (i + 1) 119) (i + 1) m s (by rw [hlen]; exact hbn) (by omega) (by rw [hlen]; exact til_invP hw hle (by omega) hz))
          · rw [if_neg (fun q => h0 q.2), if_neg (fun q => h0 q.2)]; rfl
        · rw [if_neg hc, if_neg (fun q => hc q.1), if_neg (by omega)]; rfl
      have hS : ∀ m s, southG (markS til v ea) w n (layG (markS til v ea) w n d) b i (m, s) = ((goL (eaL ea) (putL (nxM til v) (lvs (nxM til v) w n d) b i (nearS w n i) 115 110 m) s).1, (m, (goL (eaL ea) (putL (nxM til v) (lvs (nxM til v) w n d) b i (nearS w n i) 115 110 m) s).2)) := by
        intro m s
        unfold southG putL nearS
        by_cases hc : (i : Int) + w < (n : Int)
        · have h0 : rd b ((i : Int) + w) = 0 := by
            have q := hz ((i : Int) + w).toNat (by omega) (by omega)
            rw [Int.toNat_of_nonneg (by omega)] at q
            exact q
          rw [if_pos hc, if_pos hc, if_pos ⟨by omega, h0⟩]
          exact try_marks (fun m s => ih ((b.set i 115).set ((i : Int) + w).toNat 110) (i + 1) m s (by rw [hlen]; exact hbn) (by omega) (by rw [hlen]; exact til_invP hw hle (by omega) hz))
        · rw [if_neg hc, if_neg hc, if_neg (by omega)]; rfl
      rw [hE, goL_append]
      by_cases h1 : (goL (eaL ea) (putL (nxM til v) (lvs (nxM til v) w n d) b i (nearE w i) 101 119 m) s).1 = true
      · rw [if_pos h1, if_pos h1, hS]
      · rw [if_neg h1, if_neg h1]
        have e : (goL (eaL ea) (putL (nxM til v) (lvs (nxM til v) w n d) b i (nearE w i) 101 119 m) s).1 = false := by simpa using h1
        rw [e]
end
end Go.Proofs.YtokkiiepddhkiaaGreatDoor.Pure
