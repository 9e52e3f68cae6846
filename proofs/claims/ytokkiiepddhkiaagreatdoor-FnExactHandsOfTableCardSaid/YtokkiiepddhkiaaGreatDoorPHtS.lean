/- HandsOfTable: all layouts of a table, the texts of the hands that they tell; plain. -/
import Derived.Test.YtokkiiepddhkiaaGreatDoorPHtT
namespace Go.Proofs.YtokkiiepddhkiaaGreatDoor.Pure
open Go Go.RowKit Go.Proofs.YtokkiiepddhkiaaGreatDoor.Hd Go.Proofs.YtokkiiepddhkiaaGreatDoorW.PrintWords Go.Proofs.YtokkiiepddhkiaaGreatDoorW.PrintLast
set_option linter.unusedVariables false
set_option linter.unusedSimpArgs false
/-- All layouts of a table, by their letters, in order. -/
def allL (s : ByteArray) : List (List Int) := (lvs (nxS true (cells s)) (w0 (rowsB s) : Int) ((cells s).length : Int) 31 (List.replicate (cells s).length (0 : Int)) 0 []).map Prod.fst
theorem count_set0 {b : List Int} {i : Nat} {l : Int} (hl : l ≠ 0) : (b.set i l).count 0 ≤ b.count 0 := by
  by_cases h : i < b.length
  · have el : (l == 0) = false := by simpa using hl
    rw [List.count_set h, el]
    simp
  · rw [List.set_eq_of_length_le (by omega)]
    exact Nat.le_refl _
theorem count_set1 {b : List Int} {i : Nat} {l : Int} (hl : l ≠ 0) (h : i < b.length) (h0 : rd b (i : Int) = 0) : (b.set i l).count 0 + 1 ≤ b.count 0 := by
  have e : b[i] = 0 := by rw [← rd_at h]; exact h0
  have hp : 0 < b.count 0 := List.count_pos_iff.2 (e ▸ List.getElem_mem h)
  have el : (l == 0) = false := by simpa using hl
  rw [List.count_set h, e, el]
  simp
  omega
theorem lvs_pow {η : Type} {nx : η → Nat → Nat → Option η} {w n : Int} : ∀ (d : Nat) (b : List Int) (a : Nat) (h : η), a ≤ b.length → (lvs nx w n d b a h).length ≤ 2 ^ b.count 0 := by
  intro d
  induction d with
  | zero => intro b a h _; exact Nat.zero_le _
  | succ d ih =>
    intro b a h ha
    rw [lvs_succ]
    by_cases c : ffN b a = b.length
    · rw [if_pos c]; exact Nat.one_le_two_pow
    · rw [if_neg c, List.length_append]
      obtain ⟨hlt, hfree⟩ := ffN_lt ha c
      have key : ∀ j l l2, l ≠ 0 → l2 ≠ 0 → (putL nx (lvs nx w n d) b (ffN b a) j l l2 h).length + (putL nx (lvs nx w n d) b (ffN b a) j l l2 h).length ≤ 2 ^ b.count 0 := by
        intro j l l2 hl hl2
        unfold putL
        split
        · cases nx h (ffN b a) j.toNat with
          | none => exact Nat.zero_le _
          | some h' =>
            have h1 := ih ((b.set (ffN b a) l).set j.toNat l2) (ffN b a + 1) h' (by simp; omega)
            have h2 := count_set0 (b := b.set (ffN b a) l) (i := j.toNat) hl2
            have h3 := count_set1 hl hlt hfree
            have h4 : 2 ^ ((b.set (ffN b a) l).set j.toNat l2).count 0 ≤ 2 ^ (b.count 0 - 1) := Nat.pow_le_pow_right (by decide) (by omega)
            have h5 : 2 ^ b.count 0 = 2 ^ (b.count 0 - 1) * 2 := by rw [← Nat.pow_succ]; congr 1; omega
            show (lvs nx w n d _ _ h').length + (lvs nx w n d _ _ h').length ≤ _
            omega
        · exact Nat.zero_le _
      have k1 := key (nearE w (ffN b a)) 101 119 (by decide) (by decide)
      have k2 := key (nearS w n (ffN b a)) 115 110 (by decide) (by decide)
      omega
theorem allL_len {s : ByteArray} (h : isTab s = true) : (allL s).length ≤ 1073741824 := by
  unfold allL
  rw [List.length_map]
  refine Nat.le_trans (lvs_pow 31 _ 0 _ (Nat.zero_le _)) ?_
  have h1 := (tab_dim h).2.2.1
  rw [List.count_replicate_self]
  exact Nat.le_trans (Nat.pow_le_pow_right (by decide) h1) (by decide)
theorem allL_full {s : ByteArray} (h : isTab s = true) : addF 1073741824 [] (allL s) = allL s := addF_full (m := 1073741824) (allL s) [] (by have := allL_len h; simp; omega)
theorem allL_at {s : ByteArray} {b : List Int} (h : b ∈ allL s) : b.length = (cells s).length ∧ ∀ y ∈ b, 0 ≤ y ∧ y < 256 := by
  unfold allL at h
  obtain ⟨x, hx, rfl⟩ := List.mem_map.1 h
  obtain ⟨h1, h2⟩ := lvs_all _ _ _ _ x hx
  exact ⟨by rw [h1, List.length_replicate], h2 (fun y hy => by rw [List.mem_replicate] at hy; omega)⟩
/-- What has been seen, when a layout comes. -/
def seenP (s : ByteArray) (acc : List ByteArray) (b : List Int) : List ByteArray := if handB (tilesH s b) = true then addTx acc (mkU (handU (sortT (tilesH s b)))) else acc
def seenS (s : ByteArray) (L : List (List Int)) : List ByteArray := L.foldl (seenP s) []
theorem rdL_at {L : List (List Int)} {i : Nat} (h : i < L.length) : rd_i64s L (i : Int) = L[i] := by simp [rd_i64s, List.getD_eq_getElem?_getD, h]
theorem seenS_next {s : ByteArray} {L : List (List Int)} {i : Nat} (h : i < L.length) : seenS s (L.take (i + 1)) = seenP s (seenS s (L.take i)) (rd_i64s L (i : Int)) := by
  unfold seenS
  rw [List.take_succ_eq_append_getElem h, List.foldl_append, rdL_at h]
  rfl
theorem seenS_no {s : ByteArray} {L : List (List Int)} {i : Nat} (h : i < L.length) (hh : handB (tilesH s (rd_i64s L (i : Int))) = false) : seenS s (L.take i) = seenS s (L.take (i + 1)) := by
  rw [seenS_next h]; unfold seenP; rw [if_neg (by rw [hh]; simp)]
theorem seenS_in {s : ByteArray} {L : List (List Int)} {i : Nat} (h : i < L.length) (hh : handB (tilesH s (rd_i64s L (i : Int))) = true) (hi : inT (seenS s (L.take i)) (mkU (handU (sortT (tilesH s (rd_i64s L (i : Int)))))) = true) : seenS s (L.take i) = seenS s (L.take (i + 1)) := by
  rw [seenS_next h]; unfold seenP addTx; rw [if_pos hh, if_pos hi]
theorem seenS_new {s : ByteArray} {L : List (List Int)} {i : Nat} (h : i < L.length) (hh : handB (tilesH s (rd_i64s L (i : Int))) = true) (hi : inT (seenS s (L.take i)) (mkU (handU (sortT (tilesH s (rd_i64s L (i : Int)))))) = false) : seenS s (L.take i) ++ [mkU (handU (sortT (tilesH s (rd_i64s L (i : Int)))))] = seenS s (L.take (i + 1)) := by
  rw [seenS_next h]; unfold seenP addTx; rw [if_pos hh, if_neg (by rw [hi]; simp)]
theorem seenS_len (s : ByteArray) : ∀ (L : List (List Int)), (seenS s L).length ≤ L.length := by
  have key : ∀ (L : List (List Int)) (acc : List ByteArray), (L.foldl (seenP s) acc).length ≤ acc.length + L.length := by
    intro L
    induction L with
    | nil => intro acc; exact Nat.le_refl _
    | cons b L ih =>
      intro acc
      have h := ih (seenP s acc b)
      have h2 : (seenP s acc b).length ≤ acc.length + 1 := by
        unfold seenP addTx
        split
        · split
          · omega
          · simp
        · omega
      rw [List.foldl_cons, List.length_cons]
      omega
  intro L
  have h := key L []
  simpa [seenS] using h
end Go.Proofs.YtokkiiepddhkiaaGreatDoor.Pure
