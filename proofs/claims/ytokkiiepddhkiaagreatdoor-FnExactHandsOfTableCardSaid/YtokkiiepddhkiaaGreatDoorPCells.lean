/- The cells of a table: its digits, its letters, the tiles of two cells; plain. -/
import Derived.Test.YtokkiiepddhkiaaGreatDoorPTab2
import Derived.Test.YtokkiiepddhkiaaGreatDoorG2
import Derived.Test.YtokkiiepddhkiaaGreatDoorG2
import Derived.Test.YtokkiiepddhkiaaGreatDoorG1
namespace Go.Proofs.YtokkiiepddhkiaaGreatDoor.Pure
open Go Go.RowKit Go.Proofs.YtokkiiepddhkiaaGreatDoor.Hd Go.Proofs.YtokkiiepddhkiaaGreatDoorW.PrintWords Go.Proofs.YtokkiiepddhkiaaGreatDoorW.PrintLast
set_option linter.unusedVariables false
set_option linter.unusedSimpArgs false
theorem rowsOf_flat : ∀ l : List UInt8, (rowsOf l).flatten = l.filter (· != 47) := by
  intro l
  induction l with
  | nil => rfl
  | cons c t ih =>
    unfold rowsOf
    by_cases hc : c = 47
    · rw [if_pos hc, List.flatten_cons, List.nil_append, ih, hc]
      rfl
    · rw [if_neg hc, List.filter_cons_of_pos (by simpa using hc), ← ih]
      cases hd : rowsOf t with
      | nil => exact absurd hd (rowsOf_ne t)
      | cons r rs => simp only [List.flatten_cons, List.cons_append]
theorem replaceK_flat : ∀ (l : List UInt8) (k : Nat), l.count 47 ≤ k → Lib.replaceK [47] [] k l = l.filter (· != 47) := by
  intro l
  induction l with
  | nil =>
    intro k _
    cases k <;> rfl
  | cons b t ih =>
    intro k hk
    rw [List.count_cons] at hk
    by_cases hb : b = 47
    · subst hb
      simp at hk
      obtain ⟨k', rfl⟩ : ∃ k', k = k' + 1 := ⟨k - 1, by omega⟩
      rw [Lib.replaceK_hit [47] [] k' _ 0 (by rw [index47, if_pos rfl]; rfl), List.filter_cons_of_neg (by simp), ← ih k' (by omega)]
      rfl
    · rw [List.filter_cons_of_pos (by simpa using hb)]
      have hk2 : t.count 47 ≤ k := by omega
      rw [← ih k hk2]
      by_cases hi : Lib.index t [47] = -1
      · have e1 : Lib.index (b :: t) [47] = -1 := by rw [index47, if_neg hb, if_pos (by rw [hi]; rfl)]
        cases k with
        | zero => rfl
        | succ k =>
          unfold Lib.replaceK
          rw [e1, hi]
          rfl
      · have hc := index47_count t hi
        obtain ⟨k', rfl⟩ : ∃ k', k = k' + 1 := ⟨k - 1, by omega⟩
        have hg := Lib.index_ge t [47]
        obtain ⟨i, hii⟩ : ∃ i : Nat, Lib.index t [47] = i := ⟨(Lib.index t [47]).toNat, by omega⟩
        have e1 : Lib.index (b :: t) [47] = ((i + 1 : Nat) : Int) := by
          rw [index47, if_neg hb, if_neg (by rw [beq_iff_eq]; exact hi), hii]; rfl
        rw [Lib.replaceK_hit [47] [] k' _ (i + 1) e1, Lib.replaceK_hit [47] [] k' _ i hii]
        rfl
/-- The cells of a text, one behind the other. -/
def flatB (s : ByteArray) : ByteArray := mkB (rowsOf s.data.toList).flatten
theorem flat_eq (s : ByteArray) (hs : s.size ≤ 1048576) : impl_flat.f s = some (flatB s) := by
  unfold impl_flat.f strings_ReplaceAll.f
  rw [if_pos ⟨by omega, by decide, by show s.size + Lib.countB s ⟨#[47]⟩ * 0 ≤ _; omega⟩, Option.bind_some]
  congr 1
  unfold flatB mkB Lib.replaceAll Lib.replace
  have e : ((⟨#[47]⟩ : ByteArray).data.toList == (⟨#[]⟩ : ByteArray).data.toList) = false := rfl
  rw [e]
  show ByteArray.mk (Lib.replaceK [47] [] (Lib.replaceNum s.data.toList [47] (-1)) s.data.toList).toArray = _
  rw [replaceK_flat _ _ ?_, rowsOf_flat]
  unfold Lib.replaceNum
  rw [if_pos (Or.inl (by decide)), Lib.count_one]
  exact Nat.le_refl _
/-- The letters (or digits) of a text as numbers. -/
def lets (s : ByteArray) : List Int := bytesOf (flatB s)
theorem lets_len (s : ByteArray) : (lets s).length = (flatB s).size := bytesOf_length _
theorem bt_lets (s : ByteArray) (i : Int) : bt (flatB s) i = rd (lets s) i := (rd_bytesOf _ i).symm
theorem lets_in {s sg : ByteArray} (h : formF (rowsB s) sg = true) (i : Nat) (hi : i < (lets s).length) : ∃ b ∈ sg.data.toList, rd (lets s) (i : Int) = (b.toNat : Int) := by
  unfold formF at h
  rw [Bool.and_eq_true, List.all_eq_true] at h
  unfold lets bytesOf flatB at hi ⊢
  rw [toList_mkB] at hi ⊢
  rw [rd_at hi, List.getElem_map]
  refine ⟨_, ?_, rfl⟩
  rw [List.length_map] at hi
  have hm := List.getElem_mem hi
  rw [List.mem_flatten] at hm
  obtain ⟨r, hr, hb⟩ := hm
  have := h.1 (mkB r) (List.mem_map.2 ⟨r, hr, rfl⟩)
  unfold cellOk at this
  rw [Bool.and_eq_true, toList_mkB, List.all_eq_true] at this
  simpa using this.2 _ hb
theorem east_lt {w h i : Nat} (hi : i < w * h) (he : i % w < w - 1) : i + 1 < w * h := by
  have h1 := Nat.div_add_mod i w
  have hq : i / w < h := Nat.div_lt_of_lt_mul hi
  have h2 : w * (i / w + 1) ≤ w * h := Nat.mul_le_mul_left _ hq
  rw [Nat.mul_add, Nat.mul_one] at h2
  omega
theorem tmod_nat (a b : Nat) : Int.tmod (a : Int) (b : Int) = ((a % b : Nat) : Int) := by
  rw [Int.tmod_eq_emod_of_nonneg (by omega)]
  rfl
theorem lets_rows (s : ByteArray) : (rowsB s).flatMap bytesOf = lets s := by
  unfold lets rowsB flatB bytesOf
  rw [toList_mkB, List.flatMap_map, List.map_flatten, List.flatMap_def]
  simp only [toList_mkB]
theorem taRows_of_form {t sg : ByteArray} (h : formF (rowsB t) sg = true) : (taRowsF t).2 = true := by
  obtain ⟨h1, h2, h3, h4, h5⟩ := form_size h
  unfold formF at h
  rw [Bool.and_eq_true] at h
  unfold taRowsF taRowsR
  rw [if_neg (by omega), if_pos (List.all_eq_true.2 (fun r hr => by unfold rowOk; rw [h2 r hr]; simp; omega))]
  exact h.2
theorem lets_size {t : ByteArray} (h : (taRowsF t).2 = true) : (lets t).length = w0 (rowsB t) * (rowsB t).length ∧ 0 < w0 (rowsB t) ∧ w0 (rowsB t) * (rowsB t).length ≤ 30 := by
  obtain ⟨h1, h2, h3, h4⟩ := taRowsF_true h
  obtain ⟨g1, g2, g3⟩ := w0_le t
  have hr : ∀ r ∈ rowsB t, r.size = w0 (rowsB t) ∧ 0 < r.size := by
    intro r hr
    have := h3 r hr
    unfold rowOk at this
    simp only [Bool.and_eq_true, beq_iff_eq, bne_iff_ne, ne_eq] at this
    omega
  have hf : fits (rowsB t) = true := h4
  unfold fits at hf
  simp only [Bool.and_eq_true, decide_eq_true_eq] at hf
  have hlen : ∀ (T : List ByteArray), (∀ r ∈ T, r.size = w0 (rowsB t)) → (T.flatMap bytesOf).length = w0 (rowsB t) * T.length := by
    intro T
    induction T with
    | nil => intro _; simp
    | cons a q ih =>
      intro hT
      rw [List.flatMap_cons, List.length_append, ih (fun r hr => hT r (List.mem_cons_of_mem _ hr)), List.length_cons, Nat.mul_add, bytesOf_length, hT a (by simp)]
      omega
  have hl := hlen _ (fun r h => (hr r h).1)
  rw [lets_rows] at hl
  have := hr (rowsB t)[0] (List.getElem_mem g3)
  refine ⟨hl, by omega, ?_⟩
  rw [Nat.mul_comm]
  exact hf.2
/-- The cells of a table. -/
def cells (s : ByteArray) : List Int := (rowsB s).flatMap celB
theorem cells_flat (s : ByteArray) : cells s = (rowsOf s.data.toList).flatten.map cel := by
  unfold cells rowsB
  rw [List.flatMap_map]
  have : (fun r : List UInt8 => celB (mkB r)) = fun r => r.map cel := by funext r; unfold celB; rw [toList_mkB]
  rw [show (fun a => celB (mkB a)) = fun r : List UInt8 => r.map cel from this, List.map_flatten, List.flatMap_def]
theorem cells_lets (s : ByteArray) : cells s = (lets s).map (fun x => x - 48) := by
  rw [cells_flat]
  unfold lets flatB bytesOf
  rw [toList_mkB, List.map_map]
  rfl
theorem cells_n {s : ByteArray} (h : isTab s = true) : (cells s).length = w0 (rowsB s) * (rowsB s).length ∧ w0 (rowsB s) * (rowsB s).length ≤ 30 ∧ 0 < w0 (rowsB s) ∧ (flatB s).size = w0 (rowsB s) * (rowsB s).length := by
  obtain ⟨l1, l2, l3⟩ := lets_size (taRows_of_form h)
  rw [cells_lets, List.length_map]
  refine ⟨l1, l3, l2, ?_⟩
  rw [← lets_len]
  exact l1
theorem cell_at {s : ByteArray} (h : isTab s = true) (i : Nat) (hi : i < (cells s).length) : (bt (flatB s) (i : Int) - 48) % 256 = rd (cells s) (i : Int) ∧ 0 ≤ rd (cells s) (i : Int) ∧ rd (cells s) (i : Int) ≤ 9 := by
  have hi2 : i < (lets s).length := by rw [cells_lets, List.length_map] at hi; exact hi
  obtain ⟨b, hb, e⟩ := lets_in h i hi2
  have hd : dig b = true := by rw [← digs_dig]; simpa using hb
  unfold dig at hd
  rw [Bool.and_eq_true, decide_eq_true_eq, decide_eq_true_eq] at hd
  have e2 : rd (cells s) (i : Int) = rd (lets s) (i : Int) - 48 := by
    rw [rd_at hi, rd_at hi2]
    simp only [cells_lets, List.getElem_map]
  rw [bt_lets, e2, e]
  omega
/-- The tile of two numbers. -/
def tileN (a b : Int) : S_Tile := ⟨mn a b, mx a b⟩
def tileAt (s : ByteArray) (a b : Int) : S_Tile := tileN (rd (cells s) a) (rd (cells s) b)
theorem tiOf_eq (a b : Int) : spec_tiOf.f a b = some (mn a b, mx a b) := by
  unfold spec_tiOf.f spec_l1Least.f spec_l1Most.f mn mx
  by_cases h1 : a < b
  · rw [if_pos h1, if_neg (by omega), if_neg (by omega), if_pos h1]; rfl
  · rw [if_neg h1]
    by_cases h2 : b < a
    · rw [if_pos (by omega), if_pos h2, if_neg h1]; rfl
    · obtain rfl : a = b := by omega
      rw [if_neg (by omega), if_neg h1]; rfl
theorem at_eq {s : ByteArray} (h : isTab s = true) (a b : Int) (ha : 0 ≤ a ∧ a < ((cells s).length : Int)) (hb : 0 ≤ b ∧ b < ((cells s).length : Int)) : impl_at.f (flatB s) a b = some ((tileAt s a b).f0, (tileAt s a b).f1) := by
  obtain ⟨c1, c2, c3, c4⟩ := cells_n h
  obtain ⟨i, rfl⟩ : ∃ i : Nat, a = i := ⟨a.toNat, by omega⟩
  obtain ⟨j, rfl⟩ : ∃ j : Nat, b = j := ⟨b.toNat, by omega⟩
  unfold impl_at.f
  rw [if_pos ha.1, if_pos (by omega), if_pos hb.1, if_pos (by omega), (cell_at h i (by omega)).1, (cell_at h j (by omega)).1]
  rfl
end Go.Proofs.YtokkiiepddhkiaaGreatDoor.Pure
