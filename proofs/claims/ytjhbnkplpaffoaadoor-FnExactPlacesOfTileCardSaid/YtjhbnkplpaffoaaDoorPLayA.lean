/- Layouts, plain: the cells of a text without its strokes, the other cell of a letter. -/
import Derived.Test.YtjhbnkplpaffoaaDoorPTab2
import Derived.Test.YtjhbnkplpaffoaaDoorG2
import Derived.Test.YtjhbnkplpaffoaaDoorG0
import Derived.Test.YtjhbnkplpaffoaaDoorG0
namespace Go.Proofs.YtjhbnkplpaffoaaDoor.Pure
open Go Go.RowKit Go.Proofs.YtjhbnkplpaffoaaDoor.Hd Go.Proofs.YtjhbnkplpaffoaaDoorW.PrintWords Go.Proofs.YtjhbnkplpaffoaaDoorW.PrintLast
set_option linter.unusedVariables false
set_option linter.unusedSimpArgs false
theorem rowsOf_flat : ∀ l : List UInt8, (rowsOf l).flatten = l.filter (· != 47) := by
  intro l
  induction l with
  | nil => rfl
  | cons c t ih =>
    unfold rowsOf
    by_cases hc : c = 47
    · rw [if_pos hc, List.flatten_cons, List.nil_append, ih, hc]
      rfl
    · rw [if_neg hc, List.filter_cons_of_pos (by simpa using hc), ← ih]
      cases hd : rowsOf t with
      | nil => exact absurd hd (rowsOf_ne t)
      | cons r rs => simp only [List.flatten_cons, List.cons_append]
theorem replaceK_flat : ∀ (l : List UInt8) (k : Nat), l.count 47 ≤ k → Lib.replaceK [47] [] k l = l.filter (· != 47) := by
  intro l
  induction l with
  | nil =>
    intro k _
    cases k <;> rfl
  | cons b t ih =>
    intro k hk
    rw [List.count_cons] at hk
    by_cases hb : b = 47
    · subst hb
      simp at hk
      obtain ⟨k', rfl⟩ : ∃ k', k = k' + 1 := ⟨k - 1, by omega⟩
      rw [Lib.replaceK_hit [47] [] k' _ 0 (by rw [index47, if_pos rfl]; rfl), List.filter_cons_of_neg (by simp), ← ih k' (by omega)]
      rfl
    · rw [List.filter_cons_of_pos (by simpa using hb)]
      have hk2 : t.count 47 ≤ k := by omega
      rw [← ih k hk2]
      by_cases hi : Lib.index t [47] = -1
      · have e1 : Lib.index (b :: t) [47] = -1 := by rw [index47, if_neg hb, if_pos (by rw [hi]; rfl)]
        cases k with
        | zero => rfl
        | succ k =>
          unfold Lib.replaceK
          rw [e1, hi]
          rfl
      · have hc := index47_count t hi
        obtain ⟨k', rfl⟩ : ∃ k', k = k' + 1 := ⟨k - 1, by omega⟩
        have hg := Lib.index_ge t [47]
        obtain ⟨i, hii⟩ : ∃ i : Nat, Lib.index t [47] = i := ⟨(Lib.index t [47]).toNat, by omega⟩
        have e1 : Lib.index (b :: t) [47] = ((i + 1 : Nat) : Int) := by
          rw [index47, if_neg hb, if_neg (by rw [beq_iff_eq]; exact hi), hii]; rfl
        rw [Lib.replaceK_hit [47] [] k' _ (i + 1) e1, Lib.replaceK_hit [47] [] k' _ i hii]
        rfl
/-- The cells of a text, one behind the other. -/
def flatB (s : ByteArray) : ByteArray := mkB (rowsOf s.data.toList).flatten
theorem flat_eq (s : ByteArray) (hs : s.size ≤ 1048576) : impl_flat.f s = some (flatB s) := by
  unfold impl_flat.f strings_ReplaceAll.f
  rw [if_pos ⟨by omega, by decide, by show s.size + Lib.countB s ⟨#[47]⟩ * 0 ≤ _; omega⟩, Option.bind_some]
  congr 1
  unfold flatB mkB Lib.replaceAll Lib.replace
  have e : ((⟨#[47]⟩ : ByteArray).data.toList == (⟨#[]⟩ : ByteArray).data.toList) = false := rfl
  rw [e]
  show ByteArray.mk (Lib.replaceK [47] [] (Lib.replaceNum s.data.toList [47] (-1)) s.data.toList).toArray = _
  rw [replaceK_flat _ _ ?_, rowsOf_flat]
  unfold Lib.replaceNum
  rw [if_pos (Or.inl (by decide)), Lib.count_one]
  exact Nat.le_refl _
/-- The letters (or digits) of a text as numbers. -/
def lets (s : ByteArray) : List Int := bytesOf (flatB s)
theorem lets_len (s : ByteArray) : (lets s).length = (flatB s).size := bytesOf_length _
theorem bt_lets (s : ByteArray) (i : Int) : bt (flatB s) i = rd (lets s) i := (rd_bytesOf _ i).symm
theorem lets_in {s sg : ByteArray} (h : formF (rowsB s) sg = true) (i : Nat) (hi : i < (lets s).length) : ∃ b ∈ sg.data.toList, rd (lets s) (i : Int) = (b.toNat : Int) := by
  unfold formF at h
  rw [Bool.and_eq_true, List.all_eq_true] at h
  unfold lets bytesOf flatB at hi ⊢
  rw [toList_mkB] at hi ⊢
  rw [rd_at hi, List.getElem_map]
  refine ⟨_, ?_, rfl⟩
  rw [List.length_map] at hi
  have hm := List.getElem_mem hi
  rw [List.mem_flatten] at hm
  obtain ⟨r, hr, hb⟩ := hm
  have := h.1 (mkB r) (List.mem_map.2 ⟨r, hr, rfl⟩)
  unfold cellOk at this
  rw [Bool.and_eq_true, toList_mkB, List.all_eq_true] at this
  simpa using this.2 _ hb
theorem east_lt {w h i : Nat} (hi : i < w * h) (he : i % w < w - 1) : i + 1 < w * h := by
  have h1 := Nat.div_add_mod i w
  have hq : i / w < h := Nat.div_lt_of_lt_mul hi
  have h2 : w * (i / w + 1) ≤ w * h := Nat.mul_le_mul_left _ hq
  rw [Nat.mul_add, Nat.mul_one] at h2
  omega
theorem tmod_nat (a b : Nat) : Int.tmod (a : Int) (b : Int) = ((a % b : Nat) : Int) := by
  rw [Int.tmod_eq_emod_of_nonneg (by omega)]
  rfl
end Go.Proofs.YtjhbnkplpaffoaaDoor.Pure
