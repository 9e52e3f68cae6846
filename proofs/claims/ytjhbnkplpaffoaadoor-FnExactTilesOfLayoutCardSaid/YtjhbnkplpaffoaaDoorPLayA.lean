/- Layouts, plain: the cells of a text without its strokes, the other cell of a letter. -/
import Derived.Test.YtjhbnkplpaffoaaDoorPTab2
import Derived.Test.YtjhbnkplpaffoaaDoorG3
import Derived.Test.YtjhbnkplpaffoaaDoorG0
import Derived.Test.YtjhbnkplpaffoaaDoorG0
namespace Go.Proofs.YtjhbnkplpaffoaaDoor.Pure
open Go Go.RowKit Go.Proofs.YtjhbnkplpaffoaaDoor.Hd Go.Proofs.YtjhbnkplpaffoaaDoorW.PrintWords Go.Proofs.YtjhbnkplpaffoaaDoorW.PrintLast
set_option linter.unusedVariables false
set_option linter.unusedSimpArgs false
theorem rowsOf_flat : ∀ l : List UInt8, (rowsOf l).flatten = l.filter (· != 47) := by
  intro l
  induction l with
  | nil => rfl
  | cons c t ih =>
    unfold rowsOf
    by_cases hc : c = 47
    · rw [if_pos hc, List.flatten_cons, List.nil_append, ih, hc]
      rfl
    · rw [if_neg hc, List.filter_cons_of_pos (by simpa using hc), ← ih]
      cases hd : rowsOf t with
      | nil => exact absurd hd (rowsOf_ne t)
      | cons r rs => simp only [List.flatten_cons, List.cons_append]
theorem replaceK_flat : ∀ (l : List UInt8) (k : Nat), l.count 47 ≤ k → Lib.replaceK [47] [] k l = l.filter (· != 47) := by
  intro l
  induction l with
  | nil =>
    intro k _
    cases k <;> rfl
  | cons b t ih =>
    intro k hk
    rw [List.count_cons] at hk
    by_cases hb : b = 47
    · subst hb
      simp at hk
      obtain ⟨k', rfl⟩ : ∃ k', k = k' + 1 := ⟨k - 1, by omega⟩
      rw [Lib.replaceK_hit [47] [] k' _ 0 (by rw [index47, if_pos rfl]; rfl), List.filter_cons_of_neg (by simp), ← ih k' (by omega)]
      rfl
    · rw [List.filter_cons_of_pos (by simpa using hb)]
      have hk2 : t.count 47 ≤ k := by omega
      rw [← ih k hk2]
      by_cases hi : Lib.index t [47] = -1
      · have e1 : Lib.index (b :: t) [47] = -1 := by rw [index47, if_neg hb, if_pos (by rw [hi]; rfl)]
        cases k with
        | zero => rfl
        | succ k =>
          unfold Lib.replaceK
          rw [e1, hi]
          rfl
      · have hc := index47_count t hi
        obtain ⟨k', rfl⟩ : ∃ k', k = k' + 1 := ⟨k - 1, by omega⟩
        have hg := Lib.index_ge t [47]
        obtain ⟨i, hii⟩ : ∃ i : Nat, Lib.index t [47] = i := ⟨(Lib.index t [47]).toNat, by omega⟩
        have e1 : Lib.index (b :: t) [47] = ((i + 1 : Nat) : Int) := by
          rw [index47, if_neg hb, if_neg (by rw [beq_iff_eq]; exact hi), hii]; rfl
        rw [Lib.replaceK_hit [47] [] k' _ (i + 1) e1, Lib.replaceK_hit [47] [] k' _ i hii]
        rfl
/-- The cells of a text, one behind the other. -/
def flatB (s : ByteArray) : ByteArray := mkB (rowsOf s.data.toList).flatten
theorem flat_eq (s : ByteArray) (hs : s.size ≤ 1048576) : impl_flat.f s = some (flatB s) := by
  unfold impl_flat.f strings_ReplaceAll.f
  rw [if_pos ⟨by omega, by decide, by show s.size + Lib.countB s ⟨#[47]⟩ * 0 ≤ _; omega⟩, Option.bind_some]
  congr 1
  unfold flatB mkB Lib.replaceAll Lib.replace
  have e : ((⟨#[47]⟩ : ByteArray).data.toList == (⟨#[]⟩ : ByteArray).data.toList) = false := rfl
  rw [e]
  show ByteArray.mk (Lib.replaceK [47] [] (Lib.replaceNum s.data.toList [47] (-1)) s.data.toList).toArray = _
  rw [replaceK_flat _ _ ?_, rowsOf_flat]
  unfold Lib.replaceNum
  rw [if_pos (Or.inl (by decide)), Lib.count_one]
  exact Nat.le_refl _
/-- The letters (or digits) of a text as numbers. -/
def lets (s : ByteArray) : List Int := bytesOf (flatB s)
theorem lets_len (s : ByteArray) : (lets s).length = (flatB s).size := bytesOf_length _
theorem bt_lets (s : ByteArray) (i : Int) : bt (flatB s) i = rd (lets s) i := (rd_bytesOf _ i).symm
theorem lets_in {s sg : ByteArray} (h : formF (rowsB s) sg = true) (i : Nat) (hi : i < (lets s).length) : ∃ b ∈ sg.data.toList, rd (lets s) (i : Int) = (b.toNat : Int) := by
  unfold formF at h
  rw [Bool.and_eq_true, List.all_eq_true] at h
  unfold lets bytesOf flatB at hi ⊢
  rw [toList_mkB] at hi ⊢
  rw [rd_at hi, List.getElem_map]
  refine ⟨_, ?_, rfl⟩
  rw [List.length_map] at hi
  have hm := List.getElem_mem hi
  rw [List.mem_flatten] at hm
  obtain ⟨r, hr, hb⟩ := hm
  have := h.1 (mkB r) (List.mem_map.2 ⟨r, hr, rfl⟩)
  unfold cellOk at this
  rw [Bool.and_eq_true, toList_mkB, List.all_eq_true] at this
  simpa using this.2 _ hb
/-- The other cell that a letter tells, or -1. -/
def otherF (w n i : Nat) (c : Int) : Int := if c = 110 ∧ w ≤ i then (i : Int) - w else if c = 115 ∧ i + w < n then (i : Int) + w else if c = 101 ∧ i % w < w - 1 then (i : Int) + 1 else if c = 119 ∧ 0 < i % w then (i : Int) - 1 else -1
def backF (c : Int) : Int := if c = 110 then 115 else if c = 115 then 110 else if c = 101 then 119 else 101
theorem back_eq (c : Int) : spec_taBack.f c = some (backF c) := by
  unfold spec_taBack.f backF
  split
  · rfl
  · split
    · rfl
    · split <;> rfl
theorem east_lt {w h i : Nat} (hi : i < w * h) (he : i % w < w - 1) : i + 1 < w * h := by
  have h1 := Nat.div_add_mod i w
  have hq : i / w < h := Nat.div_lt_of_lt_mul hi
  have h2 : w * (i / w + 1) ≤ w * h := Nat.mul_le_mul_left _ hq
  rw [Nat.mul_add, Nat.mul_one] at h2
  omega
theorem other_bd {w h i : Nat} (c : Int) (hi : i < w * h) : -1 ≤ otherF w (w * h) i c ∧ otherF w (w * h) i c < ((w * h : Nat) : Int) := by
  unfold otherF
  split
  · omega
  · split
    · omega
    · split
      · rename_i hc
        have := east_lt hi hc.2
        omega
      · split
        · rename_i hc
          have : i % w ≤ i := Nat.mod_le _ _
          omega
        · omega
theorem tmod_nat (a b : Nat) : Int.tmod (a : Int) (b : Int) = ((a % b : Nat) : Int) := by
  rw [Int.tmod_eq_emod_of_nonneg (by omega)]
  rfl
theorem taOther_ev (w h i : Nat) (L : List Int) (c : Int) (hw : 0 < w) (hwh : w * h ≤ 1000) (hi : i < w * h) : Ev (fun k => spec_taOther.f k (w : Int) (h : Int) L (i : Int) c) (otherF w (w * h) i c) := by
  have hh : 0 < h := Nat.pos_of_ne_zero (fun e => by subst e; simp at hi)
  have hw1 : w * 1 ≤ w * h := Nat.mul_le_mul_left _ hh
  have ew : wrap64 ((w : Int) * (h : Int)) = ((w * h : Nat) : Int) := mul_w (by omega)
  have e1 : wrap64 ((i : Int) + (w : Int)) = (i : Int) + (w : Int) := w64' rfl (by omega) (by omega)
  have e2 : wrap64 ((i : Int) - (w : Int)) = (i : Int) - (w : Int) := w64' rfl (by omega) (by omega)
  have e3 : wrap64 ((w : Int) - 1) = (w : Int) - 1 := w64' rfl (by omega) (by omega)
  have e4 : wrap64 ((i : Int) + 1) = (i : Int) + 1 := w64' rfl (by omega) (by omega)
  have e5 : wrap64 ((i : Int) - 1) = (i : Int) - 1 := w64' rfl (by omega) (by omega)
  have hm : i % w < w := Nat.mod_lt _ hw
  unfold spec_taOther.f
  by_cases n1 : c = 110
  · subst n1
    refine Ev.pos rfl (Ev.succ ?_)
    simp only [spec_taOther.j0]
    by_cases q : w ≤ i
    · refine Ev.pos (decide_eq_true (by omega)) (Ev.ret ?_)
      unfold otherF
      rw [if_pos ⟨rfl, q⟩, e2]
    · refine Ev.neg (by simp; omega) (Ev.neg (by decide) (Ev.succ ?_))
      simp only [spec_taOther.j1]
      refine Ev.neg (by simp) (Ev.neg (by decide) (Ev.succ ?_))
      simp only [spec_taOther.j2]
      refine Ev.neg (by simp) (Ev.neg (by decide) (Ev.ret ?_))
      unfold otherF
      rw [if_neg (by omega), if_neg (by omega), if_neg (by omega), if_neg (by omega)]
  refine Ev.neg n1 (Ev.succ ?_)
  simp only [spec_taOther.j0]
  refine Ev.neg (by simp) ?_
  by_cases n2 : c = 115
  · subst n2
    refine Ev.pos rfl (Ev.succ ?_)
    simp only [spec_taOther.j1]
    rw [e1, ew]
    by_cases q : i + w < w * h
    · refine Ev.pos (decide_eq_true (by omega)) (Ev.ret ?_)
      unfold otherF
      rw [if_neg (by omega), if_pos ⟨rfl, q⟩]
    · refine Ev.neg (by simp; omega) (Ev.neg (by decide) (Ev.succ ?_))
      simp only [spec_taOther.j2]
      refine Ev.neg (by simp) (Ev.neg (by decide) (Ev.ret ?_))
      unfold otherF
      rw [if_neg (by omega), if_neg (by omega), if_neg (by omega), if_neg (by omega)]
  refine Ev.neg n2 (Ev.succ ?_)
  simp only [spec_taOther.j1]
  refine Ev.neg (by simp) ?_
  by_cases n3 : c = 101
  · subst n3
    refine Ev.pos rfl (Ev.neg (by omega) (Ev.succ ?_))
    simp only [spec_taOther.j2]
    rw [tmod_nat, e3, e4]
    by_cases q : i % w < w - 1
    · refine Ev.pos (decide_eq_true (by omega)) (Ev.ret ?_)
      unfold otherF
      rw [if_neg (by omega), if_neg (by omega), if_pos ⟨rfl, q⟩]
    · refine Ev.neg (by rw [decide_eq_true_eq]; omega) (Ev.neg (by decide) (Ev.ret ?_))
      unfold otherF
      rw [if_neg (by omega), if_neg (by omega), if_neg (by omega), if_neg (by omega)]
  refine Ev.neg n3 (Ev.succ ?_)
  simp only [spec_taOther.j2]
  refine Ev.neg (by simp) ?_
  by_cases n4 : c = 119
  · subst n4
    refine Ev.pos rfl (Ev.neg (by omega) ?_)
    rw [tmod_nat, e5]
    by_cases q : 0 < i % w
    · refine Ev.pos (by omega) (Ev.ret ?_)
      unfold otherF
      rw [if_neg (by omega), if_neg (by omega), if_neg (by omega), if_pos ⟨rfl, q⟩]
    · refine Ev.neg (by omega) (Ev.ret ?_)
      unfold otherF
      rw [if_neg (by omega), if_neg (by omega), if_neg (by omega), if_neg (by omega)]
  · refine Ev.neg n4 (Ev.ret ?_)
    unfold otherF
    rw [if_neg (by omega), if_neg (by omega), if_neg (by omega), if_neg (by omega)]
/-- A cell whose other cell points back. -/
def goodC (w n : Nat) (L : List Int) (i : Nat) : Bool := decide (0 ≤ otherF w n i (rd L (i : Int))) && (rd L (otherF w n i (rd L (i : Int))) == backF (rd L (i : Int)))
def allC (w n : Nat) (L : List Int) (i d : Nat) : Bool := (List.range' i d).all (goodC w n L)
end Go.Proofs.YtjhbnkplpaffoaaDoor.Pure
