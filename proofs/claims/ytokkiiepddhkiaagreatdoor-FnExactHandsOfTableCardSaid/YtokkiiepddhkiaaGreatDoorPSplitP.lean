/- A text cut at its strokes, plain. -/
import Derived.Lib.SplitLaws
import Derived.Lib.SlTrimSet
namespace Go.Proofs.YtokkiiepddhkiaaGreatDoor.Pure
open Go
set_option linter.unusedVariables false
set_option linter.unusedSimpArgs false
/-- The pieces of a text between strokes (the byte 47). -/
def rowsOf : List UInt8 → List (List UInt8)
  | [] => [[]]
  | b :: t => if b = 47 then [] :: rowsOf t else match rowsOf t with
    | [] => [[b]]
    | r :: rs => (b :: r) :: rs
theorem rowsOf_ne (l : List UInt8) : rowsOf l ≠ [] := by
  cases l with
  | nil => simp [rowsOf]
  | cons b t =>
    unfold rowsOf
    split
    · simp
    · split <;> simp
theorem index47 (b : UInt8) (t : List UInt8) : Lib.index (b :: t) [47] = if b = 47 then 0 else if Lib.index t [47] == -1 then -1 else Lib.index t [47] + 1 := by
  unfold Lib.index
  by_cases h : b = 47
  · subst h; rfl
  · rw [if_neg h]
    have : List.isPrefixOf [47] (b :: t) = false := by
      simp [List.isPrefixOf]
      exact fun q => h q.symm
    rw [this]
    simp only [Bool.false_eq_true, if_false]
    cases t <;> rfl
theorem index47_count : ∀ (l : List UInt8), Lib.index l [47] ≠ -1 → 1 ≤ l.count 47 := by
  intro l
  induction l with
  | nil => intro h; exact absurd rfl h
  | cons b t ih =>
    intro h
    rw [List.count_cons]
    by_cases hb : b = 47
    · subst hb; simp
    · rw [index47, if_neg hb] at h
      split at h
      · exact absurd rfl h
      · rename_i q
        have := ih (fun e => q (by rw [e]; rfl))
        omega
theorem splitK_rows : ∀ (l : List UInt8) (k : Nat), l.count 47 ≤ k → Lib.splitK [47] 0 k l = rowsOf l := by
  intro l
  induction l with
  | nil =>
    intro k _
    cases k <;> rfl
  | cons b t ih =>
    intro k hk
    rw [List.count_cons] at hk
    unfold rowsOf
    by_cases hb : b = 47
    · subst hb
      rw [if_pos rfl]
      simp at hk
      obtain ⟨k', rfl⟩ : ∃ k', k = k' + 1 := ⟨k - 1, by omega⟩
      unfold Lib.splitK
      rw [index47, if_pos rfl]
      simp only [show ((0 : Int) == -1) = false from rfl, Bool.false_eq_true, if_false]
      rw [← ih k' (by omega)]
      rfl
    · rw [if_neg hb]
      have hk2 : t.count 47 ≤ k := by omega
      rw [← ih k hk2]
      by_cases hi : Lib.index t [47] = -1
      · have e1 : Lib.index (b :: t) [47] = -1 := by rw [index47, if_neg hb, if_pos (by rw [hi]; rfl)]
        cases k with
        | zero => rfl
        | succ k =>
          unfold Lib.splitK
          rw [e1, hi]
          rfl
      · have hc := index47_count t hi
        obtain ⟨k', rfl⟩ : ∃ k', k = k' + 1 := ⟨k - 1, by omega⟩
        have hg := Lib.index_ge t [47]
        obtain ⟨i, hii⟩ : ∃ i : Nat, Lib.index t [47] = i := ⟨(Lib.index t [47]).toNat, by omega⟩
        have e1 : Lib.index (b :: t) [47] = ((i + 1 : Nat) : Int) := by
          rw [index47, if_neg hb, if_neg (by rw [beq_iff_eq]; exact hi), hii]; rfl
        unfold Lib.splitK
        rw [e1, hii]
        have n1 : ((((i + 1 : Nat) : Int)) == -1) = false := beq_eq_false_iff_ne.2 (by omega)
        have n2 : ((i : Int) == -1) = false := beq_eq_false_iff_ne.2 (by omega)
        rw [n1, n2]
        simp only [Bool.false_eq_true, if_false, Int.toNat_natCast]
        rfl
theorem split_rows (s : ByteArray) (sep : ByteArray) (h : sep.data.toList = [47]) : (Lib.splitB sep 0 (Lib.countB s sep) s).map (·.data.toList) = rowsOf s.data.toList := by
  rw [Lib.splitB_data, h]
  refine splitK_rows _ _ ?_
  have : Lib.countB s sep = Lib.count s.data.toList sep.data.toList := rfl
  rw [this, h, Lib.count_one]
  exact Nat.le_refl _
theorem dropWhile_all {α : Type} (p : α → Bool) : ∀ l : List α, l.dropWhile p = [] ↔ ∀ x ∈ l, p x = true := by
  intro l
  induction l with
  | nil => simp
  | cons a t ih =>
    by_cases h : p a = true
    · rw [List.dropWhile_cons_of_pos h, ih]; simp [h]
    · rw [List.dropWhile_cons_of_neg h]; simp [h]
theorem dropWhile_head {α : Type} (p : α → Bool) : ∀ (l : List α) (a : α) (t : List α), l.dropWhile p = a :: t → p a = false := by
  intro l
  induction l with
  | nil => intro a t h; cases h
  | cons b r ih =>
    intro a t h
    by_cases hb : p b = true
    · rw [List.dropWhile_cons_of_pos hb] at h; exact ih a t h
    · rw [List.dropWhile_cons_of_neg hb] at h
      injection h with h1 h2
      subst h1
      simpa using hb
theorem trim_nil (l cs : List UInt8) : Lib.trimS l cs = [] ↔ ∀ x ∈ l, cs.contains x = true := by
  unfold Lib.trimS Lib.trimLeftS Lib.trimRightS
  rw [dropWhile_all]
  constructor
  · intro h
    have hm : l.reverse.dropWhile (cs.contains ·) = [] := by
      cases hd : l.reverse.dropWhile (cs.contains ·) with
      | nil => rfl
      | cons a t =>
        have h1 := dropWhile_head _ _ _ _ hd
        have h2 := h a (by rw [hd]; simp)
        rw [h2] at h1; cases h1
    rw [dropWhile_all] at hm
    exact fun x hx => hm x (List.mem_reverse.2 hx)
  · intro h x hx
    have : l.reverse.dropWhile (cs.contains ·) = [] := (dropWhile_all _ _).2 fun y hy => h y (List.mem_reverse.1 hy)
    rw [this] at hx
    cases hx
theorem rowsOf_hit : ∀ (a r : List UInt8), 47 ∉ a → rowsOf (a ++ 47 :: r) = a :: rowsOf r := by
  intro a
  induction a with
  | nil => intro r _; rfl
  | cons b t ih =>
    intro r h
    have hb : b ≠ 47 := fun e => h (by rw [e]; simp)
    rw [List.cons_append]
    conv => lhs; unfold rowsOf
    rw [if_neg hb, ih r (fun q => h (List.mem_cons_of_mem _ q))]
theorem rowsOf_end : ∀ (a : List UInt8), 47 ∉ a → rowsOf a = [a] := by
  intro a
  induction a with
  | nil => intro _; rfl
  | cons b t ih =>
    intro h
    have hb : b ≠ 47 := fun e => h (by rw [e]; simp)
    conv => lhs; unfold rowsOf
    rw [if_neg hb, ih (fun q => h (List.mem_cons_of_mem _ q))]
theorem rows_cut (l : List UInt8) (a i : Nat) (ha : a ≤ i) (hi : i < l.length) (h47 : l[i] = 47) (hno : 47 ∉ (l.take i).drop a) : rowsOf (l.drop a) = (l.take i).drop a :: rowsOf (l.drop (i + 1)) := by
  have e : l.drop a = (l.take i).drop a ++ 47 :: l.drop (i + 1) := by
    have h1 : l = l.take i ++ l.drop i := (List.take_append_drop i l).symm
    have h2 : l.drop i = 47 :: l.drop (i + 1) := by rw [List.drop_eq_getElem_cons hi, h47]
    conv => lhs; rw [h1]
    rw [List.drop_append_of_le_length (by rw [List.length_take]; omega), h2]
  rw [e]
  exact rowsOf_hit _ _ hno
theorem no47_step (l : List UInt8) (a i : Nat) (ha : a ≤ i) (hi : i < l.length) (h47 : l[i] ≠ 47) (hno : 47 ∉ (l.take i).drop a) : 47 ∉ (l.take (i + 1)).drop a := by
  rw [List.take_succ_eq_append_getElem hi, List.drop_append_of_le_length (by rw [List.length_take]; omega), List.mem_append]
  rintro (h | h)
  · exact hno h
  · exact h47 (List.mem_singleton.1 h).symm
def sumL : List (List UInt8) → Nat
  | [] => 0
  | r :: t => r.length + sumL t
theorem rowsOf_len : ∀ l : List UInt8, l.length + 1 = sumL (rowsOf l) + (rowsOf l).length := by
  intro l
  induction l with
  | nil => rfl
  | cons b t ih =>
    unfold rowsOf
    by_cases hb : b = 47
    · rw [if_pos hb]
      simp only [sumL, List.length_cons, List.length_nil]
      omega
    · rw [if_neg hb]
      cases hd : rowsOf t with
      | nil => exact absurd hd (rowsOf_ne t)
      | cons r rs =>
        rw [hd] at ih
        simp only [sumL, List.length_cons] at ih ⊢
        omega
theorem sumL_same {w : Nat} : ∀ l : List (List UInt8), (∀ r ∈ l, r.length = w) → sumL l = l.length * w := by
  intro l
  induction l with
  | nil => intro _; simp [sumL]
  | cons a t ih =>
    intro h
    simp only [sumL, List.length_cons]
    rw [ih (fun r hr => h r (List.mem_cons_of_mem _ hr)), h a (by simp), Nat.add_mul]
    omega
end Go.Proofs.YtokkiiepddhkiaaGreatDoor.Pure
