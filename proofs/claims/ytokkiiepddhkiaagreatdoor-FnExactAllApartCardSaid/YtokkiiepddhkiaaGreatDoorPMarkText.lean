/- Plain laws of the statements' own helpers over slices of texts: eqStringS, markStringS, heldStringS. -/
import Derived.Test.YtokkiiepddhkiaaGreatDoorPEv
import Derived.Test.YtokkiiepddhkiaaGreatDoorG0
import Derived.Test.YtokkiiepddhkiaaGreatDoorG0
import Derived.Test.YtokkiiepddhkiaaGreatDoorG1
namespace Go.Proofs.YtokkiiepddhkiaaGreatDoor.Pure
open Go.RowKit Go.Proofs.YtokkiiepddhkiaaGreatDoor.Hd Go.Proofs.YtokkiiepddhkiaaGreatDoorW.PrintWords Go.Proofs.YtokkiiepddhkiaaGreatDoorW.PrintLast
set_option linter.unusedVariables false
set_option linter.unusedSimpArgs false
theorem eqStringS_l0 (l : List ByteArray) (hl : l.length ≤ 35184372088832) : ∀ (d i : Nat), i + d = l.length → Ev (fun k => laws_eqStringS.l0 k l l (i : Int)) true := by
  intro d
  induction d with
  | zero =>
    intro i hi
    refine Ev.succ ?_
    simp only [laws_eqStringS.l0]
    exact Ev.neg (by omega) (Ev.ret rfl)
  | succ d ih =>
    intro i hi
    refine Ev.succ ?_
    simp only [laws_eqStringS.l0]
    refine Ev.pos (by omega) (Ev.pos (by omega) (Ev.pos (by omega) (Ev.pos trivial ?_)))
    rw [w64' (n := (i : Int) + 1) (m := ((i + 1 : Nat) : Int)) (by omega) (by omega) (by omega)]
    exact ih (i + 1) (by omega)
theorem eqStringS_ev (l : List ByteArray) (hl : l.length ≤ 35184372088832) : Ev (fun k => laws_eqStringS.f k l l) true := by
  unfold laws_eqStringS.f
  exact Ev.pos rfl (eqStringS_l0 l hl l.length 0 (by omega))
def P10 : Nat → Nat
  | 0 => 1
  | n + 1 => 10 * P10 n
theorem markText_l0 : ∀ (n : Nat) (x : Int) (acc : ByteArray), 0 ≤ x → x < (P10 n : Int) → x ≤ 70368744177664 → acc.size + n < 1000000 → ∃ r, Ev (fun k => laws_markText.l0 k x acc) r := by
  intro n
  induction n with
  | zero =>
    intro x acc h0 h1 h64 h2
    simp only [P10] at h1
    refine ⟨(⟨#[109]⟩ : ByteArray) ++ acc, Ev.succ ?_⟩
    simp only [laws_markText.l0]
    exact Ev.neg (by omega) (Ev.pos (by omega) (Ev.ret rfl))
  | succ n ih =>
    intro x acc h0 h1 h64 h2
    simp only [P10] at h1
    by_cases hx : x > 0
    · have e : Int.tdiv x 10 = x / 10 := Int.tdiv_eq_ediv_of_nonneg h0
      have hb : x / 10 < (P10 n : Int) := by omega
      obtain ⟨r, hr⟩ := ih (x / 10) (strOfNums [(wrap64 (48 + (Int.tmod x 10))) % 256] ++ acc) (by omega) hb (by omega) (by rw [ByteArray.size_append, strOfNums_size]; simp only [List.length_cons, List.length_nil]; omega)
      refine ⟨r, Ev.succ ?_⟩
      simp only [laws_markText.l0]
      refine Ev.pos hx (Ev.bs rfl (Ev.pos (by rw [strOfNums_size]; simp only [List.length_cons, List.length_nil]; omega) ?_))
      rw [e, w64' (n := x / 10) (m := x / 10) rfl (by omega) (by omega)]
      exact hr
    · refine ⟨(⟨#[109]⟩ : ByteArray) ++ acc, Ev.succ ?_⟩
      simp only [laws_markText.l0]
      exact Ev.neg hx (Ev.pos (by omega) (Ev.ret rfl))
theorem markText_ex (a : Int) (h0 : 0 ≤ a) (h1 : a ≤ 70368744177664) : ∃ r, Ev (fun k => laws_markText.f k a) r := by
  by_cases h : a ≤ 0
  · refine ⟨(⟨#[109, 48]⟩ : ByteArray), ?_⟩
    unfold laws_markText.f
    exact Ev.pos h (Ev.ret rfl)
  · obtain ⟨r, hr⟩ := markText_l0 14 a (⟨#[]⟩ : ByteArray) h0 (by simp only [P10]; omega) h1 (by decide)
    refine ⟨r, ?_⟩
    unfold laws_markText.f
    exact Ev.neg h hr
open Classical in
/-- A mark's text (chosen: all that counts is that it is one and the same). -/
noncomputable def markF (a : Int) : ByteArray := if h : ∃ r, Ev (fun k => laws_markText.f k a) r then h.choose else ByteArray.empty
theorem markF_ev (a : Int) (h0 : 0 ≤ a) (h1 : a ≤ 70368744177664) : Ev (fun k => laws_markText.f k a) (markF a) := by
  have h := markText_ex a h0 h1
  unfold markF
  rw [dif_pos h]
  exact h.choose_spec
noncomputable def marksS (n : Nat) (a : Int) : List ByteArray := (List.range n).map fun i => markF (a + (i : Nat))
theorem marksS_length (n : Nat) (a : Int) : (marksS n a).length = n := by unfold marksS; simp
theorem marksS_get (n : Nat) (a : Int) (i : Nat) (h : i < n) : (marksS n a)[i]? = some (markF (a + (i : Nat))) := by
  unfold marksS
  rw [List.getElem?_map, List.getElem?_range h]
  rfl
theorem marksS_at (n : Nat) (a : Int) (i : Nat) (h : i < (marksS n a).length) : (marksS n a)[i] = markF (a + (i : Nat)) := by
  have := marksS_get n a i (by rw [marksS_length] at h; exact h)
  rw [List.getElem?_eq_getElem h] at this
  exact Option.some.inj this
theorem markStringS_l0 (n : Nat) (a : Int) (hn : n ≤ 35184372088832) (ha0 : 0 ≤ a) (ha : a ≤ 35184372088832) : ∀ (d i : Nat) (acc : List ByteArray), i + d = n → acc.length = n → acc.take i = (marksS n a).take i →
    Ev (fun k => laws_markStringS.l0 k acc (a + (i : Nat)) (i : Int)) (a + n, marksS n a) := by
  intro d
  induction d with
  | zero =>
    intro i acc hi hl ht
    refine Ev.succ ?_
    simp only [laws_markStringS.l0]
    refine Ev.neg (by omega) (Ev.ret ?_)
    rw [take_all (by rw [marksS_length]; exact hl) ht (by rw [marksS_length]; omega), show i = n by omega]
  | succ d ih =>
    intro i acc hi hl ht
    refine Ev.succ ?_
    simp only [laws_markStringS.l0]
    have hlt : i < (marksS n a).length := by rw [marksS_length]; omega
    refine Ev.pos (by omega) (Ev.bd (markF_ev (a + (i : Nat)) (by omega) (by omega)) (Ev.pos (by omega) ?_))
    rw [w64' (n := (i : Int) + 1) (m := ((i + 1 : Nat) : Int)) (by omega) (by omega) (by omega), w64' (n := a + (i : Int) + 1) (m := a + ((i + 1 : Nat) : Int)) (by omega) (by omega) (by omega), Int.toNat_natCast]
    refine ih (i + 1) _ (by omega) (by rw [List.length_set]; exact hl) ?_
    rw [← marksS_at n a i hlt]
    exact set_take acc _ i (by rw [marksS_length]; exact hl) ht hlt
theorem markStringS_ev (l : List ByteArray) (a : Int) (hn : l.length ≤ 35184372088832) (ha0 : 0 ≤ a) (ha : a ≤ 35184372088832) : Ev (fun k => laws_markStringS.f k l a) (a + (l.length : Int), marksS l.length a) := by
  unfold laws_markStringS.f
  have h := markStringS_l0 l.length a hn ha0 ha l.length 0 l (by omega) rfl (by simp)
  rw [show a + ((0 : Nat) : Int) = a by omega] at h
  exact h
theorem heldStringS_l0 (n : Nat) (a : Int) (hn : n ≤ 35184372088832) (ha0 : 0 ≤ a) (ha : a ≤ 35184372088832) : ∀ (d i : Nat), i + d = n →
    Ev (fun k => laws_heldStringS.l0 k (marksS n a) (a + (i : Nat)) (i : Int)) (a + (n : Int)) := by
  intro d
  induction d with
  | zero =>
    intro i hi
    refine Ev.succ ?_
    simp only [laws_heldStringS.l0]
    exact Ev.neg (by rw [marksS_length]; omega) (Ev.ret (by omega))
  | succ d ih =>
    intro i hi
    refine Ev.succ ?_
    simp only [laws_heldStringS.l0]
    have hlt : i < (marksS n a).length := by rw [marksS_length]; omega
    have e : rdOf ByteArray.empty (marksS n a) (i : Int) = markF (a + (i : Nat)) := by
      unfold rdOf
      rw [Int.toNat_natCast, List.getD_eq_getElem?_getD, marksS_get n a i (by omega)]
      rfl
    refine Ev.pos (by omega) (Ev.pos (by omega) (Ev.bd (markF_ev (a + (i : Nat)) (by omega) (by omega)) (Ev.pos (by rw [e]) ?_)))
    rw [w64' (n := (i : Int) + 1) (m := ((i + 1 : Nat) : Int)) (by omega) (by omega) (by omega), w64' (n := a + (i : Int) + 1) (m := a + ((i + 1 : Nat) : Int)) (by omega) (by omega) (by omega)]
    exact ih (i + 1) (by omega)
theorem heldStringS_ev (n : Nat) (a : Int) (hn : n ≤ 35184372088832) (ha0 : 0 ≤ a) (ha : a ≤ 35184372088832) : Ev (fun k => laws_heldStringS.f k (marksS n a) a) (a + (n : Int)) := by
  unfold laws_heldStringS.f
  have h := heldStringS_l0 n a hn ha0 ha n 0 (by omega)
  rw [show a + ((0 : Nat) : Int) = a by omega] at h
  exact h
end Go.Proofs.YtokkiiepddhkiaaGreatDoor.Pure
