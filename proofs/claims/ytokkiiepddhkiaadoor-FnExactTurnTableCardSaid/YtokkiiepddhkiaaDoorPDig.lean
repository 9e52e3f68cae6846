/- The text of digits of a grid: the reference's taDigits; plain. -/
import Derived.Test.YtokkiiepddhkiaaDoorPMirP
import Derived.Test.YtokkiiepddhkiaaDoorPCells
import Derived.Test.YtokkiiepddhkiaaDoorG2
namespace Go.Proofs.YtokkiiepddhkiaaDoor.Pure
open Go Go.RowKit Go.Proofs.YtokkiiepddhkiaaDoor.Hd Go.Proofs.YtokkiiepddhkiaaDoorW.PrintWords Go.Proofs.YtokkiiepddhkiaaDoorW.PrintLast
set_option linter.unusedVariables false
set_option linter.unusedSimpArgs false
def dgt (c : Int) : UInt8 := UInt8.ofNat (48 + c.toNat)
/-- What a cell adds to the text: a stroke where a row begins, and its digit. -/
def pc (w : Nat) (C : List Int) (k : Nat) : List UInt8 := (if 0 < k ∧ k % w = 0 then [47] else []) ++ [dgt (rd C (k : Int))]
def txtC (w : Nat) (C : List Int) (n : Nat) : List UInt8 := (List.range n).flatMap (pc w C)
theorem txtC_succ (w : Nat) (C : List Int) (n : Nat) : txtC w C (n + 1) = txtC w C n ++ pc w C n := by
  unfold txtC
  rw [List.range_succ, List.flatMap_append]
  simp
theorem num_dgt {c : Int} (h : 0 ≤ c ∧ c ≤ 9) : ∀ k, spec_l1Num.f (k + 1) c = some ⟨#[dgt c]⟩ := by
  intro k
  have h9 : ∀ m ≤ 9, strOfNums ([((48 + m : Nat) : Int)] : List Int) = ⟨#[UInt8.ofNat (48 + m)]⟩ := by decide
  obtain ⟨m, rfl⟩ : ∃ m : Nat, c = m := ⟨c.toNat, by omega⟩
  unfold spec_l1Num.f
  have e1 : wrap64 (48 + (m : Int)) % 256 = ((48 + m : Nat) : Int) := by rw [w64' (n := 48 + (m : Int)) (m := ((48 + m : Nat) : Int)) (by omega) (by omega) (by omega)]; omega
  rw [if_pos (by omega), e1, h9 m (by omega)]
  rfl
theorem numE {c : Int} (h : 0 ≤ c ∧ c ≤ 9) : Ev (fun k => spec_l1Num.f k c) ⟨#[dgt c]⟩ := by
  refine Ev.succ ?_
  refine Ev.eq (g := fun _ => some ⟨#[dgt c]⟩) ?_ (Ev.now _)
  funext k
  exact num_dgt h k
theorem mk_app (a b : List UInt8) : (⟨a.toArray⟩ : ByteArray) ++ (⟨b.toArray⟩ : ByteArray) = ⟨(a ++ b).toArray⟩ := by
  apply ByteArray.ext
  rw [ByteArray.data_append]
  simp
theorem txtC_len (w : Nat) (C : List Int) : ∀ n, (txtC w C n).length ≤ 2 * n := by
  intro n
  induction n with
  | zero => simp [txtC]
  | succ n ih =>
    rw [txtC_succ, List.length_append]
    have : (pc w C n).length ≤ 2 := by unfold pc; split <;> simp
    omega
theorem mk_sz (l : List UInt8) : (⟨l.toArray⟩ : ByteArray).size = l.length := by simp [ByteArray.size]
theorem taDigits_l0 (w h : Nat) (C : List Int) (hw : 0 < w) (hC : ∀ k : Nat, k < C.length → 0 ≤ rd C (k : Int) ∧ rd C (k : Int) ≤ 9) (hl : C.length ≤ 1000) : ∀ (d i : Nat), i + d = C.length →
    Ev (fun k => spec_taDigits.l0 k ⟨(txtC w C i).toArray⟩ C (C.length : Int) (i : Int) (w : Int) (h : Int) C) ⟨(txtC w C C.length).toArray⟩ := by
  intro d
  induction d with
  | zero =>
    intro i h1
    refine Ev.succ ?_
    simp only [spec_taDigits.l0]
    exact Ev.neg (by omega) (Ev.ret (by rw [show i = C.length by omega]))
  | succ d ih =>
    intro i h1
    have hi : i < C.length := by omega
    have hlen := txtC_len w C i
    have hnum := numE (hC i hi)
    have hh := ih (i + 1) (by omega)
    rw [txtC_succ] at hh
    refine Ev.succ ?_
    simp only [spec_taDigits.l0]
    rw [w64' (n := (i : Int) + 1) (m := ((i + 1 : Nat) : Int)) (by omega) (by omega) (by omega)]
    refine Ev.pos (by omega) (Ev.pos (by omega) (Ev.pos (by omega) ?_))
    have e1 : (⟨(txtC w C i).toArray⟩ : ByteArray) ++ ⟨#[dgt (rd C (i : Int))]⟩ = ⟨(txtC w C i ++ [dgt (rd C (i : Int))]).toArray⟩ := mk_app _ [_]
    have e2 : (⟨(txtC w C i).toArray⟩ : ByteArray) ++ ⟨#[47]⟩ = ⟨(txtC w C i ++ [47]).toArray⟩ := mk_app _ [47]
    have e3 : (⟨(txtC w C i ++ [47]).toArray⟩ : ByteArray) ++ ⟨#[dgt (rd C (i : Int))]⟩ = ⟨(txtC w C i ++ [47] ++ [dgt (rd C (i : Int))]).toArray⟩ := mk_app _ [_]
    have z1 : (⟨(txtC w C i).toArray⟩ : ByteArray).size = (txtC w C i).length := mk_sz _
    have z2 : (⟨#[dgt (rd C (i : Int))]⟩ : ByteArray).size = 1 := rfl
    have z3 : (⟨(txtC w C i ++ [47]).toArray⟩ : ByteArray).size = (txtC w C i).length + 1 := by rw [mk_sz]; simp
    by_cases h0 : 0 < i
    · refine Ev.pos (by omega) (Ev.neg (by omega) ?_)
      rw [tmod_nat]
      by_cases hm : i % w = 0
      · have ep : pc w C i = [47] ++ [dgt (rd C (i : Int))] := by unfold pc; rw [if_pos ⟨h0, hm⟩]
        rw [ep, ← List.append_assoc] at hh
        rw [e2]
        refine Ev.pos (by omega) (Ev.pos (by omega) (Ev.bd hnum (Ev.pos (by omega) ?_)))
        rw [e3]
        exact hh
      · have ep : pc w C i = [dgt (rd C (i : Int))] := by unfold pc; rw [if_neg (fun q => hm q.2)]; rfl
        rw [ep] at hh
        refine Ev.neg (by omega) (Ev.bd hnum (Ev.pos (by omega) ?_))
        rw [e1]
        exact hh
    · have ep : pc w C i = [dgt (rd C (i : Int))] := by unfold pc; rw [if_neg (fun q => h0 q.1)]; rfl
      rw [ep] at hh
      refine Ev.neg (by omega) (Ev.bd hnum (Ev.pos (by omega) ?_))
      rw [e1]
      exact hh
/-- The rows of a grid of digits. -/
def rowD (w : Nat) (C : List Int) (y : Nat) : List UInt8 := (List.range w).map (fun x => dgt (rd C ((y * w + x : Nat) : Int)))
def gridD (w h : Nat) (C : List Int) : List (List UInt8) := (List.range h).map (rowD w C)
theorem join_snoc (R : List (List UInt8)) (r : List UInt8) : Lib.join (R ++ [r]) [47] = Lib.join R [47] ++ ((if 0 < R.length then [47] else []) ++ r) := by
  cases R with
  | nil => simp [Lib.join_nil, Lib.join_one]
  | cons a t =>
    rw [List.cons_append, Lib.join_cons, Lib.join_cons, if_pos (by simp)]
    unfold Lib.joinTail
    simp [List.append_assoc]
theorem txt_row (w : Nat) (C : List Int) (h : Nat) : ∀ x, x ≤ w → txtC w C (h * w + x) = txtC w C (h * w) ++ (if 0 < x then (if 0 < h then [47] else []) ++ (List.range x).map (fun x => dgt (rd C ((h * w + x : Nat) : Int))) else []) := by
  intro x
  induction x with
  | zero => intro _; simp
  | succ x ih =>
    intro hx
    have hm : (h * w + x) % w = x := by rw [Nat.mul_comm, Nat.mul_add_mod, Nat.mod_eq_of_lt (by omega)]
    have e1 : (List.range (x + 1)).map (fun x => dgt (rd C ((h * w + x : Nat) : Int))) = (List.range x).map (fun x => dgt (rd C ((h * w + x : Nat) : Int))) ++ [dgt (rd C ((h * w + x : Nat) : Int))] := by rw [List.range_succ, List.map_append]; rfl
    rw [← Nat.add_assoc, txtC_succ, ih (by omega), if_pos (show 0 < x + 1 by omega), e1]
    by_cases h0 : 0 < x
    · rw [if_pos h0]
      have ep : pc w C (h * w + x) = [dgt (rd C ((h * w + x : Nat) : Int))] := by unfold pc; rw [hm, if_neg (by omega)]; rfl
      rw [ep]
      simp only [List.append_assoc]
    · obtain rfl : x = 0 := by omega
      rw [if_neg h0]
      by_cases hh : 0 < h
      · have h1 : 0 < h * w + 0 := by rw [Nat.add_zero]; exact Nat.mul_pos hh (by omega)
        have ep : pc w C (h * w + 0) = [47] ++ [dgt (rd C ((h * w + 0 : Nat) : Int))] := by unfold pc; rw [if_pos ⟨h1, hm⟩]
        rw [ep, if_pos hh]
        simp
      · obtain rfl : h = 0 := by omega
        have ep : pc w C (0 * w + 0) = [dgt (rd C ((0 * w + 0 : Nat) : Int))] := by unfold pc; rw [if_neg (by omega)]; rfl
        rw [ep, if_neg hh]
        simp
theorem txt_join (w : Nat) (hw : 0 < w) (C : List Int) : ∀ h, txtC w C (h * w) = Lib.join (gridD w h C) [47] := by
  intro h
  induction h with
  | zero => simp [txtC, gridD, Lib.join_nil]
  | succ h ih =>
    have e : gridD w (h + 1) C = gridD w h C ++ [rowD w C h] := by unfold gridD; rw [List.range_succ, List.map_append]; rfl
    rw [Nat.succ_mul, txt_row w C h w (Nat.le_refl _), if_pos hw, e, join_snoc, ih]
    have : (gridD w h C).length = h := by simp [gridD]
    rw [this]
    rfl
theorem taDigits_ev (w h : Nat) (C : List Int) (hw : 0 < w) (hC : ∀ k : Nat, k < C.length → 0 ≤ rd C (k : Int) ∧ rd C (k : Int) ≤ 9) (hl : C.length ≤ 1000) (hn : C.length = h * w) :
    Ev (fun k => spec_taDigits.f k (w : Int) (h : Int) C) ⟨(Lib.join (gridD w h C) [47]).toArray⟩ := by
  have hk := taDigits_l0 w h C hw hC hl C.length 0 (by omega)
  rw [← txt_join w hw C h, ← hn]
  exact hk
end Go.Proofs.YtokkiiepddhkiaaDoor.Pure
