/- SpreadText: what the program answers. -/
import Derived.Test.YtddgfphbbkjmpaaDoorPBoth
import Derived.Test.YtddgfphbbkjmpaaDoorMSpreadOf
import Derived.Test.YtddgfphbbkjmpaaDoorMSprS
import Derived.Test.YtddgfphbbkjmpaaDoorG2
namespace Go.Proofs.YtddgfphbbkjmpaaDoor.Pure
open Go Go.RowKit Go.Proofs.YtddgfphbbkjmpaaDoor.Hd Go.Proofs.YtddgfphbbkjmpaaDoorW.PrintWords Go.Proofs.YtddgfphbbkjmpaaDoorW.PrintLast
set_option linter.unusedVariables false
set_option linter.unusedSimpArgs false
theorem isSpread_eqS (l : List S_Play) : impl_IsSpread.f l = some (lyReadF l).isSome := by
  unfold impl_IsSpread.f impl_spreadOf.f
  rcases both_read l with ⟨h1, h2⟩ | ⟨a, t, h1, h2, R, hok, h28⟩ <;> rw [h1, h2] <;> rfl
theorem str2 : ∀ m ≤ 9, ∀ n ≤ 9, strOfNums ([((48 + m : Nat) : Int), ((48 + n : Nat) : Int)] : List Int) = ⟨#[UInt8.ofNat (48 + m), UInt8.ofNat (48 + n)]⟩ := by decide
theorem digits_eq {a b : Int} (ha : 0 ≤ a ∧ a ≤ 9) (hb : 0 ≤ b ∧ b ≤ 9) : impl_Tile_digits.f a b = some (numD a ++ numD b) := by
  obtain ⟨m, rfl⟩ : ∃ m : Nat, a = m := ⟨a.toNat, by omega⟩
  obtain ⟨n, rfl⟩ : ∃ n : Nat, b = n := ⟨b.toNat, by omega⟩
  have e1 : wrap64 (48 + (m : Int)) % 256 = ((48 + m : Nat) : Int) := by rw [w64' (n := 48 + (m : Int)) (m := ((48 + m : Nat) : Int)) (by omega) (by omega) (by omega)]; omega
  have e2 : wrap64 (48 + (n : Int)) % 256 = ((48 + n : Nat) : Int) := by rw [w64' (n := 48 + (n : Int)) (m := ((48 + n : Nat) : Int)) (by omega) (by omega) (by omega)]; omega
  unfold impl_Tile_digits.f numD
  rw [e1, e2, str2 m (by omega) n (by omega), Int.toNat_natCast, Int.toNat_natCast, Lib.decDigits_one (by omega), Lib.decDigits_one (by omega), mk_app2]
  rfl
theorem itoa_eq {a : Int} (h : 0 ≤ a ∧ a < 100) : strconv_Itoa.f a = some (numD a) := if_pos h
def partsT (l : List S_Play) (i : Nat) : List ByteArray := (List.range i).map (fun j : Nat => partT (rd_Play l (j : Int)))
theorem partsT_succ (l : List S_Play) (i : Nat) : partsT l (i + 1) = partsT l i ++ [partT (rd_Play l (i : Int))] := by
  unfold partsT
  rw [List.range_succ, List.map_append]
  rfl
theorem partsT_join (l : List S_Play) (i : Nat) : Lib.join ((partsT l i).map (·.data.toList)) [44] = (spT l i).data.toList := by
  rw [spT_join]
  unfold partsT
  rw [List.map_map]
  rfl
theorem joinT_f {l : List S_Play} {s : LySt} (h : lyReadF l = some s) : strings_Join.f (partsT l l.length) (⟨#[44]⟩ : ByteArray) = some (spT l l.length) := by
  have h28 := (plays_good h).1
  have hz := spT_sz h l.length (Nat.le_refl _)
  have hlen : (partsT l l.length).length = l.length := by simp [partsT]
  have hj := partsT_join l l.length
  have h44 : (⟨#[44]⟩ : ByteArray).data.toList = [44] := rfl
  unfold strings_Join.f
  have hc : (partsT l l.length).length ≤ 140737488355328 ∧ (spT l l.length).data.toList.length ≤ 140737488355328 := by
    refine ⟨by omega, ?_⟩
    rw [Array.length_toList]
    have : (spT l l.length).data.size = (spT l l.length).size := rfl
    omega
  rw [h44, hj, if_pos hc]
theorem implText_l0 {l : List S_Play} {s : LySt} (h : lyReadF l = some s) : ∀ (d i : Nat), i + d = l.length → Ev (fun k => impl_SpreadText.l0 k (partsT l i) l (l.length : Int) (i : Int)) (spT l l.length, true) := by
  have h28 := (plays_good h).1
  intro d
  induction d with
  | zero =>
    intro i h1
    refine Ev.succ ?_
    simp only [impl_SpreadText.l0]
    obtain rfl : i = l.length := by omega
    exact Ev.neg (by omega) (Ev.bs (joinT_f h) (Ev.now _))
  | succ d ih =>
    intro i h1
    have hi : i < l.length := by omega
    obtain ⟨a, b, c⟩ := play_at h i hi
    have hh := ih (i + 1) (by omega)
    rw [partsT_succ] at hh
    have hlen : (partsT l i).length = i := by simp [partsT]
    have n1 := numD_sz (x := (rd_Play l (i : Int)).f0.f0) (by omega)
    have n2 := numD_sz (x := (rd_Play l (i : Int)).f0.f1) (by omega)
    have n3 := numD_sz (x := (rd_Play l (i : Int)).f1) (by omega)
    have z1 : (numD (rd_Play l (i : Int)).f0.f0 ++ numD (rd_Play l (i : Int)).f0.f1).size ≤ 4 := by rw [ByteArray.size_append]; omega
    have z2 : ((numD (rd_Play l (i : Int)).f0.f0 ++ numD (rd_Play l (i : Int)).f0.f1) ++ (⟨#[64]⟩ : ByteArray)).size ≤ 5 := by
      rw [ByteArray.size_append]
      have : (⟨#[64]⟩ : ByteArray).size = 1 := rfl
      omega
    refine Ev.succ ?_
    simp only [impl_SpreadText.l0]
    rw [w64' (n := (i : Int) + 1) (m := ((i + 1 : Nat) : Int)) (by omega) (by omega) (by omega)]
    refine Ev.pos (by omega) (Ev.pos (by omega) (Ev.pos (by omega) (Ev.bs (digits_eq a b) (Ev.pos (by omega) (Ev.bs (itoa_eq c) (Ev.pos (by omega) (Ev.pos (by omega) ?_)))))))
    exact hh
theorem implText_ev (l : List S_Play) : Ev (fun k => impl_SpreadText.f k l) (resSpreadText l) := by
  unfold impl_SpreadText.f resSpreadText
  refine Ev.bs (isSpread_eqS l) ?_
  cases h : lyReadF l with
  | none => exact Ev.neg (by simp) (Ev.now _)
  | some s =>
    refine Ev.pos rfl ?_
    rw [if_pos (show (some s).isSome = true from rfl)]
    by_cases h0 : l.length = 0
    · rw [if_pos h0]
      exact Ev.pos (by omega) (Ev.now _)
    · rw [if_neg h0]
      refine Ev.neg (by omega) ?_
      exact implText_l0 h l.length 0 (by omega)
theorem specText_eq {l : List S_Play} (h : l.length ≤ 8388608) : spec_SpreadText.f l = some (resSpreadText l) := if_pos h
end Go.Proofs.YtddgfphbbkjmpaaDoor.Pure
