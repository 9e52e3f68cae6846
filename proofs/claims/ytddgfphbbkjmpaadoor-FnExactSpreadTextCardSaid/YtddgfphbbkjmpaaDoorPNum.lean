/- Small numbers as texts: the reference's l1Num; plain. -/
import Derived.Test.YtddgfphbbkjmpaaDoorPEv
import Derived.Lib.ItoaNum
import Derived.Test.YtddgfphbbkjmpaaDoorG0
namespace Go.Proofs.YtddgfphbbkjmpaaDoor.Pure
open Go Go.RowKit Go.Proofs.YtddgfphbbkjmpaaDoor.Hd Go.Proofs.YtddgfphbbkjmpaaDoorW.PrintWords Go.Proofs.YtddgfphbbkjmpaaDoorW.PrintLast
set_option linter.unusedVariables false
set_option linter.unusedSimpArgs false
def numD (x : Int) : ByteArray := ⟨(Lib.decDigits x.toNat).toArray⟩
theorem str1 : ∀ m ≤ 9, strOfNums ([((48 + m : Nat) : Int)] : List Int) = ⟨#[UInt8.ofNat (48 + m)]⟩ := by decide
theorem dig1 (m : Nat) (h : m ≤ 9) : strOfNums ([(wrap64 (48 + (m : Int))) % 256] : List Int) = ⟨#[UInt8.ofNat (48 + m)]⟩ := by
  have e1 : wrap64 (48 + (m : Int)) % 256 = ((48 + m : Nat) : Int) := by rw [w64' (n := 48 + (m : Int)) (m := ((48 + m : Nat) : Int)) (by omega) (by omega) (by omega)]; omega
  rw [e1, str1 m h]
theorem num1_f (m : Nat) (h : m ≤ 9) (k : Nat) : spec_l1Num.f (k + 1) (m : Int) = some ⟨#[UInt8.ofNat (48 + m)]⟩ := by
  unfold spec_l1Num.f
  rw [if_pos (by omega), dig1 m h]
theorem mk_app2 (a b : List UInt8) : (⟨a.toArray⟩ : ByteArray) ++ (⟨b.toArray⟩ : ByteArray) = ⟨(a ++ b).toArray⟩ := by
  apply ByteArray.ext
  rw [ByteArray.data_append]
  simp
theorem num_ev {x : Int} (h : 0 ≤ x ∧ x < 100) : Ev (fun k => spec_l1Num.f k x) (numD x) := by
  obtain ⟨m, rfl⟩ : ∃ m : Nat, x = m := ⟨x.toNat, by omega⟩
  unfold numD
  rw [Int.toNat_natCast]
  by_cases h1 : m < 10
  · refine ⟨1, fun k hk => ?_⟩
    obtain ⟨k', rfl⟩ : ∃ k', k = k' + 1 := ⟨k - 1, by omega⟩
    show spec_l1Num.f (k' + 1) (m : Int) = _
    rw [num1_f m (by omega) k', Lib.decDigits_one h1]
  · refine ⟨2, fun k hk => ?_⟩
    obtain ⟨k', rfl⟩ : ∃ k', k = k' + 1 + 1 := ⟨k - 2, by omega⟩
    show spec_l1Num.f (k' + 1 + 1) (m : Int) = _
    unfold spec_l1Num.f
    have e1 : wrap64 (Int.tdiv (m : Int) 10) = ((m / 10 : Nat) : Int) := by
      rw [Int.tdiv_eq_ediv_of_nonneg (by omega)]
      exact w64' (by omega) (by omega) (by omega)
    have e2 : Int.tmod (m : Int) 10 = ((m % 10 : Nat) : Int) := by
      rw [Int.tmod_eq_emod_of_nonneg (by omega)]
      omega
    rw [if_neg (by omega), e1, num1_f (m / 10) (by omega) k', Option.bind_some, e2, Option.bind_some, dig1 (m % 10) (by omega), Lib.decDigits_two h1 (by omega)]
    have e4 : (⟨#[UInt8.ofNat (48 + m / 10)]⟩ : ByteArray) ++ ⟨#[UInt8.ofNat (48 + m % 10)]⟩ = ⟨#[UInt8.ofNat (48 + m / 10), UInt8.ofNat (48 + m % 10)]⟩ := mk_app2 [_] [_]
    rw [if_pos (by show (1 : Nat) + 1 ≤ _; omega), e4]
end Go.Proofs.YtddgfphbbkjmpaaDoor.Pure
