/- strconv.Itoa of a small number, in the printed shape, out of the shelf (laid in the text Shelf). -/
import Derived.Test.YtddgfphbbkjmpaaDoorShelf
import Derived.Test.YtddgfphbbkjmpaaDoorG0
namespace Go.Proofs.YtddgfphbbkjmpaaDoor.Hd
open Go Go.RowKit Go.Proofs.YtddgfphbbkjmpaaDoorW.PrintWords Go.Proofs.YtddgfphbbkjmpaaDoorW.PrintLast
set_option linter.unusedVariables false
def strconv_Itoa.f (a0 : Int) : Option ByteArray := if 0 ≤ a0 ∧ a0 < 100 then some ⟨(Lib.decDigits a0.toNat).toArray⟩ else none
theorem strconv_Itoa.calls (a0 : Int) (r : ByteArray) (w : World) (h : strconv_Itoa.f a0 = some r) :
    Calls Tryd.prog 14 #[.int .i64 a0] w fun e w' => e = .returned (.string r) ∧ Below w.heap.size w w' := by
  unfold strconv_Itoa.f at h
  split at h
  case isFalse => cases h
  case isTrue hc =>
    obtain rfl := Option.some.inj h
    obtain ⟨m, rfl⟩ : ∃ m : Nat, a0 = m := ⟨a0.toNat, by omega⟩
    refine (Tryd.strconv_Itoa_small m (by omega) w).mono ?_
    rintro e w' ⟨rfl, rfl⟩
    exact ⟨by rw [Int.toNat_natCast], Below.refl _ _⟩
end Go.Proofs.YtddgfphbbkjmpaaDoor.Hd
