/- The library's Split, Trim, ReplaceAll, in the printed shape, out of the shelf (laid in the text Shelf). -/
import Derived.Test.YtokkiiepddhkiaaGreatDoorShelf
import Derived.Test.YtokkiiepddhkiaaGreatDoorMSx5
import Derived.Shelf.Strings.SlTrimAscii
namespace Go.Proofs.YtokkiiepddhkiaaGreatDoor.Hd
open Go Go.RowKit Go.Shelf Go.Proofs.YtokkiiepddhkiaaGreatDoorW.PrintWords Go.Proofs.YtokkiiepddhkiaaGreatDoorW.PrintLast
set_option linter.unusedVariables false
theorem R_fresh (xs : List ByteArray) (W : World) (base e : Nat) (hb : base ≤ W.heap.size) (hl : xs.length ≤ 9223372036854775807) :
    Kd.R Kd.string e (W.alloc (.cells (xs.map Value.string).toArray e (0, 0))) base (fun _ => True) (.slice (some ⟨W.heap.size, 0, none⟩) xs.length xs.length) xs := by
  have hrep : Reps (Kd.string.M (W.alloc (.cells (xs.map Value.string).toArray e (0, 0))) base (fun _ => True)) 1 xs (xs.map Value.string) := reps_strs xs
  refine ⟨fun k hk => trivial, xs.map Value.string, ?_, hrep⟩
  have h2 := World.ownsRow_lit (base := base) (e := e) (size := Kd.string.sz) W (xs.map Value.string).toArray xs.length hb (by simpa [maxLen] using hl) (by rw [List.size_toArray, List.length_map]; exact (Nat.mul_one _).symm)
  simpa using h2
def strings_Split.f (a0 a1 : ByteArray) : Option (List ByteArray) := if a0.size < 4294967281 ∧ 1 ≤ a1.size then some (Lib.splitB a1 0 (Lib.countB a0 a1) a0) else none
theorem strings_Split.calls (a0 a1 : ByteArray) (r : List ByteArray) (w : World) (hmx : ∃ m, w.cell? ⟨0, 0, none⟩ = some (.int .i64 m)) (h : strings_Split.f a0 a1 = some r) :
    Calls Tryz.prog 78 #[.string a0, .string a1] w fun e w' => ∃ v0_ : Value, e = .returned (v0_) ∧ Kd.R Kd.string 9 w' w.heap.size (fun _ => True) v0_ r ∧ Below w.heap.size w w' := by
  unfold strings_Split.f at h
  split at h
  case isFalse => cases h
  case isTrue hc =>
    obtain ⟨h1, h2⟩ := hc
    obtain rfl := Option.some.inj h
    obtain ⟨m, hm⟩ := hmx
    have hle := Lib.countB_le a1 h2 a0.size a0 (Nat.le_refl _)
    have hlen := Lib.splitB_all a1 h2 0 _ a0 rfl
    have hR := R_fresh (Lib.splitB a1 0 (Lib.countB a0 a1) a0) w w.heap.size 9 (Nat.le_refl _) (by omega)
    rw [hlen] at hR
    refine (Tryz.strings_Split a0 a1 m w h1 hm h2).mono ?_
    rintro e w' ⟨rfl, rfl⟩
    exact ⟨_, rfl, hR, below_alloc (Below.refl _ _) _⟩
def strings_Trim.f (a0 a1 : ByteArray) : Option ByteArray := if a0.size ≤ 9223372036854775807 ∧ a1.size < 4294967281 ∧ a1.data.toList.all (fun b => decide (b.toNat < 128)) = true then some ⟨(Lib.trimS a0.data.toList a1.data.toList).toArray⟩ else none
theorem strings_Trim.calls (a0 a1 : ByteArray) (r : ByteArray) (w : World) (h : strings_Trim.f a0 a1 = some r) :
    Calls Tryz.prog 90 #[.string a0, .string a1] w fun e w' => e = .returned (.string r) ∧ Below w.heap.size w w' := by
  unfold strings_Trim.f at h
  split at h
  case isFalse => cases h
  case isTrue hc =>
    obtain rfl := Option.some.inj h
    exact Any.strings_Trim_laid Tryz.lays160 (by kernel_rfl) a0 a1 w hc.1 hc.2.1 (ascii_of_all hc.2.2)
def strings_ReplaceAll.f (a0 a1 a2 : ByteArray) : Option ByteArray := if a0.size < 4294967281 ∧ 1 ≤ a1.size ∧ a0.size + Lib.countB a0 a1 * a2.size ≤ 140737488355328 then some ⟨(Lib.replaceAll a0.data.toList a1.data.toList a2.data.toList).toArray⟩ else none
theorem strings_ReplaceAll.calls (a0 a1 a2 : ByteArray) (r : ByteArray) (w : World) (hmx : ∃ m, w.cell? ⟨0, 0, none⟩ = some (.int .i64 m)) (h : strings_ReplaceAll.f a0 a1 a2 = some r) :
    Calls Tryz.prog 79 #[.string a0, .string a1, .string a2] w fun e w' => e = .returned (.string r) ∧ Below w.heap.size w w' := by
  unfold strings_ReplaceAll.f at h
  split at h
  case isFalse => cases h
  case isTrue hc =>
    obtain rfl := Option.some.inj h
    obtain ⟨m, hm⟩ := hmx
    exact Tryz.strings_ReplaceAll a0 a1 a2 m w hc.1 hm hc.2.1 hc.2.2
end Go.Proofs.YtokkiiepddhkiaaGreatDoor.Hd
