/- The library's Split, Trim, Count, ReplaceAll, Join, in the printed shape, out of the shelf (laid in the text Shelf). -/
import Derived.Test.YtjhbnkplpaffoaaDoorShelf
import Derived.Test.YtjhbnkplpaffoaaDoorMSx5
import Derived.Shelf.Strings.SlTrimAscii
namespace Go.Proofs.YtjhbnkplpaffoaaDoor.Hd
open Go Go.RowKit Go.Shelf Go.Proofs.YtjhbnkplpaffoaaDoorW.PrintWords Go.Proofs.YtjhbnkplpaffoaaDoorW.PrintLast
set_option linter.unusedVariables false
theorem R_fresh (xs : List ByteArray) (W : World) (base e : Nat) (hb : base ≤ W.heap.size) (hl : xs.length ≤ 9223372036854775807) :
    Kd.R Kd.string e (W.alloc (.cells (xs.map Value.string).toArray e (0, 0))) base (fun _ => True) (.slice (some ⟨W.heap.size, 0, none⟩) xs.length xs.length) xs := by
  have hrep : Reps (Kd.string.M (W.alloc (.cells (xs.map Value.string).toArray e (0, 0))) base (fun _ => True)) 1 xs (xs.map Value.string) := reps_strs xs
  refine ⟨fun k hk => trivial, xs.map Value.string, ?_, hrep⟩
  have h2 := World.ownsRow_lit (base := base) (e := e) (size := Kd.string.sz) W (xs.map Value.string).toArray xs.length hb (by simpa [maxLen] using hl) (by rw [List.size_toArray, List.length_map]; exact (Nat.mul_one _).symm)
  simpa using h2
theorem spot_none {w : World} {a : Addr} {v : Value} (h : w.cell? a = some v) : a.spot = none := by
  unfold World.cell? at h
  split at h
  · cases hs : a.spot with
    | none => rfl
    | some q => rw [hs] at h; simp at h
  · cases h
def strings_Split.f (a0 a1 : ByteArray) : Option (List ByteArray) := if a0.size < 4294967281 ∧ 1 ≤ a1.size then some (Lib.splitB a1 0 (Lib.countB a0 a1) a0) else none
theorem strings_Split.calls (a0 a1 : ByteArray) (r : List ByteArray) (w : World) (hmx : ∃ m, w.cell? ⟨0, 0, none⟩ = some (.int .i64 m)) (h : strings_Split.f a0 a1 = some r) :
    Calls Tryd.prog 41 #[.string a0, .string a1] w fun e w' => ∃ v0_ : Value, e = .returned (v0_) ∧ Kd.R Kd.string 9 w' w.heap.size (fun _ => True) v0_ r ∧ Below w.heap.size w w' := by
  unfold strings_Split.f at h
  split at h
  case isFalse => cases h
  case isTrue hc =>
    obtain ⟨h1, h2⟩ := hc
    obtain rfl := Option.some.inj h
    obtain ⟨m, hm⟩ := hmx
    have hle := Lib.countB_le a1 h2 a0.size a0 (Nat.le_refl _)
    have hlen := Lib.splitB_all a1 h2 0 _ a0 rfl
    have hR := R_fresh (Lib.splitB a1 0 (Lib.countB a0 a1) a0) w w.heap.size 9 (Nat.le_refl _) (by omega)
    rw [hlen] at hR
    refine (Tryd.strings_Split a0 a1 m w h1 hm h2).mono ?_
    rintro e w' ⟨rfl, rfl⟩
    exact ⟨_, rfl, hR, below_alloc (Below.refl _ _) _⟩
def strings_Trim.f (a0 a1 : ByteArray) : Option ByteArray := if a0.size ≤ 9223372036854775807 ∧ a1.size < 4294967281 ∧ a1.data.toList.all (fun b => decide (b.toNat < 128)) = true then some ⟨(Lib.trimS a0.data.toList a1.data.toList).toArray⟩ else none
theorem strings_Trim.calls (a0 a1 : ByteArray) (r : ByteArray) (w : World) (h : strings_Trim.f a0 a1 = some r) :
    Calls Tryd.prog 60 #[.string a0, .string a1] w fun e w' => e = .returned (.string r) ∧ Below w.heap.size w w' := by
  unfold strings_Trim.f at h
  split at h
  case isFalse => cases h
  case isTrue hc =>
    obtain rfl := Option.some.inj h
    exact Any.strings_Trim_laid Tryd.lays160 (by kernel_rfl) a0 a1 w hc.1 hc.2.1 (ascii_of_all hc.2.2)
def strings_Join.f (l : List ByteArray) (a1 : ByteArray) : Option ByteArray := if l.length ≤ 140737488355328 ∧ (Lib.join (l.map (·.data.toList)) a1.data.toList).length ≤ 140737488355328 then some ⟨(Lib.join (l.map (·.data.toList)) a1.data.toList).toArray⟩ else none
theorem strings_Join.calls (A0 : Option Addr) (c0 : Nat) (l0 : List ByteArray) (a1 : ByteArray) (r : ByteArray) (w : World) (hr0 : Kd.C Kd.string w A0 l0.length l0) (hc0 : l0.length ≤ c0) (h : strings_Join.f l0 a1 = some r) :
    Calls Tryd.prog 43 #[.slice A0 l0.length c0, .string a1] w fun e w' => e = .returned (.string r) ∧ Below w.heap.size w w' := by
  unfold strings_Join.f at h
  split at h
  case isFalse => cases h
  case isTrue hc =>
    obtain rfl := Option.some.inj h
    rcases Nat.eq_zero_or_pos l0.length with h0 | h0
    · obtain rfl := List.eq_nil_of_length_eq_zero h0
      refine (Tryd.strings_Join_none A0 c0 a1 w).mono ?_
      rintro e w' ⟨rfl, rfl⟩
      exact ⟨rfl, Below.refl _ _⟩
    · obtain ⟨ad, rfl, hc1⟩ := Kd.at_string hr0 0 (by omega) (by omega)
      have hs : ad.spot = none := spot_none hc1
      obtain ⟨b, o, sp⟩ := ad
      obtain rfl : sp = none := hs
      refine Tryd.strings_Join b o c0 l0 a1 w ?_ (World.block_lt_of_cell? _ _ hc1) hc.1 hc0 hc.2
      intro j x hx
      have hj := (List.getElem?_eq_some_iff.1 hx).1
      obtain ⟨ad2, e2, hc2⟩ := Kd.at_string hr0 (j : Int) (by omega) (by omega)
      obtain rfl := Option.some.inj e2
      have e3 : rdOf ByteArray.empty l0 (j : Int) = x := by simp [rdOf, List.getD_eq_getElem?_getD, hx]
      rw [e3, Int.toNat_natCast] at hc2
      have e4 : (⟨b, o, none⟩ : Addr).add j = ⟨b, o + j, none⟩ := by
        unfold Addr.add
        split
        · rename_i q; rw [q]; rfl
        · rfl
      rw [e4] at hc2
      exact hc2
end Go.Proofs.YtjhbnkplpaffoaaDoor.Hd
