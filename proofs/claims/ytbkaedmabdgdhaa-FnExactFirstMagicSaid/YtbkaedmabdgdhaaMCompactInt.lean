/- slices.Compact over a row of whole numbers of the call's own, by the shelf's contract (laid in the text Shelf). -/
import Derived.Test.YtbkaedmabdgdhaaG0
import Derived.Test.YtbkaedmabdgdhaaShelf
import Derived.Sort.Grow
namespace Go.Proofs.Ytbkaedmabdgdhaa.Hd
open Go.RowKit Go.Proofs.YtbkaedmabdgdhaaW.PrintWords Go.Proofs.YtbkaedmabdgdhaaW.PrintLast Go.Proofs.YtbkaedmabdgdhaaW.PrintMore
set_option linter.unusedVariables false
set_option linter.unusedSimpArgs false
theorem below_putRow {α : Type} [Inhabited α] {enc : α → Value} {B q blk off : Nat} {d : Array α} {w : World} (hB : B ≤ blk) : Below B w (Sort.putRow enc (Sort.ahead w q) blk off d) where
  os := rfl
  tape := rfl
  output := rfl
  size := by simp [Sort.putRow, Sort.mapBlock, Sort.ahead]
  block := by
    intro k hk
    simp only [Sort.putRow, Sort.mapBlock, Array.getElem?_modify]
    have : blk ≠ k := by omega
    simp [this, Sort.ahead]
theorem compact_own {base : Nat} {ok : Nat → Prop} {v : Value} {l : List Int} {w : World} {E : Nat} (h : Kd.R (Kd.int .i64) E w base ok v l) :
    Calls Try.prog 39 #[v] w fun e w' => (∃ a c, e = .returned (.slice a (Lib.compact l).length c)) ∧ Below base w w' := by
  obtain ⟨inner, ho⟩ := Kd.R_own h
  rcases ho.2 with ⟨rfl, hl⟩ | ⟨g, cap, cur, rfl, hg, hh, hc, hm, _⟩
  · obtain rfl := List.eq_nil_of_length_eq_zero hl
    refine (Try.slices_Compact_int_empty none 0 w).mono ?_
    rintro e w' ⟨rfl, rfl⟩
    exact ⟨⟨none, 0, rfl⟩, Below.refl _ _⟩
  · refine (Try.slices_Compact_int g 0 cap l w ?_ ?_ hc).mono ?_
    · intro j hj
      have hj : j < l.length := by simpa using hj
      have hcf := Kd.R_cell (0 : Int) h (j : Int) (by omega) (by omega)
      simp only [Int.toNat_natCast] at hcf
      refine ⟨?_, by simpa using hcf.2⟩
      have e1 : l.toArray[j]! = rdOf 0 l (j : Int) := by simp [rdOf, hj]
      rw [e1]; simpa using hcf.1
    · unfold maxLen at hm; omega
    · rintro e w' ⟨rfl, q, rfl⟩
      exact ⟨⟨_, _, rfl⟩, below_putRow hg⟩
def one (r : List Int) : Bool := (((Lib.compact r).length : Int) == 1)
end Go.Proofs.Ytbkaedmabdgdhaa.Hd
