/- A fair window (plain). -/
import Derived.Test.YtbkaedmabdgdhaaG2
import Derived.Test.YtbkaedmabdgdhaaG0
import Derived.Test.YtbkaedmabdgdhaaShelf
import Derived.Sort.Grow
import Derived.Test.YtbkaedmabdgdhaaPWin0
namespace Go.Proofs.Ytbkaedmabdgdhaa.Pure
open Go.RowKit Go.Proofs.Ytbkaedmabdgdhaa.Hd Go.Proofs.YtbkaedmabdgdhaaW.PrintWords Go.Proofs.YtbkaedmabdgdhaaW.PrintLast
set_option linter.unusedVariables false
set_option linter.unusedSimpArgs false
/-- The sides from the k-th on. -/
def sid (l : List Int) : List Int := (List.range 4).map fun (k : Nat) => rd l (2 * k) + rd l (2 * k + 1) + rd l ((2 * (k : Int) + 2).tmod 8)
theorem sid_len (l : List Int) : (sid l).length = 4 := by simp [sid]
theorem sid_take (l : List Int) (i : Nat) (h : i < 4) : (sid l).take (i + 1) = (sid l).take i ++ [rd l (2 * i) + rd l (2 * i + 1) + rd l ((2 * (i : Int) + 2).tmod 8)] := by
  have hl : i < (sid l).length := by rw [sid_len]; exact h
  rw [List.take_succ_eq_append_getElem hl]
  simp [sid]
theorem specSides_l0 (l : List Int) (hl : l.length = 8) (hw : ∀ x ∈ l, 0 ≤ x ∧ x ≤ 9) : ∀ (d i : Nat), i + d = 4 → Ev (fun k => spec_wiSides.l0 k l ((sid l).take i) (2 * (i : Int))) (sid l) := by
  intro d
  induction d with
  | zero =>
    intro i hi
    refine Ev.succ ?_
    simp only [spec_wiSides.l0]
    refine Ev.neg (by omega) (Ev.ret ?_)
    rw [List.take_of_length_le (by rw [sid_len]; omega)]
  | succ d ih =>
    intro i hi
    refine Ev.succ ?_
    have hb : 0 ≤ (2 * (i : Int) + 2).tmod 8 ∧ (2 * (i : Int) + 2).tmod 8 < 8 := by rw [Int.tmod_eq_emod_of_nonneg (by omega)]; omega
    have b1 := hw _ (rd_mem (l := l) (i := 2 * (i : Int)) (by omega) (by omega))
    have b2 := hw _ (rd_mem (l := l) (i := 2 * (i : Int) + 1) (by omega) (by omega))
    have b3 := hw _ (rd_mem (l := l) (i := (2 * (i : Int) + 2).tmod 8) hb.1 (by omega))
    simp only [spec_wiSides.l0]
    rw [w64' (n := 2 * (i : Int) + 1) (m := 2 * (i : Int) + 1) (by omega) (by omega) (by omega), w64' (n := 2 * (i : Int) + 2) (m := 2 * (i : Int) + 2) (by omega) (by omega) (by omega), w64' (n := rd l (2 * (i : Int)) + rd l (2 * (i : Int) + 1)) rfl (by omega) (by omega), w64' (n := rd l (2 * (i : Int)) + rd l (2 * (i : Int) + 1) + rd l ((2 * (i : Int) + 2).tmod 8)) rfl (by omega) (by omega), ← sid_take l i (by omega)]
    refine Ev.pos (by omega) (Ev.pos (by omega) (Ev.pos (by omega) (Ev.pos (by omega) (Ev.pos (by omega) (Ev.pos hb.1 (Ev.pos (by omega) (Ev.pos ?_ ?_)))))))
    · rw [List.length_take, sid_len]; omega
    · have := ih (i + 1) (by omega)
      rw [show 2 * ((i + 1 : Nat) : Int) = 2 * (i : Int) + 2 by omega] at this
      exact this
theorem wiSides_ev (l : List Int) (hl : l.length = 8) (hw : ∀ x ∈ l, 0 ≤ x ∧ x ≤ 9) : Ev (fun k => spec_wiSides.f k l) (sid l) := by
  unfold spec_wiSides.f
  exact specSides_l0 l hl hw 4 0 (by omega)
theorem implSides_l0 (l : List Int) (hl : l.length = 8) (hw : ∀ x ∈ l, 0 ≤ x ∧ x ≤ 9) : ∀ (d i : Nat), i + d = 4 → Ev (fun k => impl_sides.l0 k l ((sid l).take i) (2 * (i : Int))) (sid l) := by
  intro d
  induction d with
  | zero =>
    intro i hi
    refine Ev.succ ?_
    simp only [impl_sides.l0]
    refine Ev.neg (by omega) (Ev.ret ?_)
    rw [List.take_of_length_le (by rw [sid_len]; omega)]
  | succ d ih =>
    intro i hi
    refine Ev.succ ?_
    have hb : 0 ≤ (2 * (i : Int) + 2).tmod 8 ∧ (2 * (i : Int) + 2).tmod 8 < 8 := by rw [Int.tmod_eq_emod_of_nonneg (by omega)]; omega
    have b1 := hw _ (rd_mem (l := l) (i := 2 * (i : Int)) (by omega) (by omega))
    have b2 := hw _ (rd_mem (l := l) (i := 2 * (i : Int) + 1) (by omega) (by omega))
    have b3 := hw _ (rd_mem (l := l) (i := (2 * (i : Int) + 2).tmod 8) hb.1 (by omega))
    simp only [impl_sides.l0]
    rw [w64' (n := 2 * (i : Int) + 1) (m := 2 * (i : Int) + 1) (by omega) (by omega) (by omega), w64' (n := 2 * (i : Int) + 2) (m := 2 * (i : Int) + 2) (by omega) (by omega) (by omega), w64' (n := rd l (2 * (i : Int)) + rd l (2 * (i : Int) + 1)) rfl (by omega) (by omega), w64' (n := rd l (2 * (i : Int)) + rd l (2 * (i : Int) + 1) + rd l ((2 * (i : Int) + 2).tmod 8)) rfl (by omega) (by omega), ← sid_take l i (by omega)]
    refine Ev.pos (by omega) (Ev.pos (by omega) (Ev.pos (by omega) (Ev.pos (by omega) (Ev.pos (by omega) (Ev.pos hb.1 (Ev.pos (by omega) (Ev.pos ?_ ?_)))))))
    · rw [List.length_take, sid_len]; omega
    · have := ih (i + 1) (by omega)
      rw [show 2 * ((i + 1 : Nat) : Int) = 2 * (i : Int) + 2 by omega] at this
      exact this
theorem sides_ev (l : List Int) (hl : l.length = 8) (hw : ∀ x ∈ l, 0 ≤ x ∧ x ≤ 9) : Ev (fun k => impl_sides.f k l) (sid l) := by
  unfold impl_sides.f
  exact implSides_l0 l hl hw 4 0 (by omega)
end Go.Proofs.Ytbkaedmabdgdhaa.Pure
namespace Go.Proofs.Ytbkaedmabdgdhaa.Hd
open Go.RowKit Go.Proofs.YtbkaedmabdgdhaaW.PrintWords Go.Proofs.YtbkaedmabdgdhaaW.PrintLast Go.Proofs.YtbkaedmabdgdhaaW.PrintMore
set_option linter.unusedVariables false
set_option linter.unusedSimpArgs false
theorem below_putRow {α : Type} [Inhabited α] {enc : α → Value} {B q blk off : Nat} {d : Array α} {w : World} (hB : B ≤ blk) : Below B w (Sort.putRow enc (Sort.ahead w q) blk off d) where
  os := rfl
  tape := rfl
  output := rfl
  size := by simp [Sort.putRow, Sort.mapBlock, Sort.ahead]
  block := by
    intro k hk
    simp only [Sort.putRow, Sort.mapBlock, Array.getElem?_modify]
    have : blk ≠ k := by omega
    simp [this, Sort.ahead]
theorem compact_own {base : Nat} {ok : Nat → Prop} {v : Value} {l : List Int} {w : World} {E : Nat} (h : Kd.R (Kd.int .i64) E w base ok v l) :
    Calls Try.prog 39 #[v] w fun e w' => (∃ a c, e = .returned (.slice a (Lib.compact l).length c)) ∧ Below base w w' := by
  obtain ⟨inner, ho⟩ := Kd.R_own h
  rcases ho.2 with ⟨rfl, hl⟩ | ⟨g, cap, cur, rfl, hg, hh, hc, hm, _⟩
  · obtain rfl := List.eq_nil_of_length_eq_zero hl
    refine (Try.slices_Compact_int_empty none 0 w).mono ?_
    rintro e w' ⟨rfl, rfl⟩
    exact ⟨⟨none, 0, rfl⟩, Below.refl _ _⟩
  · refine (Try.slices_Compact_int g 0 cap l w ?_ ?_ hc).mono ?_
    · intro j hj
      have hj : j < l.length := by simpa using hj
      have hcf := Kd.R_cell (0 : Int) h (j : Int) (by omega) (by omega)
      simp only [Int.toNat_natCast] at hcf
      refine ⟨?_, by simpa using hcf.2⟩
      have e1 : l.toArray[j]! = rdOf 0 l (j : Int) := by simp [rdOf, hj]
      rw [e1]; simpa using hcf.1
    · unfold maxLen at hm; omega
    · rintro e w' ⟨rfl, q, rfl⟩
      exact ⟨⟨_, _, rfl⟩, below_putRow hg⟩
def one (r : List Int) : Bool := (((Lib.compact r).length : Int) == 1)
end Go.Proofs.Ytbkaedmabdgdhaa.Hd
namespace Go.Proofs.Ytbkaedmabdgdhaa.Hd
open Go.RowKit Go.Proofs.YtbkaedmabdgdhaaW.PrintWords Go.Proofs.YtbkaedmabdgdhaaW.PrintLast Go.Proofs.YtbkaedmabdgdhaaW.PrintMore
set_option linter.unusedVariables false
set_option linter.unusedSimpArgs false
def impl_isFair.f (k : Nat) (l0 : List Int) : Option Bool := (impl_sides.f k l0).map one
theorem impl_isFair.calls (k : Nat) (A0 : Option Addr) (c0 : Nat) (l0 : List Int) (r : Bool) (w : World) (hr0 : Kd.C (Kd.int .i64) w A0 l0.length l0) (hc0 : l0.length ≤ c0) (h : impl_isFair.f k l0 = some r) :
    Calls Try.prog 56 #[.slice A0 l0.length c0] w fun e w' => e = .returned (.bool r) ∧ Below w.heap.size w w' := by
  obtain ⟨s, hs, rfl⟩ := Option.map_eq_some_iff.1 h
  have hcs := impl_sides.calls k A0 c0 l0 s w hr0 hc0 hs
  clear h hs hr0
  obtain ⟨b, hb⟩ : ∃ b, one s = b := ⟨_, rfl⟩
  have hd : (((Lib.compact s).length : Int) == 1) = b := hb
  rw [hb]
  clear hb
  go_enter Try.func56, Try.ntmps56
  go_wp2_with (first | (go_at_call 37; refine hcs.mono ?_; rintro e w1 ⟨v, rfl, hR, hb1⟩; replace hR := Aside0.mk hR; replace hb1 := Aside0.mk hb1) | (go_at_call 39; refine (compact_own hR.out).mono ?_; rintro e w2 ⟨⟨a, c, rfl⟩, hb2⟩; replace hb2 := Aside0.mk hb2))
  go_ret
  exact ⟨by first | rfl | simp [hd] | rw [hd], hb1.out.trans hb2.out⟩
end Go.Proofs.Ytbkaedmabdgdhaa.Hd
namespace Go.Proofs.Ytbkaedmabdgdhaa.Pure
open Go.RowKit Go.Proofs.Ytbkaedmabdgdhaa.Hd Go.Proofs.YtbkaedmabdgdhaaW.PrintWords Go.Proofs.YtbkaedmabdgdhaaW.PrintLast
set_option linter.unusedVariables false
set_option linter.unusedSimpArgs false
theorem one_four (a b c d : Int) : Hd.one [a, b, c, d] = (decide (a = b) && (decide (b = c) && decide (c = d))) := by
  have e : List.range 4 = [0, 1, 2, 3] := rfl
  have k0 : Lib.keeps #[a, b, c, d] 0 = true := by simp [Lib.keeps]
  have k1 : Lib.keeps #[a, b, c, d] 1 = !decide (b = a) := by simp [Lib.keeps]
  have k2 : Lib.keeps #[a, b, c, d] 2 = !decide (c = b) := by simp [Lib.keeps]
  have k3 : Lib.keeps #[a, b, c, d] 3 = !decide (d = c) := by simp [Lib.keeps]
  have f : (Lib.compact [a, b, c, d]).length = (List.filter (Lib.keeps #[a, b, c, d]) [0, 1, 2, 3]).length := by
    simp only [Lib.compact, Lib.compactUpTo, List.length_map]
    rfl
  rw [Hd.one, f]
  simp only [List.filter_cons, List.filter_nil, k0, k1, k2, k3]
  have s1 : decide (a = b) = decide (b = a) := by simp [eq_comm]
  have s2 : decide (b = c) = decide (c = b) := by simp [eq_comm]
  have s3 : decide (c = d) = decide (d = c) := by simp [eq_comm]
  rw [s1, s2, s3]
  cases decide (b = a) <;> cases decide (c = b) <;> cases decide (d = c) <;> rfl
theorem sid_four (l : List Int) : ∃ a b c d, sid l = [a, b, c, d] := ⟨_, _, _, _, rfl⟩
theorem wiFair_ev (l : List Int) (hl : l.length = 8) (hw : ∀ x ∈ l, 0 ≤ x ∧ x ≤ 9) : Ev (fun k => spec_wiFair.f k l) (Hd.one (sid l)) := by
  have hs := wiSides_ev l hl hw
  obtain ⟨a, b, c, d, e⟩ := sid_four l
  rw [e] at hs ⊢
  rw [one_four]
  unfold spec_wiFair.f
  refine Ev.bd hs (Ev.pos (by simp) (Ev.pos (by simp) ?_))
  have r0 : rd [a, b, c, d] 0 = a := rfl
  have r1 : rd [a, b, c, d] 1 = b := rfl
  have r2 : rd [a, b, c, d] 2 = c := rfl
  have r3 : rd [a, b, c, d] 3 = d := rfl
  rw [r0, r1, r2, r3]
  by_cases h1 : a = b
  · refine Ev.pos h1 (Ev.pos (by simp) ?_)
    by_cases h2 : b = c
    · refine Ev.pos h2 (Ev.pos (by simp) (Ev.ret ?_))
      by_cases h3 : c = d <;> simp [h1, h2, h3]
    · exact Ev.neg h2 (Ev.ret (by simp [h2]))
  · exact Ev.neg h1 (Ev.ret (by simp [h1]))
theorem isFair_ev (l : List Int) (hl : l.length = 8) (hw : ∀ x ∈ l, 0 ≤ x ∧ x ≤ 9) : Ev (fun k => impl_isFair.f k l) (Hd.one (sid l)) := by
  obtain ⟨k, hk⟩ := sides_ev l hl hw
  exact ⟨k, fun j hj => by simp only [impl_isFair.f, hk j hj, Option.map_some]⟩
end Go.Proofs.Ytbkaedmabdgdhaa.Pure
