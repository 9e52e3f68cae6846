/- Both sides rename a spread alike. -/
import Derived.Test.YtojjlabkbddcjaaMLyRen
import Derived.Test.YtojjlabkbddcjaaPBoth
import Derived.Test.YtojjlabkbddcjaaMSpreadOf
import Derived.Test.YtojjlabkbddcjaaG3
namespace Go.Proofs.Ytojjlabkbddcjaa.Pure
open Go.RowKit Go.Proofs.Ytojjlabkbddcjaa.Hd Go.Proofs.YtojjlabkbddcjaaW.PrintWords Go.Proofs.YtojjlabkbddcjaaW.PrintLast
set_option linter.unusedVariables false
set_option linter.unusedSimpArgs false
def resRenameSpread (l : List S_Play) (ns : List Int) : List S_Play × Bool := match lyReadF l with | some _ => if namesOk ns then (renTo l ns l.length, true) else ([], false) | none => ([], false)
theorem resRenameSpread_len (l : List S_Play) (ns : List Int) : (resRenameSpread l ns).1.length ≤ l.length := by
  unfold resRenameSpread
  split
  · split
    · rw [renTo_len]; exact Nat.le_refl _
    · simp
  · simp
theorem specRenameSpread_ev (l : List S_Play) (ns : List Int) (hl : l.length ≤ 1048576) (hn : ns.length ≤ 1048576) : Ev (fun k => spec_RenameSpread.f l ns) (resRenameSpread l ns) := by
  unfold spec_RenameSpread.f resRenameSpread
  refine Ev.pos (by omega) ?_
  cases lyReadF l with
  | none => exact Ev.ret rfl
  | some s =>
    by_cases h : namesOk ns
    · exact Ev.pos h (Ev.ret (by simp [h]))
    · exact Ev.neg h (Ev.ret (by simp [h]))
theorem idxI_l0 (l : List Int) (hl : l.length ≤ 8388608) (x : Int) : ∀ (d i : Nat), i + d = l.length → ∃ z : Int, Ev (fun k => slices_Index_int_int.l0 k l x (l.length : Int) (i : Int)) z ∧ (z ≥ 0 ↔ x ∈ l.drop i) := by
  intro d
  induction d with
  | zero =>
    intro i hi
    refine ⟨-1, Ev.succ ?_, ?_⟩
    · simp only [slices_Index_int_int.l0]
      exact Ev.neg (by omega) (Ev.ret rfl)
    · rw [List.drop_eq_nil_of_le (by omega)]; simp
  | succ d ih =>
    intro i hi
    have hlt : i < l.length := by omega
    by_cases h : x = l[i]
    · refine ⟨(i : Int), Ev.succ ?_, ?_⟩
      · simp only [slices_Index_int_int.l0]
        rw [rd_at hlt]
        exact Ev.pos (by omega) (Ev.pos (by omega) (Ev.pos (by omega) (Ev.pos h (Ev.ret rfl))))
      · exact ⟨fun _ => by rw [List.drop_eq_getElem_cons hlt, h]; exact List.mem_cons_self, fun _ => by omega⟩
    · obtain ⟨z, h1, h2⟩ := ih (i + 1) (by omega)
      refine ⟨z, Ev.succ ?_, ?_⟩
      · simp only [slices_Index_int_int.l0]
        rw [rd_at hlt, w64' (m := ((i + 1 : Nat) : Int)) (by omega) (by omega) (by omega)]
        exact Ev.pos (by omega) (Ev.pos (by omega) (Ev.pos (by omega) (Ev.neg h h1)))
      · rw [h2, List.drop_eq_getElem_cons hlt, List.mem_cons]
        exact ⟨.inr, fun q => q.elim (fun q => absurd q h) id⟩
theorem containsI_ev (l : List Int) (hl : l.length ≤ 8388608) (x : Int) : Ev (fun k => slices_Contains_int_int.f k l x) (decide (x ∈ l)) := by
  obtain ⟨z, h1, h2⟩ := idxI_l0 l hl x l.length 0 (by omega)
  rw [List.drop_zero] at h2
  unfold slices_Contains_int_int.f slices_Index_int_int.f
  refine Ev.bd h1 (Ev.ret ?_)
  rw [decide_eq_decide]; exact h2
theorem difI_l0 (l : List Int) (hl : l.length ≤ 8388608) : ∀ (d i : Nat), i + d = l.length → Ev (fun k => impl_areDifferent_int.l0 k l l (l.length : Int) (i : Int)) (decide (∀ j, j < l.length → i ≤ j → rd l (j : Int) ∉ l.take j)) := by
  intro d
  induction d with
  | zero =>
    intro i hi
    refine Ev.succ ?_
    simp only [impl_areDifferent_int.l0]
    refine Ev.neg (by omega) (Ev.ret ?_)
    symm; rw [decide_eq_true_iff]
    intro j h1 h2; omega
  | succ d ih =>
    intro i hi
    refine Ev.succ ?_
    simp only [impl_areDifferent_int.l0]
    have hlt : i < l.length := by omega
    rw [Int.toNat_natCast, w64' (m := ((i + 1 : Nat) : Int)) (by omega) (by omega) (by omega)]
    refine Ev.pos (by omega) (Ev.pos (by omega) (Ev.pos (by omega) (Ev.pos (by omega) (Ev.bd (containsI_ev (l.take i) (by rw [List.length_take]; omega) _) ?_))))
    by_cases h : rd l (i : Int) ∈ l.take i
    · refine Ev.pos (decide_eq_true h) (Ev.ret ?_)
      symm; rw [decide_eq_false_iff_not]
      exact fun q => q i hlt (Nat.le_refl _) h
    · refine Ev.neg (by simpa using h) ?_
      have h2 := ih (i + 1) (by omega)
      have e : decide (∀ j, j < l.length → i ≤ j → rd l (j : Int) ∉ l.take j) = decide (∀ j, j < l.length → i + 1 ≤ j → rd l (j : Int) ∉ l.take j) := by
        rw [decide_eq_decide]
        exact ⟨fun q j h1 h2 => q j h1 (by omega), fun q j h1 h2 => if e : i = j then e ▸ h else q j h1 (by omega)⟩
      rw [e]; exact h2
theorem areNames_ev (l : List Int) (hl : l.length ≤ 8388608) : Ev (fun k => impl_areNames.f k l) (decide (namesOk l)) := by
  unfold impl_areNames.f
  by_cases h : l.length = 10
  · refine Ev.pos (by omega) (Ev.bs (g := impl_areWithin.f l 0 9) rfl ?_)
    by_cases h2 : l.all (inB 0 9) = true
    · refine Ev.pos h2 (Ev.bd (difI_l0 l hl l.length 0 (by omega)) (Ev.ret ?_))
      rw [decide_eq_decide]
      unfold namesOk
      exact ⟨fun q => ⟨h, h2, fun j hj => q j (by omega) (by omega)⟩, fun q j h1 _ => q.2.2 j (by omega)⟩
    · refine Ev.neg h2 (Ev.ret ?_)
      symm; rw [decide_eq_false_iff_not]
      exact fun q => h2 q.2.1
  · refine Ev.neg (by omega) (Ev.ret ?_)
    symm; rw [decide_eq_false_iff_not]
    exact fun q => h q.1
theorem renamed_ev (t : S_Tile) (l : List Int) (h : l.length = 10) (hb : 0 ≤ t.f0 ∧ t.f0 ≤ 9 ∧ 0 ≤ t.f1 ∧ t.f1 ≤ 9) : impl_Tile_renamed.f t.f0 t.f1 l = some (mn (rd l t.f0) (rd l t.f1), mx (rd l t.f0) (rd l t.f1)) := by
  unfold impl_Tile_renamed.f impl_tile.f
  rw [if_pos (by omega), if_pos (by omega), if_pos (by omega), if_pos (by omega)]
  rfl
theorem ren_l0 (l : List S_Play) (ns : List Int) {s : LySt} (hf : l.foldlM lyAdd lyS0 = some s) (hl : l.length ≤ 28) (hn : ns.length = 10) : ∀ (d i : Nat), i + d = l.length → Ev (fun k => impl_RenameSpread.l0 k l ns (renTo l ns i) l (l.length : Int) (i : Int)) (renTo l ns l.length, true) := by
  intro d
  induction d with
  | zero =>
    intro i hi
    obtain rfl : i = l.length := by omega
    refine Ev.succ ?_
    simp only [impl_RenameSpread.l0]
    exact Ev.neg (by omega) (Ev.ret rfl)
  | succ d ih =>
    intro i hi
    refine Ev.succ ?_
    simp only [impl_RenameSpread.l0]
    have hlt : i < l.length := by omega
    have hb := play_bd hf hl i hlt
    have hb0 := play_bd hf hl 0 (by omega)
    rw [show ((0 : Nat) : Int) = 0 from rfl] at hb0
    have hrn := renamed_ev (rd_Play l (i : Int)).f0 ns hn (by omega)
    have hlen := renTo_len l ns i
    have ih2 := ih (i + 1) (by omega)
    rw [renTo_next] at ih2
    rw [w64' (n := (i : Int) + 1) (m := ((i + 1 : Nat) : Int)) (by omega) (by omega) (by omega), w64' (n := 1 - (rd_Play l (i : Int)).f1) rfl (by omega) (by omega)]
    refine Ev.pos (by omega) (Ev.pos (by omega) (Ev.pos (by omega) (Ev.pos (by omega) ?_)))
    by_cases c1 : (i : Int) > 0
    · refine Ev.pos c1 ?_
      by_cases c2 : (rd_Play l (i : Int)).f1 < 2
      · refine Ev.pos c2 (Ev.pos (by omega) (Ev.pos (by omega) (Ev.pos (by omega) (Ev.pos (by omega) ?_))))
        by_cases c3 : rd ns (rd_Play l 0).f0.f0 > rd ns (rd_Play l 0).f0.f1
        · have e : renAt l ns i = ⟨⟨mn (rd ns (rd_Play l (i : Int)).f0.f0) (rd ns (rd_Play l (i : Int)).f0.f1), mx (rd ns (rd_Play l (i : Int)).f0.f0) (rd ns (rd_Play l (i : Int)).f0.f1)⟩, 1 - (rd_Play l (i : Int)).f1⟩ := by
            unfold renAt; congr 1; rw [if_pos ⟨by unfold renSwap; simp; omega, by omega, c2⟩]
          rw [e] at ih2
          exact Ev.pos c3 (Ev.bs hrn (Ev.pos (by omega) ih2))
        · have e : renAt l ns i = ⟨⟨mn (rd ns (rd_Play l (i : Int)).f0.f0) (rd ns (rd_Play l (i : Int)).f0.f1), mx (rd ns (rd_Play l (i : Int)).f0.f0) (rd ns (rd_Play l (i : Int)).f0.f1)⟩, (rd_Play l (i : Int)).f1⟩ := by
            unfold renAt; congr 1; rw [if_neg (fun g => by have q := g.1; unfold renSwap at q; simp at q; omega)]
          rw [e] at ih2
          exact Ev.neg c3 (Ev.bs hrn (Ev.pos (by omega) ih2))
      · have e : renAt l ns i = ⟨⟨mn (rd ns (rd_Play l (i : Int)).f0.f0) (rd ns (rd_Play l (i : Int)).f0.f1), mx (rd ns (rd_Play l (i : Int)).f0.f0) (rd ns (rd_Play l (i : Int)).f0.f1)⟩, (rd_Play l (i : Int)).f1⟩ := by
          unfold renAt; congr 1; rw [if_neg (fun g => c2 g.2.2)]
        rw [e] at ih2
        exact Ev.neg c2 (Ev.bs hrn (Ev.pos (by omega) ih2))
    · have e : renAt l ns i = ⟨⟨mn (rd ns (rd_Play l (i : Int)).f0.f0) (rd ns (rd_Play l (i : Int)).f0.f1), mx (rd ns (rd_Play l (i : Int)).f0.f0) (rd ns (rd_Play l (i : Int)).f0.f1)⟩, (rd_Play l (i : Int)).f1⟩ := by
        unfold renAt; congr 1; rw [if_neg (fun g => c1 (by omega))]
      rw [e] at ih2
      exact Ev.neg c1 (Ev.bs hrn (Ev.pos (by omega) ih2))
theorem implRenameSpread_ev (l : List S_Play) (ns : List Int) (hl : l.length ≤ 1048576) (hn : ns.length ≤ 1048576) : Ev (fun k => impl_RenameSpread.f k l ns) (resRenameSpread l ns) := by
  unfold impl_RenameSpread.f resRenameSpread impl_IsSpread.f impl_spreadOf.f
  rcases both_read l with ⟨h1, h2⟩ | ⟨s, t, h1, h2, R, hok, h28⟩
  · rw [h1, h2]
    refine Ev.bs rfl (Ev.neg (by simp) (Ev.succ ?_))
    simp only [impl_RenameSpread.j0]
    exact Ev.pos trivial (Ev.ret rfl)
  · rw [h1, h2]
    refine Ev.bs rfl (Ev.pos rfl (Ev.bd (areNames_ev ns (by omega)) (Ev.succ ?_)))
    simp only [impl_RenameSpread.j0]
    by_cases hg : namesOk ns
    · refine Ev.neg (by simp [hg]) ?_
      simp only [hg, if_true]
      exact ren_l0 l ns (read_fold h1) h28 hg.1 l.length 0 (by omega)
    · refine Ev.pos (by simp [hg]) (Ev.ret ?_)
      simp [hg]
end Go.Proofs.Ytojjlabkbddcjaa.Pure
