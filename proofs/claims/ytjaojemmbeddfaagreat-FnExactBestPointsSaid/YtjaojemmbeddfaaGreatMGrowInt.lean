/- slices.Grow over a nil slice, by hand: an empty row of the call's own. -/
import Derived.Test.YtjaojemmbeddfaaGreatG0
namespace Go.Proofs.YtjaojemmbeddfaaGreat.Hd
open Go.RowKit Go.Proofs.YtjaojemmbeddfaaGreatW.PrintWords Go.Proofs.YtjaojemmbeddfaaGreatW.PrintLast Go.Proofs.YtjaojemmbeddfaaGreatW.PrintMore
set_option linter.unusedVariables false
set_option linter.unusedSimpArgs false
def slices_Grow_int_int.f (a0 : Int) : Option (List Int) := if 0 ≤ a0 then (if a0 < 8796093022208 then some [] else none) else none
set_option maxHeartbeats 1000000 in
theorem slices_Grow_int_int.calls (a0 : Int) (r : List Int) (w : World) (h : slices_Grow_int_int.f a0 = some r) :
    Calls Tryz.prog 100 #[.slice none 0 0, .int .i64 a0] w fun e w' => ∃ v0_ : Value, e = .returned (v0_) ∧ Kd.R (Kd.int .i64) 3 w' w.heap.size (fun _ => True) v0_ r ∧ Below w.heap.size w w' := by
  unfold slices_Grow_int_int.f at h
  by_cases h0 : 0 ≤ a0
  · rw [if_pos h0] at h
    by_cases h1 : a0 < 8796093022208
    · rw [if_pos h1] at h
      obtain rfl := Option.some.inj h
      clear h
      by_cases hz : a0 = 0
      · subst hz
        go_enter Tryz.func100, Tryz.ntmps100
        go_wp2
        go_ret
        exact ⟨_, rfl, Kd.R_nil _ _ _ _ _, Below.refl _ _⟩
      · have hp : 0 < a0 := by omega
        clear hz
        go_enter Tryz.func100, Tryz.ntmps100
        go_wp2_with (at_builtin; refine Kd.R_append_zeros (Kd.int .i64) (w0 := w) w.heap.size rfl (.tmp 20) (.tmp 21) 23 3 3 (.int .i64 0) 8 rfl Tryz.underlying23 Tryz.underlying3 info3 rfl (by decide) (by decide) (.slice none 0 0) [] 0 a0 (fun _ => True) rfl rfl ?cz (fun _ _ => trivial) (Kd.R_nil _ _ _ _ _) h0 (Below.refl _ _) (Nat.le_refl _) ?cl ?_; (case cz => exact rfl); (case cl => simp only [List.length_nil]; omega); intro v1 w1 ho hb hg hat; clear hg hat; obtain ⟨A1, c1, rfl, hle1, _⟩ := Kd.R_reads ho; have HO := Aside0.mk ho; clear ho; have HB := Aside0.mk hb; clear hb)
        go_ret
        exact ⟨_, rfl, by have hh := Kd.R_take HO.out (Nat.zero_le _); rw [List.take_zero] at hh; exact hh, HB.out⟩
    · rw [if_neg h1] at h; exact absurd h (by simp)
  · rw [if_neg h0] at h; exact absurd h (by simp)
end Go.Proofs.YtjaojemmbeddfaaGreat.Hd
