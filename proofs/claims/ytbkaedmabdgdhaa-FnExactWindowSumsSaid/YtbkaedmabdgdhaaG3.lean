-- Printed by hprint.py and laid together by pack.py (this session's programs over the kit's print program). Lean checks it.
import Derived.Test.YtbkaedmabdgdhaaMSx5
import Derived.Test.YtbkaedmabdgdhaaMSxL
import Derived.Test.YtbkaedmabdgdhaaG0
import Derived.Test.YtbkaedmabdgdhaaMHand
namespace Go.Proofs.Ytbkaedmabdgdhaa.Hd
section
open Go.RowKit Go.Proofs.YtbkaedmabdgdhaaW.PrintWords Go.Proofs.YtbkaedmabdgdhaaW.PrintLast Go.Proofs.YtbkaedmabdgdhaaW.PrintMore
attribute [local go_sem] max2_int min2_int max_two min_two max_three min_three max_four min_four   -- for this text's walks alone
set_option linter.unusedVariables false
set_option linter.unusedSimpArgs false

def impl_isWindowed.f (k : Nat) (l0 : List (S_Tile)) : Option (Bool) := (impl_IsHand.f k l0).bind fun t267 => (if t267 = true then (some (decide ((l0.length : Int) ≤ 9))) else (some false))
set_option maxRecDepth 100000 in
set_option maxHeartbeats 40000000 in
theorem impl_isWindowed.calls (k : Nat) (A0 : Option Addr) (c0 : Nat) (l0 : List (S_Tile)) (r : Bool) (w : World) (hr0 : Kd.C k50 w A0 l0.length l0) (hc0 : l0.length ≤ c0) (h : impl_isWindowed.f k l0 = some r) :
    Calls Try.prog 34 #[.slice A0 l0.length c0] w fun e w' => e = .returned (.bool r) ∧ Below w.heap.size w w' := by
  obtain ⟨cs, hcs⟩ : ∃ cs, cs = [old w w.heap.size] := ⟨_, rfl⟩
  have hp : Hp w cs w := by rw [hcs]; exact Hp.old_start w
  have hc2 : ∀ W, Hp w cs W → Below w.heap.size w W := fun W h => by rw [hcs] at h; exact h.since 0 _ rfl
  have hC0 : ∀ W, Hp w cs W → Kd.C k50 W A0 l0.length l0 := fun W h => Kd.C_below hr0 (hc2 W h)
  clear hcs
  unfold impl_isWindowed.f at h
  obtain ⟨t_2, hv_1, h⟩ := Option.bind_eq_some_iff.mp h
  try dsimp only at h
  refine sx_enter (N := 10) (l := [.slice A0 l0.length c0]) Try.func34 rfl rfl rfl ?_
  refine wp_seq ?_
  refine sx_region ?_
  refine sx_rd 2 (.bool false) (by rfl) (by kernel_rfl) ?_
  refine sx_nil ?_
  refine ex_then_n ?_
  refine wp_seq ?_
  by_cases hc_3 : t_2 = true
  ·
    rw [if_pos hc_3] at h
    refine sx_region ?_
    refine sx_rd 3 (.slice A0 l0.length c0) (by rfl) (by kernel_rfl) ?_
    refine sx_call 4 (by rfl) (by kernel_rfl) ((impl_IsHand.calls _ A0 c0 l0 _ _ (hC0 _ hp) hc0 hv_1).mono ?_)
    rintro _ W_4 ⟨rfl, hb⟩
    refine ⟨.bool true, congrArg (fun b => Ending.returned (.bool b)) hc_3, ?_⟩
    replace hp := hp.below hb
    clear hb
    refine sx_rd 5 (.bool true) (by rfl) (by kernel_rfl) ?_
    refine sx_want (by rfl) ?_
    refine sx_rd 6 (.slice A0 l0.length c0) (by rfl) (by kernel_rfl) ?_
    refine sx_want (by rfl) ?_
    refine sx_rd 7 (.int .i64 (l0.length : Int)) (by rfl) (by kernel_rfl) ?_
    refine sx_want (by rfl) ?_
    refine sx_rd 8 (.bool (decide ((l0.length : Int) ≤ 9))) (by rfl) (by kernel_rfl) ?_
    refine sx_rd 9 (.bool (decide ((l0.length : Int) ≤ 9))) (by rfl) (by kernel_rfl) ?_
    refine sx_rd 2 (.bool (decide ((l0.length : Int) ≤ 9))) (by rfl) (by kernel_rfl) ?_
    refine sx_nil ?_
    refine ex_then_n ?_
    refine wp_ret ?_
    refine sx_end (.bool (decide ((l0.length : Int) ≤ 9))) (res1 2 (by rfl)) ?_
    obtain rfl := Option.some.inj h
    exact ⟨rfl, hc2 _ (hp)⟩
  ·
    rw [if_neg hc_3] at h
    refine sx_region ?_
    refine sx_rd 3 (.slice A0 l0.length c0) (by rfl) (by kernel_rfl) ?_
    refine sx_call 4 (by rfl) (by kernel_rfl) ((impl_IsHand.calls _ A0 c0 l0 _ _ (hC0 _ hp) hc0 hv_1).mono ?_)
    rintro _ W_5 ⟨rfl, hb⟩
    refine ⟨.bool false, congrArg (fun b => Ending.returned (.bool b)) (Bool.eq_false_iff.mpr hc_3), ?_⟩
    replace hp := hp.below hb
    clear hb
    refine sx_rd 5 (.bool false) (by rfl) (by kernel_rfl) ?_
    refine sx_skip 6 (by rfl) (by rfl) (by rfl) ?_
    refine sx_skip 7 (by rfl) (by rfl) (by rfl) ?_
    refine sx_skip 8 (by rfl) (by rfl) (by rfl) ?_
    refine sx_rd 9 (.bool false) (by rfl) (by kernel_rfl) ?_
    refine sx_rd 2 (.bool false) (by rfl) (by kernel_rfl) ?_
    refine sx_nil ?_
    refine ex_then_n ?_
    refine wp_ret ?_
    refine sx_end (.bool false) (res1 2 (by rfl)) ?_
    obtain rfl := Option.some.inj h
    exact ⟨rfl, hc2 _ (hp)⟩
end
end Go.Proofs.Ytbkaedmabdgdhaa.Hd
