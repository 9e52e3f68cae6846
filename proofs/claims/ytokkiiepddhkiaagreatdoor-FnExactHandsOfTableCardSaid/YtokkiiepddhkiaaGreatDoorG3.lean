-- Printed by hprint.py and laid together by pack.py (this session's programs over the kit's print program). Lean checks it.
import Derived.Test.YtokkiiepddhkiaaGreatDoorMSx5
import Derived.Test.YtokkiiepddhkiaaGreatDoorMSxL
import Derived.Test.YtokkiiepddhkiaaGreatDoorG0
import Derived.Test.YtokkiiepddhkiaaGreatDoorMHtS
import Derived.Test.YtokkiiepddhkiaaGreatDoorMHtX
namespace Go.Proofs.YtokkiiepddhkiaaGreatDoor.Hd
section
open Go.RowKit Go.Proofs.YtokkiiepddhkiaaGreatDoorW.PrintWords Go.Proofs.YtokkiiepddhkiaaGreatDoorW.PrintLast Go.Proofs.YtokkiiepddhkiaaGreatDoorW.PrintMore
attribute [local go_sem] max2_int min2_int max_two min_two max_three min_three max_four min_four   -- for this text's walks alone
set_option linter.unusedVariables false
set_option linter.unusedSimpArgs false

/-! ### laws_FnExactHandsOfTable: function 5 -/
def laws_FnExactHandsOfTable.f (a0 : ByteArray) : Option (Bool) := if (a0.size : Int) > 1048576 then (some true) else ((spec_HandsOfTable.f a0).bind fun bt331 => ((impl_HandsOfTable.f a0).bind fun bt333 => (if bt333.1 = bt331.1 then (if (bt333.2 != bt331.2) = true then (none) else (some true)) else (none))))
set_option maxRecDepth 100000 in
set_option maxHeartbeats 40000000 in
theorem laws_FnExactHandsOfTable.calls (a0 : ByteArray) (r : Bool) (w : World) (hmx : ∃ m, w.cell? ⟨0, 0, none⟩ = some (.int .i64 m)) (h : laws_FnExactHandsOfTable.f a0 = some r) :
    Calls Tryz.prog 5 #[.string a0] w fun e w' => e = .returned (.bool r) ∧ Below w.heap.size w w' := by
  obtain ⟨cs, hcs⟩ : ∃ cs, cs = [old w w.heap.size] := ⟨_, rfl⟩
  have hp : Hp w cs w := by rw [hcs]; exact Hp.old_start w
  have hc2 : ∀ W, Hp w cs W → Below w.heap.size w W := fun W h => by rw [hcs] at h; exact h.since 0 _ rfl
  have hM : ∀ W, Hp w cs W → ∃ m, W.cell? ⟨0, 0, none⟩ = some (.int .i64 m) := fun W h => hmx.imp fun m q => ((hc2 W h).cell (World.block_lt_of_cell? _ _ q)).trans q
  clear hcs
  unfold laws_FnExactHandsOfTable.f at h
  refine sx_enter (N := 28) (l := [.string a0]) Tryz.func5 rfl rfl rfl ?_
  refine wp_seq ?_
  refine sx_region ?_
  refine sx_rd 2 (.bool false) (by rfl) (by kernel_rfl) ?_
  refine sx_nil ?_
  refine ex_then_n ?_
  refine wp_seq ?_
  refine wp_seq ?_
  refine sx_region ?_
  refine sx_rd 7 (.string a0) (by rfl) (by kernel_rfl) ?_
  refine sx_rd 8 (.int .i64 (a0.size : Int)) (by rfl) (by kernel_rfl) ?_
  refine sx_rd 9 (.bool (decide ((a0.size : Int) > 1048576))) (by rfl) (by kernel_rfl) ?_
  refine sx_nil ?_
  refine ex_then_n ?_
  by_cases hc_1 : (a0.size : Int) > 1048576
  ·
    rw [if_pos hc_1] at h
    refine sx_then (decide ((a0.size : Int) > 1048576)) (by rfl) (decide_eq_true hc_1) ?_
    refine wp_seq ?_
    refine sx_region ?_
    refine sx_rd 2 (.bool true) (by rfl) (by kernel_rfl) ?_
    refine sx_nil ?_
    refine ex_then_n ?_
    refine wp_ret ?_
    refine ex_then_r ?_
    refine sx_end (.bool true) (res1 2 (by rfl)) ?_
    obtain rfl := Option.some.inj h
    exact ⟨rfl, hc2 _ (hp)⟩
  ·
    rw [if_neg hc_1] at h
    obtain ⟨⟨t_3, t_4⟩, hv_2, h⟩ := Option.bind_eq_some_iff.mp h
    try dsimp only at h
    obtain ⟨⟨t_6, t_7⟩, hv_5, h⟩ := Option.bind_eq_some_iff.mp h
    try dsimp only at h
    by_cases hc_8 : t_6 = t_3
    case neg => rw [if_neg hc_8] at h; cases h
    rw [if_pos hc_8] at h
    by_cases hc_9 : (t_7 != t_4) = true
    case pos => rw [if_pos hc_9] at h; cases h
    rw [if_neg hc_9] at h
    refine sx_else (decide ((a0.size : Int) > 1048576)) (by rfl) (decide_eq_false hc_1) ?_
    refine wp_skip ?_
    refine ex_then_n ?_
    refine wp_seq ?_
    refine sx_region ?_
    refine sx_rd 11 (.string a0) (by rfl) (by kernel_rfl) ?_
    refine sx_call 12 (by rfl) (by kernel_rfl) ((spec_HandsOfTable.calls a0 _ _ _ (hM _ (hp)) hv_2).mono ?_)
    rintro _ W_10 ⟨rfl, hb⟩
    refine ⟨_, rfl, ?_⟩
    replace hp := hp.below hb
    clear hb
    refine sx_rd 10 (.tuple #[.int .i64 t_3, .bool t_4]) (by rfl) (by kernel_rfl) ?_
    refine sx_rd 13 (.int .i64 t_3) (by rfl) (by kernel_rfl) ?_
    refine sx_rd 14 (.bool t_4) (by rfl) (by kernel_rfl) ?_
    refine sx_rd 3 (.int .i64 t_3) (by rfl) (by kernel_rfl) ?_
    refine sx_rd 4 (.bool t_4) (by rfl) (by kernel_rfl) ?_
    refine sx_nil ?_
    refine ex_then_n ?_
    refine wp_seq ?_
    refine sx_region ?_
    refine sx_rd 16 (.string a0) (by rfl) (by kernel_rfl) ?_
    refine sx_call 17 (by rfl) (by kernel_rfl) ((impl_HandsOfTable.calls a0 _ _ _ (hM _ (hp)) hv_5).mono ?_)
    rintro _ W_11 ⟨rfl, hb⟩
    refine ⟨_, rfl, ?_⟩
    replace hp := hp.below hb
    clear hb
    refine sx_rd 15 (.tuple #[.int .i64 t_6, .bool t_7]) (by rfl) (by kernel_rfl) ?_
    refine sx_rd 18 (.int .i64 t_6) (by rfl) (by kernel_rfl) ?_
    refine sx_rd 19 (.bool t_7) (by rfl) (by kernel_rfl) ?_
    refine sx_rd 5 (.int .i64 t_6) (by rfl) (by kernel_rfl) ?_
    refine sx_rd 6 (.bool t_7) (by rfl) (by kernel_rfl) ?_
    refine sx_nil ?_
    refine ex_then_n ?_
    refine wp_seq ?_
    refine wp_seq ?_
    refine sx_region ?_
    refine sx_rd 20 (.int .i64 t_6) (by rfl) (by kernel_rfl) ?_
    refine sx_rd 21 (.int .i64 t_3) (by rfl) (by kernel_rfl) ?_
    refine sx_rd 22 (.bool false) (by rfl) (bv (bne_eq_false_iff_eq.mpr hc_8) (by kernel_rfl)) ?_
    refine sx_rd 23 (.bool false) (by rfl) (by kernel_rfl) ?_
    refine sx_want (by rfl) ?_
    refine sx_rd 24 (.bool t_7) (by rfl) (by kernel_rfl) ?_
    refine sx_want (by rfl) ?_
    refine sx_rd 25 (.bool t_4) (by rfl) (by kernel_rfl) ?_
    refine sx_want (by rfl) ?_
    refine sx_rd 26 (.bool (t_7 != t_4)) (by rfl) (by kernel_rfl) ?_
    refine sx_rd 27 (.bool (t_7 != t_4)) (by rfl) (by kernel_rfl) ?_
    refine sx_nil ?_
    refine ex_then_n ?_
    refine sx_else (t_7 != t_4) (by rfl) (Bool.eq_false_iff.mpr hc_9) ?_
    refine wp_skip ?_
    refine ex_then_n ?_
    refine wp_seq ?_
    refine sx_region ?_
    refine sx_rd 2 (.bool true) (by rfl) (by kernel_rfl) ?_
    refine sx_nil ?_
    refine ex_then_n ?_
    refine wp_ret ?_
    refine sx_end (.bool true) (res1 2 (by rfl)) ?_
    obtain rfl := Option.some.inj h
    exact ⟨rfl, hc2 _ (hp)⟩
end
end Go.Proofs.YtokkiiepddhkiaaGreatDoor.Hd
