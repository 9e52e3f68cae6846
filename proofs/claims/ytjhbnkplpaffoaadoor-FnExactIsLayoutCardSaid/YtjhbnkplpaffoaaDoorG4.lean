-- Printed by hprint.py and laid together by pack.py (this session's programs over the kit's print program). Lean checks it.
import Derived.Test.YtjhbnkplpaffoaaDoorMSx5
import Derived.Test.YtjhbnkplpaffoaaDoorMSxL
import Derived.Test.YtjhbnkplpaffoaaDoorG0
import Derived.Test.YtjhbnkplpaffoaaDoorG3
namespace Go.Proofs.YtjhbnkplpaffoaaDoor.Hd
section
open Go.RowKit Go.Proofs.YtjhbnkplpaffoaaDoorW.PrintWords Go.Proofs.YtjhbnkplpaffoaaDoorW.PrintLast Go.Proofs.YtjhbnkplpaffoaaDoorW.PrintMore
attribute [local go_sem] max2_int min2_int max_two min_two max_three min_three max_four min_four   -- for this text's walks alone
set_option linter.unusedVariables false
set_option linter.unusedSimpArgs false

def laws_FnExactIsLayout.f (k : Nat) (a0 : ByteArray) (a1 : ByteArray) : Option (Bool) := if (a0.size : Int) > 1048576 then (some true) else (if (a1.size : Int) > 1048576 then (some true) else ((spec_IsLayout.f k a0 a1).bind fun bt296 => ((impl_IsLayout.f k a0 a1).bind fun bt298 => (if (bt298.1 != bt296.1) = true then (none) else (if (bt298.2 != bt296.2) = true then (none) else (some true))))))
set_option maxRecDepth 100000 in
set_option maxHeartbeats 40000000 in
theorem laws_FnExactIsLayout.calls (k : Nat) (a0 : ByteArray) (a1 : ByteArray) (r : Bool) (w : World) (hmx : ∃ m, w.cell? ⟨0, 0, none⟩ = some (.int .i64 m)) (h : laws_FnExactIsLayout.f k a0 a1 = some r) :
    Calls Tryd.prog 8 #[.string a0, .string a1] w fun e w' => e = .returned (.bool r) ∧ Below w.heap.size w w' := by
  obtain ⟨cs, hcs⟩ : ∃ cs, cs = [old w w.heap.size] := ⟨_, rfl⟩
  have hp : Hp w cs w := by rw [hcs]; exact Hp.old_start w
  have hc2 : ∀ W, Hp w cs W → Below w.heap.size w W := fun W h => by rw [hcs] at h; exact h.since 0 _ rfl
  have hM : ∀ W, Hp w cs W → ∃ m, W.cell? ⟨0, 0, none⟩ = some (.int .i64 m) := fun W h => hmx.imp fun m q => ((hc2 W h).cell (World.block_lt_of_cell? _ _ q)).trans q
  clear hcs
  unfold laws_FnExactIsLayout.f at h
  refine sx_enter (N := 35) (l := [.string a0, .string a1]) Tryd.func8 rfl rfl rfl ?_
  refine wp_seq ?_
  refine sx_region ?_
  refine sx_rd 4 (.bool false) (by rfl) (by kernel_rfl) ?_
  refine sx_nil ?_
  refine ex_then_n ?_
  refine wp_seq ?_
  refine wp_seq ?_
  refine sx_region ?_
  refine sx_rd 9 (.string a0) (by rfl) (by kernel_rfl) ?_
  refine sx_rd 10 (.int .i64 (a0.size : Int)) (by rfl) (by kernel_rfl) ?_
  refine sx_rd 11 (.bool (decide ((a0.size : Int) > 1048576))) (by rfl) (by kernel_rfl) ?_
  refine sx_nil ?_
  refine ex_then_n ?_
  by_cases hc_1 : (a0.size : Int) > 1048576
  ·
    rw [if_pos hc_1] at h
    refine sx_then (decide ((a0.size : Int) > 1048576)) (by rfl) (decide_eq_true hc_1) ?_
    refine wp_seq ?_
    refine sx_region ?_
    refine sx_rd 4 (.bool true) (by rfl) (by kernel_rfl) ?_
    refine sx_nil ?_
    refine ex_then_n ?_
    refine wp_ret ?_
    refine ex_then_r ?_
    refine sx_end (.bool true) (res1 4 (by rfl)) ?_
    obtain rfl := Option.some.inj h
    exact ⟨rfl, hc2 _ (hp)⟩
  ·
    rw [if_neg hc_1] at h
    refine sx_else (decide ((a0.size : Int) > 1048576)) (by rfl) (decide_eq_false hc_1) ?_
    refine wp_skip ?_
    refine ex_then_n ?_
    refine wp_seq ?_
    refine wp_seq ?_
    refine sx_region ?_
    refine sx_rd 12 (.string a1) (by rfl) (by kernel_rfl) ?_
    refine sx_rd 13 (.int .i64 (a1.size : Int)) (by rfl) (by kernel_rfl) ?_
    refine sx_rd 14 (.bool (decide ((a1.size : Int) > 1048576))) (by rfl) (by kernel_rfl) ?_
    refine sx_nil ?_
    refine ex_then_n ?_
    by_cases hc_2 : (a1.size : Int) > 1048576
    ·
      rw [if_pos hc_2] at h
      refine sx_then (decide ((a1.size : Int) > 1048576)) (by rfl) (decide_eq_true hc_2) ?_
      refine wp_seq ?_
      refine sx_region ?_
      refine sx_rd 4 (.bool true) (by rfl) (by kernel_rfl) ?_
      refine sx_nil ?_
      refine ex_then_n ?_
      refine wp_ret ?_
      refine ex_then_r ?_
      refine sx_end (.bool true) (res1 4 (by rfl)) ?_
      obtain rfl := Option.some.inj h
      exact ⟨rfl, hc2 _ (hp)⟩
    ·
      rw [if_neg hc_2] at h
      obtain ⟨⟨t_4, t_5⟩, hv_3, h⟩ := Option.bind_eq_some_iff.mp h
      try dsimp only at h
      obtain ⟨⟨t_7, t_8⟩, hv_6, h⟩ := Option.bind_eq_some_iff.mp h
      try dsimp only at h
      by_cases hc_9 : (t_7 != t_4) = true
      case pos => rw [if_pos hc_9] at h; cases h
      rw [if_neg hc_9] at h
      by_cases hc_10 : (t_8 != t_5) = true
      case pos => rw [if_pos hc_10] at h; cases h
      rw [if_neg hc_10] at h
      refine sx_else (decide ((a1.size : Int) > 1048576)) (by rfl) (decide_eq_false hc_2) ?_
      refine wp_skip ?_
      refine ex_then_n ?_
      refine wp_seq ?_
      refine sx_region ?_
      refine sx_rd 16 (.string a0) (by rfl) (by kernel_rfl) ?_
      refine sx_rd 17 (.string a1) (by rfl) (by kernel_rfl) ?_
      refine sx_call 18 (by rfl) (by kernel_rfl) ((spec_IsLayout.calls _ a0 a1 _ _ _ hv_3).mono ?_)
      rintro _ W_11 ⟨rfl, hb⟩
      refine ⟨_, rfl, ?_⟩
      replace hp := hp.below hb
      clear hb
      refine sx_rd 15 (.tuple #[.bool t_4, .bool t_5]) (by rfl) (by kernel_rfl) ?_
      refine sx_rd 19 (.bool t_4) (by rfl) (by kernel_rfl) ?_
      refine sx_rd 20 (.bool t_5) (by rfl) (by kernel_rfl) ?_
      refine sx_rd 5 (.bool t_4) (by rfl) (by kernel_rfl) ?_
      refine sx_rd 6 (.bool t_5) (by rfl) (by kernel_rfl) ?_
      refine sx_nil ?_
      refine ex_then_n ?_
      refine wp_seq ?_
      refine sx_region ?_
      refine sx_rd 22 (.string a0) (by rfl) (by kernel_rfl) ?_
      refine sx_rd 23 (.string a1) (by rfl) (by kernel_rfl) ?_
      refine sx_call 24 (by rfl) (by kernel_rfl) ((impl_IsLayout.calls _ a0 a1 _ _ _ (hM _ (hp)) hv_6).mono ?_)
      rintro _ W_12 ⟨rfl, hb⟩
      refine ⟨_, rfl, ?_⟩
      replace hp := hp.below hb
      clear hb
      refine sx_rd 21 (.tuple #[.bool t_7, .bool t_8]) (by rfl) (by kernel_rfl) ?_
      refine sx_rd 25 (.bool t_7) (by rfl) (by kernel_rfl) ?_
      refine sx_rd 26 (.bool t_8) (by rfl) (by kernel_rfl) ?_
      refine sx_rd 7 (.bool t_7) (by rfl) (by kernel_rfl) ?_
      refine sx_rd 8 (.bool t_8) (by rfl) (by kernel_rfl) ?_
      refine sx_nil ?_
      refine ex_then_n ?_
      refine wp_seq ?_
      refine wp_seq ?_
      refine sx_region ?_
      refine sx_rd 27 (.bool t_7) (by rfl) (by kernel_rfl) ?_
      refine sx_rd 28 (.bool t_4) (by rfl) (by kernel_rfl) ?_
      refine sx_rd 29 (.bool false) (by rfl) (bv (Bool.eq_false_iff.mpr hc_9) (by kernel_rfl)) ?_
      refine sx_rd 30 (.bool false) (by rfl) (by kernel_rfl) ?_
      refine sx_want (by rfl) ?_
      refine sx_rd 31 (.bool t_8) (by rfl) (by kernel_rfl) ?_
      refine sx_want (by rfl) ?_
      refine sx_rd 32 (.bool t_5) (by rfl) (by kernel_rfl) ?_
      refine sx_want (by rfl) ?_
      refine sx_rd 33 (.bool (t_8 != t_5)) (by rfl) (by kernel_rfl) ?_
      refine sx_rd 34 (.bool (t_8 != t_5)) (by rfl) (by kernel_rfl) ?_
      refine sx_nil ?_
      refine ex_then_n ?_
      refine sx_else (t_8 != t_5) (by rfl) (Bool.eq_false_iff.mpr hc_10) ?_
      refine wp_skip ?_
      refine ex_then_n ?_
      refine wp_seq ?_
      refine sx_region ?_
      refine sx_rd 4 (.bool true) (by rfl) (by kernel_rfl) ?_
      refine sx_nil ?_
      refine ex_then_n ?_
      refine wp_ret ?_
      refine sx_end (.bool true) (res1 4 (by rfl)) ?_
      obtain rfl := Option.some.inj h
      exact ⟨rfl, hc2 _ (hp)⟩
end
end Go.Proofs.YtjhbnkplpaffoaaDoor.Hd
