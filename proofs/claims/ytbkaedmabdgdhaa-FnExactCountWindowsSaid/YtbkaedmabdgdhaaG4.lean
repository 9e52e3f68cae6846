-- Printed by hprint.py and laid together by pack.py (this session's programs over the kit's print program). Lean checks it.
import Derived.Test.YtbkaedmabdgdhaaMSx5
import Derived.Test.YtbkaedmabdgdhaaMSxL
import Derived.Test.YtbkaedmabdgdhaaMSxN
import Derived.Test.YtbkaedmabdgdhaaG0
import Derived.Test.YtbkaedmabdgdhaaG2
import Derived.Test.YtbkaedmabdgdhaaMWinA
import Derived.Test.YtbkaedmabdgdhaaG3
import Derived.Test.YtbkaedmabdgdhaaMWinW
namespace Go.Proofs.Ytbkaedmabdgdhaa.Hd
section
open Go.RowKit Go.Proofs.YtbkaedmabdgdhaaW.PrintWords Go.Proofs.YtbkaedmabdgdhaaW.PrintLast Go.Proofs.YtbkaedmabdgdhaaW.PrintMore
attribute [local go_sem] max2_int min2_int max_two min_two max_three min_three max_four min_four   -- for this text's walks alone
set_option linter.unusedVariables false
set_option linter.unusedSimpArgs false

def spec_CountWindows.f (k : Nat) (l0 : List (S_Tile)) : Option (Int × Bool) := (spec_wiSmall.f k l0).bind fun t263 => (if t263 = true then ((spec_wiAll.f l0).bind fun t264 => (some ((t264.length : Int), true))) else (some (0, false)))
set_option maxRecDepth 100000 in
set_option maxHeartbeats 40000000 in
theorem spec_CountWindows.calls (k : Nat) (A0 : Option Addr) (c0 : Nat) (l0 : List (S_Tile)) (r1 : Int) (r2 : Bool) (w : World) (hr0 : Kd.C k50 w A0 l0.length l0) (hc0 : l0.length ≤ c0) (h : spec_CountWindows.f k l0 = some (r1, r2)) :
    Calls Try.prog 19 #[.slice A0 l0.length c0] w fun e w' => e = .returned (.tuple #[.int .i64 r1, .bool r2]) ∧ Below w.heap.size w w' := by
  obtain ⟨cs, hcs⟩ : ∃ cs, cs = [old w w.heap.size] := ⟨_, rfl⟩
  have hp : Hp w cs w := by rw [hcs]; exact Hp.old_start w
  have hc2 : ∀ W, Hp w cs W → Below w.heap.size w W := fun W h => by rw [hcs] at h; exact h.since 0 _ rfl
  have hC0 : ∀ W, Hp w cs W → Kd.C k50 W A0 l0.length l0 := fun W h => Kd.C_below hr0 (hc2 W h)
  clear hcs
  unfold spec_CountWindows.f at h
  obtain ⟨t_2, hv_1, h⟩ := Option.bind_eq_some_iff.mp h
  try dsimp only at h
  refine sx_enter (N := 10) (l := [.slice A0 l0.length c0]) Try.func19 rfl rfl rfl ?_
  refine wp_seq ?_
  refine sx_region ?_
  refine sx_rd 2 (.int .i64 0) (by rfl) (by kernel_rfl) ?_
  refine sx_rd 3 (.bool false) (by rfl) (by kernel_rfl) ?_
  refine sx_nil ?_
  refine ex_then_n ?_
  refine wp_seq ?_
  refine wp_seq ?_
  refine sx_region ?_
  refine sx_rd 4 (.slice A0 l0.length c0) (by rfl) (by kernel_rfl) ?_
  refine sx_call 5 (by rfl) (by kernel_rfl) ((spec_wiSmall.calls _ A0 c0 l0 _ _ (hC0 _ hp) hc0 hv_1).mono ?_)
  rintro _ W_3 ⟨rfl, hb⟩
  refine ⟨_, rfl, ?_⟩
  replace hp := hp.below hb
  clear hb
  refine sx_rd 6 (.bool (!t_2)) (by rfl) (by kernel_rfl) ?_
  refine sx_nil ?_
  refine ex_then_n ?_
  by_cases hc_4 : t_2 = true
  ·
    rw [if_pos hc_4] at h
    obtain ⟨t_6, hv_5, h⟩ := Option.bind_eq_some_iff.mp h
    try dsimp only at h
    refine sx_else (!t_2) (by rfl) (show (!t_2) = false from by rw [hc_4]; rfl) ?_
    refine wp_skip ?_
    refine ex_then_n ?_
    refine wp_seq ?_
    refine sx_region ?_
    refine sx_rd 7 (.slice A0 l0.length c0) (by rfl) (by kernel_rfl) ?_
    refine sx_call 8 (by rfl) (by kernel_rfl) ((spec_wiAll.calls A0 c0 l0 _ _ (hC0 _ hp) hc0 hv_5).mono ?_)
    rintro _ W_12 ⟨v_8, rfl, hR_7, hb⟩
    refine ⟨_, rfl, ?_⟩
    obtain ⟨A_9, c_10, rfl, hcc_c_10, _⟩ := Kd.S_reads hR_7
    obtain ⟨F_11, hp⟩ : ∃ F, Hp w (rowS (Kd.slice 3 (Kd.int .i64)) 39 w.heap.size (.slice A_9 t_6.length c_10) t_6 F :: cs) _ := ⟨_, Hp.madeS hp hb hR_7⟩
    refine sx_rd 9 (.int .i64 (t_6.length : Int)) (by rfl) (by kernel_rfl) ?_
    refine sx_rd 2 (.int .i64 (t_6.length : Int)) (by rfl) (by kernel_rfl) ?_
    refine sx_rd 3 (.bool true) (by rfl) (by kernel_rfl) ?_
    refine sx_nil ?_
    refine ex_then_n ?_
    refine wp_ret ?_
    refine sx_end (.tuple #[.int .i64 (t_6.length : Int), .bool true]) (res2 2 3 (by rfl)) ?_
    simp only [Option.some.injEq, Prod.mk.injEq] at h; obtain ⟨rfl, rfl⟩ := h
    exact ⟨rfl, hc2 _ (hp.tail)⟩
  ·
    rw [if_neg hc_4] at h
    refine sx_then (!t_2) (by rfl) (show (!t_2) = true from by rw [(Bool.eq_false_iff.mpr hc_4)]; rfl) ?_
    refine wp_seq ?_
    refine sx_region ?_
    refine sx_rd 2 (.int .i64 0) (by rfl) (by kernel_rfl) ?_
    refine sx_rd 3 (.bool false) (by rfl) (by kernel_rfl) ?_
    refine sx_nil ?_
    refine ex_then_n ?_
    refine wp_ret ?_
    refine ex_then_r ?_
    refine sx_end (.tuple #[.int .i64 0, .bool false]) (res2 2 3 (by rfl)) ?_
    simp only [Option.some.injEq, Prod.mk.injEq] at h; obtain ⟨rfl, rfl⟩ := h
    exact ⟨rfl, hc2 _ (hp)⟩
end
section
open Go.RowKit Go.Proofs.YtbkaedmabdgdhaaW.PrintWords Go.Proofs.YtbkaedmabdgdhaaW.PrintLast Go.Proofs.YtbkaedmabdgdhaaW.PrintMore
attribute [local go_sem] max2_int min2_int max_two min_two max_three min_three max_four min_four   -- for this text's walks alone
set_option linter.unusedVariables false
set_option linter.unusedSimpArgs false

def impl_CountWindows.f (k : Nat) (l0 : List (S_Tile)) : Option (Int × Bool) := (impl_isWindowed.f k l0).bind fun t275 => (if t275 = true then ((impl_windows.f l0).bind fun t276 => (some ((t276.length : Int), true))) else (some (0, false)))
set_option maxRecDepth 100000 in
set_option maxHeartbeats 40000000 in
theorem impl_CountWindows.calls (k : Nat) (A0 : Option Addr) (c0 : Nat) (l0 : List (S_Tile)) (r1 : Int) (r2 : Bool) (w : World) (hr0 : Kd.C k50 w A0 l0.length l0) (hc0 : l0.length ≤ c0) (h : impl_CountWindows.f k l0 = some (r1, r2)) :
    Calls Try.prog 20 #[.slice A0 l0.length c0] w fun e w' => e = .returned (.tuple #[.int .i64 r1, .bool r2]) ∧ Below w.heap.size w w' := by
  obtain ⟨cs, hcs⟩ : ∃ cs, cs = [old w w.heap.size] := ⟨_, rfl⟩
  have hp : Hp w cs w := by rw [hcs]; exact Hp.old_start w
  have hc2 : ∀ W, Hp w cs W → Below w.heap.size w W := fun W h => by rw [hcs] at h; exact h.since 0 _ rfl
  have hC0 : ∀ W, Hp w cs W → Kd.C k50 W A0 l0.length l0 := fun W h => Kd.C_below hr0 (hc2 W h)
  clear hcs
  unfold impl_CountWindows.f at h
  obtain ⟨t_2, hv_1, h⟩ := Option.bind_eq_some_iff.mp h
  try dsimp only at h
  refine sx_enter (N := 10) (l := [.slice A0 l0.length c0]) Try.func20 rfl rfl rfl ?_
  refine wp_seq ?_
  refine sx_region ?_
  refine sx_rd 2 (.int .i64 0) (by rfl) (by kernel_rfl) ?_
  refine sx_rd 3 (.bool false) (by rfl) (by kernel_rfl) ?_
  refine sx_nil ?_
  refine ex_then_n ?_
  refine wp_seq ?_
  refine wp_seq ?_
  refine sx_region ?_
  refine sx_rd 4 (.slice A0 l0.length c0) (by rfl) (by kernel_rfl) ?_
  refine sx_call 5 (by rfl) (by kernel_rfl) ((impl_isWindowed.calls _ A0 c0 l0 _ _ (hC0 _ hp) hc0 hv_1).mono ?_)
  rintro _ W_3 ⟨rfl, hb⟩
  refine ⟨_, rfl, ?_⟩
  replace hp := hp.below hb
  clear hb
  refine sx_rd 6 (.bool (!t_2)) (by rfl) (by kernel_rfl) ?_
  refine sx_nil ?_
  refine ex_then_n ?_
  by_cases hc_4 : t_2 = true
  ·
    rw [if_pos hc_4] at h
    obtain ⟨t_6, hv_5, h⟩ := Option.bind_eq_some_iff.mp h
    try dsimp only at h
    refine sx_else (!t_2) (by rfl) (show (!t_2) = false from by rw [hc_4]; rfl) ?_
    refine wp_skip ?_
    refine ex_then_n ?_
    refine wp_seq ?_
    refine sx_region ?_
    refine sx_rd 7 (.slice A0 l0.length c0) (by rfl) (by kernel_rfl) ?_
    refine sx_call 8 (by rfl) (by kernel_rfl) ((impl_windows.calls A0 c0 l0 _ _ (hC0 _ hp) hc0 hv_5).mono ?_)
    rintro _ W_12 ⟨v_8, rfl, hR_7, hb⟩
    refine ⟨_, rfl, ?_⟩
    obtain ⟨A_9, c_10, rfl, hcc_c_10, _⟩ := Kd.S_reads hR_7
    obtain ⟨F_11, hp⟩ : ∃ F, Hp w (rowS (Kd.slice 3 (Kd.int .i64)) 39 w.heap.size (.slice A_9 t_6.length c_10) t_6 F :: cs) _ := ⟨_, Hp.madeS hp hb hR_7⟩
    refine sx_rd 9 (.int .i64 (t_6.length : Int)) (by rfl) (by kernel_rfl) ?_
    refine sx_rd 2 (.int .i64 (t_6.length : Int)) (by rfl) (by kernel_rfl) ?_
    refine sx_rd 3 (.bool true) (by rfl) (by kernel_rfl) ?_
    refine sx_nil ?_
    refine ex_then_n ?_
    refine wp_ret ?_
    refine sx_end (.tuple #[.int .i64 (t_6.length : Int), .bool true]) (res2 2 3 (by rfl)) ?_
    simp only [Option.some.injEq, Prod.mk.injEq] at h; obtain ⟨rfl, rfl⟩ := h
    exact ⟨rfl, hc2 _ (hp.tail)⟩
  ·
    rw [if_neg hc_4] at h
    refine sx_then (!t_2) (by rfl) (show (!t_2) = true from by rw [(Bool.eq_false_iff.mpr hc_4)]; rfl) ?_
    refine wp_seq ?_
    refine sx_region ?_
    refine sx_rd 2 (.int .i64 0) (by rfl) (by kernel_rfl) ?_
    refine sx_rd 3 (.bool false) (by rfl) (by kernel_rfl) ?_
    refine sx_nil ?_
    refine ex_then_n ?_
    refine wp_ret ?_
    refine ex_then_r ?_
    refine sx_end (.tuple #[.int .i64 0, .bool false]) (res2 2 3 (by rfl)) ?_
    simp only [Option.some.injEq, Prod.mk.injEq] at h; obtain ⟨rfl, rfl⟩ := h
    exact ⟨rfl, hc2 _ (hp)⟩
end
section
open Go.RowKit Go.Proofs.YtbkaedmabdgdhaaW.PrintWords Go.Proofs.YtbkaedmabdgdhaaW.PrintLast Go.Proofs.YtbkaedmabdgdhaaW.PrintMore
attribute [local go_sem] max2_int min2_int max_two min_two max_three min_three max_four min_four   -- for this text's walks alone
set_option linter.unusedVariables false
set_option linter.unusedSimpArgs false

def laws_FnExactCountWindows.f (k : Nat) (l0 : List (S_LTile)) : Option (Bool) := (laws_szTileS.f l0 1048576).bind fun t279 => (if t279 < 0 then (some true) else ((laws_toTileS.f k l0).bind fun t280 => ((spec_CountWindows.f k t280).bind fun bt283 => ((laws_toTileS.f k l0).bind fun t285 => ((impl_CountWindows.f k t285).bind fun bt288 => (if bt288.1 = bt283.1 then (if (bt288.2 != bt283.2) = true then (none) else ((laws_toTileS.f k l0).bind fun t290 => ((laws_eqTileS.f k t285 t290).bind fun t293 => (if t293 = true then (some true) else (none))))) else (none)))))))
set_option maxRecDepth 100000 in
set_option maxHeartbeats 40000000 in
theorem laws_FnExactCountWindows.calls (k : Nat) (A0 : Option Addr) (c0 : Nat) (l0 : List (S_LTile)) (r : Bool) (w : World) (hr0 : Kd.C k52 w A0 l0.length l0) (hc0 : l0.length ≤ c0) (h : laws_FnExactCountWindows.f k l0 = some r) :
    Calls Try.prog 5 #[.slice A0 l0.length c0] w fun e w' => e = .returned (.bool r) ∧ Below w.heap.size w w' := by
  obtain ⟨cs, hcs⟩ : ∃ cs, cs = [old w w.heap.size] := ⟨_, rfl⟩
  have hp : Hp w cs w := by rw [hcs]; exact Hp.old_start w
  have hc2 : ∀ W, Hp w cs W → Below w.heap.size w W := fun W h => by rw [hcs] at h; exact h.since 0 _ rfl
  have hC0 : ∀ W, Hp w cs W → Kd.C k52 W A0 l0.length l0 := fun W h => Kd.C_below hr0 (hc2 W h)
  clear hcs
  unfold laws_FnExactCountWindows.f at h
  obtain ⟨t_2, hv_1, h⟩ := Option.bind_eq_some_iff.mp h
  try dsimp only at h
  refine sx_enter (N := 40) (l := [.slice A0 l0.length c0]) Try.func5 rfl rfl rfl ?_
  refine wp_seq ?_
  refine sx_region ?_
  refine sx_rd 2 (.bool false) (by rfl) (by kernel_rfl) ?_
  refine sx_nil ?_
  refine ex_then_n ?_
  refine wp_seq ?_
  refine sx_region ?_
  refine sx_rd 3 (.int .i64 1048576) (by rfl) (by kernel_rfl) ?_
  refine sx_nil ?_
  refine ex_then_n ?_
  refine wp_seq ?_
  refine sx_region ?_
  refine sx_rd 9 (.slice A0 l0.length c0) (by rfl) (by kernel_rfl) ?_
  refine sx_rd 10 (.int .i64 1048576) (by rfl) (by kernel_rfl) ?_
  refine sx_call 11 (by rfl) (by kernel_rfl) ((laws_szTileS.calls A0 c0 l0 1048576 _ _ (hC0 _ hp) hc0 hv_1).mono ?_)
  rintro _ W_3 ⟨rfl, hb⟩
  refine ⟨_, rfl, ?_⟩
  replace hp := hp.below hb.below
  clear hb
  refine sx_rd 3 (.int .i64 t_2) (by rfl) (by kernel_rfl) ?_
  refine sx_nil ?_
  refine ex_then_n ?_
  refine wp_seq ?_
  refine wp_seq ?_
  refine sx_region ?_
  refine sx_rd 12 (.int .i64 t_2) (by rfl) (by kernel_rfl) ?_
  refine sx_rd 13 (.bool (decide (t_2 < 0))) (by rfl) (by kernel_rfl) ?_
  refine sx_nil ?_
  refine ex_then_n ?_
  by_cases hc_4 : t_2 < 0
  ·
    rw [if_pos hc_4] at h
    refine sx_then (decide (t_2 < 0)) (by rfl) (decide_eq_true hc_4) ?_
    refine wp_seq ?_
    refine sx_region ?_
    refine sx_rd 2 (.bool true) (by rfl) (by kernel_rfl) ?_
    refine sx_nil ?_
    refine ex_then_n ?_
    refine wp_ret ?_
    refine ex_then_r ?_
    refine sx_end (.bool true) (res1 2 (by rfl)) ?_
    obtain rfl := Option.some.inj h
    exact ⟨rfl, hc2 _ (hp)⟩
  ·
    rw [if_neg hc_4] at h
    obtain ⟨t_6, hv_5, h⟩ := Option.bind_eq_some_iff.mp h
    try dsimp only at h
    obtain ⟨⟨t_8, t_9⟩, hv_7, h⟩ := Option.bind_eq_some_iff.mp h
    try dsimp only at h
    obtain ⟨t_11, hv_10, h⟩ := Option.bind_eq_some_iff.mp h
    try dsimp only at h
    obtain ⟨⟨t_13, t_14⟩, hv_12, h⟩ := Option.bind_eq_some_iff.mp h
    try dsimp only at h
    by_cases hc_15 : t_13 = t_8
    case neg => rw [if_neg hc_15] at h; cases h
    rw [if_pos hc_15] at h
    by_cases hc_16 : (t_14 != t_9) = true
    case pos => rw [if_pos hc_16] at h; cases h
    rw [if_neg hc_16] at h
    obtain ⟨t_18, hv_17, h⟩ := Option.bind_eq_some_iff.mp h
    try dsimp only at h
    obtain ⟨t_20, hv_19, h⟩ := Option.bind_eq_some_iff.mp h
    try dsimp only at h
    by_cases hc_21 : t_20 = true
    case neg => rw [if_neg hc_21] at h; cases h
    rw [if_pos hc_21] at h
    refine sx_else (decide (t_2 < 0)) (by rfl) (decide_eq_false hc_4) ?_
    refine wp_skip ?_
    refine ex_then_n ?_
    refine wp_seq ?_
    refine sx_region ?_
    refine sx_rd 15 (.slice A0 l0.length c0) (by rfl) (by kernel_rfl) ?_
    refine sx_call 16 (by rfl) (by kernel_rfl) ((laws_toTileS.calls _ A0 c0 l0 _ _ (hC0 _ hp) hc0 hv_5).mono ?_)
    rintro _ W_27 ⟨v_23, rfl, hR_22, hb⟩
    refine ⟨_, rfl, ?_⟩
    obtain ⟨A_24, c_25, rfl, hcc_c_25, _⟩ := Kd.R_reads hR_22
    obtain ⟨F_26, hp⟩ : ∃ F, Hp w (row k50 50 w.heap.size (.slice A_24 t_6.length c_25) t_6 F :: cs) _ := ⟨_, Hp.made hp hb hR_22⟩
    refine sx_call 17 (by rfl) (by kernel_rfl) ((spec_CountWindows.calls _ A_24 c_25 t_6 _ _ _ (row_C (hp.at_ 0 _ (by rfl))) (row_len (hp.at_ 0 _ (by rfl))).2 hv_7).mono ?_)
    rintro _ W_28 ⟨rfl, hb⟩
    refine ⟨_, rfl, ?_⟩
    replace hp := hp.below hb
    clear hb
    refine sx_rd 14 (.tuple #[.int .i64 t_8, .bool t_9]) (by rfl) (by kernel_rfl) ?_
    refine sx_rd 18 (.int .i64 t_8) (by rfl) (by kernel_rfl) ?_
    refine sx_rd 19 (.bool t_9) (by rfl) (by kernel_rfl) ?_
    refine sx_rd 4 (.int .i64 t_8) (by rfl) (by kernel_rfl) ?_
    refine sx_rd 5 (.bool t_9) (by rfl) (by kernel_rfl) ?_
    refine sx_nil ?_
    refine ex_then_n ?_
    refine wp_seq ?_
    refine sx_region ?_
    refine sx_rd 20 (.slice A0 l0.length c0) (by rfl) (by kernel_rfl) ?_
    refine sx_call 21 (by rfl) (by kernel_rfl) ((laws_toTileS.calls _ A0 c0 l0 _ _ (hC0 _ hp.tail) hc0 hv_10).mono ?_)
    rintro _ W_34 ⟨v_30, rfl, hR_29, hb⟩
    refine ⟨_, rfl, ?_⟩
    obtain ⟨A_31, c_32, rfl, hcc_c_32, _⟩ := Kd.R_reads hR_29
    obtain ⟨F_33, hp⟩ : ∃ F, Hp w (row k50 50 w.heap.size (.slice A_31 t_11.length c_32) t_11 F :: row k50 50 w.heap.size (.slice A_24 t_6.length c_25) t_6 F_26 :: cs) _ := ⟨_, Hp.made hp hb hR_29⟩
    refine sx_rd 6 (.slice A_31 t_11.length c_32) (by rfl) (by kernel_rfl) ?_
    refine sx_nil ?_
    refine ex_then_n ?_
    refine wp_seq ?_
    refine sx_region ?_
    refine sx_rd 23 (.slice A_31 t_11.length c_32) (by rfl) (by kernel_rfl) ?_
    refine sx_call 24 (by rfl) (by kernel_rfl) ((impl_CountWindows.calls _ A_31 c_32 t_11 _ _ _ (row_C (hp.at_ 0 _ (by rfl))) (row_len (hp.at_ 0 _ (by rfl))).2 hv_12).mono ?_)
    rintro _ W_35 ⟨rfl, hb⟩
    refine ⟨_, rfl, ?_⟩
    replace hp := hp.below hb
    clear hb
    refine sx_rd 22 (.tuple #[.int .i64 t_13, .bool t_14]) (by rfl) (by kernel_rfl) ?_
    refine sx_rd 25 (.int .i64 t_13) (by rfl) (by kernel_rfl) ?_
    refine sx_rd 26 (.bool t_14) (by rfl) (by kernel_rfl) ?_
    refine sx_rd 7 (.int .i64 t_13) (by rfl) (by kernel_rfl) ?_
    refine sx_rd 8 (.bool t_14) (by rfl) (by kernel_rfl) ?_
    refine sx_nil ?_
    refine ex_then_n ?_
    refine wp_seq ?_
    refine wp_seq ?_
    refine sx_region ?_
    refine sx_rd 27 (.int .i64 t_13) (by rfl) (by kernel_rfl) ?_
    refine sx_rd 28 (.int .i64 t_8) (by rfl) (by kernel_rfl) ?_
    refine sx_rd 29 (.bool false) (by rfl) (bv (bne_eq_false_iff_eq.mpr hc_15) (by kernel_rfl)) ?_
    refine sx_rd 30 (.bool false) (by rfl) (by kernel_rfl) ?_
    refine sx_want (by rfl) ?_
    refine sx_rd 31 (.bool t_14) (by rfl) (by kernel_rfl) ?_
    refine sx_want (by rfl) ?_
    refine sx_rd 32 (.bool t_9) (by rfl) (by kernel_rfl) ?_
    refine sx_want (by rfl) ?_
    refine sx_rd 33 (.bool (t_14 != t_9)) (by rfl) (by kernel_rfl) ?_
    refine sx_rd 34 (.bool (t_14 != t_9)) (by rfl) (by kernel_rfl) ?_
    refine sx_nil ?_
    refine ex_then_n ?_
    refine sx_else (t_14 != t_9) (by rfl) (Bool.eq_false_iff.mpr hc_16) ?_
    refine wp_skip ?_
    refine ex_then_n ?_
    refine wp_seq ?_
    refine wp_seq ?_
    refine sx_region ?_
    refine sx_rd 35 (.slice A_31 t_11.length c_32) (by rfl) (by kernel_rfl) ?_
    refine sx_rd 36 (.slice A0 l0.length c0) (by rfl) (by kernel_rfl) ?_
    refine sx_call 37 (by rfl) (by kernel_rfl) ((laws_toTileS.calls _ A0 c0 l0 _ _ (hC0 _ hp.tail.tail) hc0 hv_17).mono ?_)
    rintro _ W_41 ⟨v_37, rfl, hR_36, hb⟩
    refine ⟨_, rfl, ?_⟩
    obtain ⟨A_38, c_39, rfl, hcc_c_39, _⟩ := Kd.R_reads hR_36
    obtain ⟨F_40, hp⟩ : ∃ F, Hp w (row k50 50 w.heap.size (.slice A_38 t_18.length c_39) t_18 F :: row k50 50 w.heap.size (.slice A_31 t_11.length c_32) t_11 F_33 :: row k50 50 w.heap.size (.slice A_24 t_6.length c_25) t_6 F_26 :: cs) _ := ⟨_, Hp.made hp hb hR_36⟩
    refine sx_call 38 (by rfl) (by kernel_rfl) ((laws_eqTileS.calls _ A_31 c_32 t_11 A_38 c_39 t_18 _ _ (row_C (hp.at_ 1 _ (by rfl))) (row_len (hp.at_ 1 _ (by rfl))).2 (row_C (hp.at_ 0 _ (by rfl))) (row_len (hp.at_ 0 _ (by rfl))).2 hv_19).mono ?_)
    rintro _ W_42 ⟨rfl, hb⟩
    refine ⟨_, rfl, ?_⟩
    replace hp := hp.below hb
    clear hb
    refine sx_rd 39 (.bool (!t_20)) (by rfl) (by kernel_rfl) ?_
    refine sx_nil ?_
    refine ex_then_n ?_
    refine sx_else (!t_20) (by rfl) (show (!t_20) = false from by rw [hc_21]; rfl) ?_
    refine wp_skip ?_
    refine ex_then_n ?_
    refine wp_seq ?_
    refine sx_region ?_
    refine sx_rd 2 (.bool true) (by rfl) (by kernel_rfl) ?_
    refine sx_nil ?_
    refine ex_then_n ?_
    refine wp_ret ?_
    refine sx_end (.bool true) (res1 2 (by rfl)) ?_
    obtain rfl := Option.some.inj h
    exact ⟨rfl, hc2 _ (hp.tail.tail.tail)⟩
end
section
open Go.RowKit Go.Proofs.YtbkaedmabdgdhaaW.PrintWords Go.Proofs.YtbkaedmabdgdhaaW.PrintLast Go.Proofs.YtbkaedmabdgdhaaW.PrintMore
attribute [local go_sem] max2_int min2_int max_two min_two max_three min_three max_four min_four   -- for this text's walks alone
set_option linter.unusedVariables false
set_option linter.unusedSimpArgs false

end
section
open Go.RowKit Go.Proofs.YtbkaedmabdgdhaaW.PrintWords Go.Proofs.YtbkaedmabdgdhaaW.PrintLast Go.Proofs.YtbkaedmabdgdhaaW.PrintMore
attribute [local go_sem] max2_int min2_int max_two min_two max_three min_three max_four min_four   -- for this text's walks alone
set_option linter.unusedVariables false
set_option linter.unusedSimpArgs false

end
end Go.Proofs.Ytbkaedmabdgdhaa.Hd
