-- Printed by hprint.py and laid together by pack.py (this session's programs over the kit's print program). Lean checks it.
import Derived.Test.YtokkiiepddhkiaaDoorMSx5
import Derived.Test.YtokkiiepddhkiaaDoorMSxL
import Derived.Test.YtokkiiepddhkiaaDoorG0
import Derived.Test.YtokkiiepddhkiaaDoorG1
import Derived.Test.YtokkiiepddhkiaaDoorMApF
import Derived.Test.YtokkiiepddhkiaaDoorMAptF
namespace Go.Proofs.YtokkiiepddhkiaaDoor.Hd
section
open Go.RowKit Go.Proofs.YtokkiiepddhkiaaDoorW.PrintWords Go.Proofs.YtokkiiepddhkiaaDoorW.PrintLast Go.Proofs.YtokkiiepddhkiaaDoorW.PrintMore
attribute [local go_sem] max2_int min2_int max_two min_two max_three min_three max_four min_four   -- for this text's walks alone
set_option linter.unusedVariables false
set_option linter.unusedSimpArgs false

def laws_FnExactFirstApart.f (k : Nat) (a0 : ByteArray) (l1 : List (S_LTile)) : Option (Bool) := if (a0.size : Int) > 1048576 then (some true) else ((laws_szTileS.f l1 1048576).bind fun t255 => (if t255 < 0 then (some true) else ((laws_toTileS.f k l1).bind fun t256 => ((spec_FirstApart.f a0 t256).bind fun bt259 => ((laws_toTileS.f k l1).bind fun t261 => ((impl_FirstApart.f a0 t261).bind fun bt264 => (if bt264.1.toList = bt259.1.toList then (if (bt264.2 != bt259.2) = true then (none) else ((laws_toTileS.f k l1).bind fun t266 => ((laws_eqTileS.f k t261 t266).bind fun t269 => (if t269 = true then (some true) else (none))))) else (none))))))))
set_option maxRecDepth 100000 in
set_option maxHeartbeats 40000000 in
theorem laws_FnExactFirstApart.calls (k : Nat) (a0 : ByteArray) (A1 : Option Addr) (c1 : Nat) (l1 : List (S_LTile)) (r : Bool) (w : World) (hr1 : Kd.C k56 w A1 l1.length l1) (hc1 : l1.length ≤ c1) (hmx : ∃ m, w.cell? ⟨0, 0, none⟩ = some (.int .i64 m)) (h : laws_FnExactFirstApart.f k a0 l1 = some r) :
    Calls Tryd.prog 5 #[.string a0, .slice A1 l1.length c1] w fun e w' => e = .returned (.bool r) ∧ Below w.heap.size w w' := by
  obtain ⟨cs, hcs⟩ : ∃ cs, cs = [old w w.heap.size] := ⟨_, rfl⟩
  have hp : Hp w cs w := by rw [hcs]; exact Hp.old_start w
  have hc2 : ∀ W, Hp w cs W → Below w.heap.size w W := fun W h => by rw [hcs] at h; exact h.since 0 _ rfl
  have hC1 : ∀ W, Hp w cs W → Kd.C k56 W A1 l1.length l1 := fun W h => Kd.C_below hr1 (hc2 W h)
  have hM : ∀ W, Hp w cs W → ∃ m, W.cell? ⟨0, 0, none⟩ = some (.int .i64 m) := fun W h => hmx.imp fun m q => ((hc2 W h).cell (World.block_lt_of_cell? _ _ q)).trans q
  clear hcs
  unfold laws_FnExactFirstApart.f at h
  refine sx_enter (N := 47) (l := [.string a0, .slice A1 l1.length c1]) Tryd.func5 rfl rfl rfl ?_
  refine wp_seq ?_
  refine sx_region ?_
  refine sx_rd 4 (.bool false) (by rfl) (by kernel_rfl) ?_
  refine sx_nil ?_
  refine ex_then_n ?_
  refine wp_seq ?_
  refine wp_seq ?_
  refine sx_region ?_
  refine sx_rd 11 (.string a0) (by rfl) (by kernel_rfl) ?_
  refine sx_rd 12 (.int .i64 (a0.size : Int)) (by rfl) (by kernel_rfl) ?_
  refine sx_rd 13 (.bool (decide ((a0.size : Int) > 1048576))) (by rfl) (by kernel_rfl) ?_
  refine sx_nil ?_
  refine ex_then_n ?_
  by_cases hc_1 : (a0.size : Int) > 1048576
  ·
    rw [if_pos hc_1] at h
    refine sx_then (decide ((a0.size : Int) > 1048576)) (by rfl) (decide_eq_true hc_1) ?_
    refine wp_seq ?_
    refine sx_region ?_
    refine sx_rd 4 (.bool true) (by rfl) (by kernel_rfl) ?_
    refine sx_nil ?_
    refine ex_then_n ?_
    refine wp_ret ?_
    refine ex_then_r ?_
    refine sx_end (.bool true) (res1 4 (by rfl)) ?_
    obtain rfl := Option.some.inj h
    exact ⟨rfl, hc2 _ (hp)⟩
  ·
    rw [if_neg hc_1] at h
    obtain ⟨t_3, hv_2, h⟩ := Option.bind_eq_some_iff.mp h
    try dsimp only at h
    refine sx_else (decide ((a0.size : Int) > 1048576)) (by rfl) (decide_eq_false hc_1) ?_
    refine wp_skip ?_
    refine ex_then_n ?_
    refine wp_seq ?_
    refine sx_region ?_
    refine sx_rd 5 (.int .i64 1048576) (by rfl) (by kernel_rfl) ?_
    refine sx_nil ?_
    refine ex_then_n ?_
    refine wp_seq ?_
    refine sx_region ?_
    refine sx_rd 14 (.slice A1 l1.length c1) (by rfl) (by kernel_rfl) ?_
    refine sx_rd 15 (.int .i64 1048576) (by rfl) (by kernel_rfl) ?_
    refine sx_call 16 (by rfl) (by kernel_rfl) ((laws_szTileS.calls A1 c1 l1 1048576 _ _ (hC1 _ hp) hc1 hv_2).mono ?_)
    rintro _ W_4 ⟨rfl, hb⟩
    refine ⟨_, rfl, ?_⟩
    replace hp := hp.below hb.below
    clear hb
    refine sx_rd 5 (.int .i64 t_3) (by rfl) (by kernel_rfl) ?_
    refine sx_nil ?_
    refine ex_then_n ?_
    refine wp_seq ?_
    refine wp_seq ?_
    refine sx_region ?_
    refine sx_rd 17 (.int .i64 t_3) (by rfl) (by kernel_rfl) ?_
    refine sx_rd 18 (.bool (decide (t_3 < 0))) (by rfl) (by kernel_rfl) ?_
    refine sx_nil ?_
    refine ex_then_n ?_
    by_cases hc_5 : t_3 < 0
    ·
      rw [if_pos hc_5] at h
      refine sx_then (decide (t_3 < 0)) (by rfl) (decide_eq_true hc_5) ?_
      refine wp_seq ?_
      refine sx_region ?_
      refine sx_rd 4 (.bool true) (by rfl) (by kernel_rfl) ?_
      refine sx_nil ?_
      refine ex_then_n ?_
      refine wp_ret ?_
      refine ex_then_r ?_
      refine sx_end (.bool true) (res1 4 (by rfl)) ?_
      obtain rfl := Option.some.inj h
      exact ⟨rfl, hc2 _ (hp)⟩
    ·
      rw [if_neg hc_5] at h
      obtain ⟨t_7, hv_6, h⟩ := Option.bind_eq_some_iff.mp h
      try dsimp only at h
      obtain ⟨⟨t_9, t_10⟩, hv_8, h⟩ := Option.bind_eq_some_iff.mp h
      try dsimp only at h
      obtain ⟨t_12, hv_11, h⟩ := Option.bind_eq_some_iff.mp h
      try dsimp only at h
      obtain ⟨⟨t_14, t_15⟩, hv_13, h⟩ := Option.bind_eq_some_iff.mp h
      try dsimp only at h
      by_cases hc_16 : t_14.toList = t_9.toList
      case neg => rw [if_neg hc_16] at h; cases h
      rw [if_pos hc_16] at h
      by_cases hc_17 : (t_15 != t_10) = true
      case pos => rw [if_pos hc_17] at h; cases h
      rw [if_neg hc_17] at h
      obtain ⟨t_19, hv_18, h⟩ := Option.bind_eq_some_iff.mp h
      try dsimp only at h
      obtain ⟨t_21, hv_20, h⟩ := Option.bind_eq_some_iff.mp h
      try dsimp only at h
      by_cases hc_22 : t_21 = true
      case neg => rw [if_neg hc_22] at h; cases h
      rw [if_pos hc_22] at h
      refine sx_else (decide (t_3 < 0)) (by rfl) (decide_eq_false hc_5) ?_
      refine wp_skip ?_
      refine ex_then_n ?_
      refine wp_seq ?_
      refine sx_region ?_
      refine sx_rd 20 (.string a0) (by rfl) (by kernel_rfl) ?_
      refine sx_rd 21 (.slice A1 l1.length c1) (by rfl) (by kernel_rfl) ?_
      refine sx_call 22 (by rfl) (by kernel_rfl) ((laws_toTileS.calls _ A1 c1 l1 _ _ (hC1 _ hp) hc1 hv_6).mono ?_)
      rintro _ W_28 ⟨v_24, rfl, hR_23, hb⟩
      refine ⟨_, rfl, ?_⟩
      obtain ⟨A_25, c_26, rfl, hcc_c_26, _⟩ := Kd.R_reads hR_23
      obtain ⟨F_27, hp⟩ : ∃ F, Hp w (row k54 54 w.heap.size (.slice A_25 t_7.length c_26) t_7 F :: cs) _ := ⟨_, Hp.made hp hb hR_23⟩
      refine sx_call 23 (by rfl) (by kernel_rfl) ((spec_FirstApart.calls a0 A_25 c_26 t_7 _ _ _ (row_C (hp.at_ 0 _ (by rfl))) (row_len (hp.at_ 0 _ (by rfl))).2 (hM _ (hp.tail)) hv_8).mono ?_)
      rintro _ W_29 ⟨rfl, hb⟩
      refine ⟨_, rfl, ?_⟩
      replace hp := hp.below hb
      clear hb
      refine sx_rd 19 (.tuple #[.string t_9, .bool t_10]) (by rfl) (by kernel_rfl) ?_
      refine sx_rd 24 (.string t_9) (by rfl) (by kernel_rfl) ?_
      refine sx_rd 25 (.bool t_10) (by rfl) (by kernel_rfl) ?_
      refine sx_rd 6 (.string t_9) (by rfl) (by kernel_rfl) ?_
      refine sx_rd 7 (.bool t_10) (by rfl) (by kernel_rfl) ?_
      refine sx_nil ?_
      refine ex_then_n ?_
      refine wp_seq ?_
      refine sx_region ?_
      refine sx_rd 26 (.slice A1 l1.length c1) (by rfl) (by kernel_rfl) ?_
      refine sx_call 27 (by rfl) (by kernel_rfl) ((laws_toTileS.calls _ A1 c1 l1 _ _ (hC1 _ hp.tail) hc1 hv_11).mono ?_)
      rintro _ W_35 ⟨v_31, rfl, hR_30, hb⟩
      refine ⟨_, rfl, ?_⟩
      obtain ⟨A_32, c_33, rfl, hcc_c_33, _⟩ := Kd.R_reads hR_30
      obtain ⟨F_34, hp⟩ : ∃ F, Hp w (row k54 54 w.heap.size (.slice A_32 t_12.length c_33) t_12 F :: row k54 54 w.heap.size (.slice A_25 t_7.length c_26) t_7 F_27 :: cs) _ := ⟨_, Hp.made hp hb hR_30⟩
      refine sx_rd 8 (.slice A_32 t_12.length c_33) (by rfl) (by kernel_rfl) ?_
      refine sx_nil ?_
      refine ex_then_n ?_
      refine wp_seq ?_
      refine sx_region ?_
      refine sx_rd 29 (.string a0) (by rfl) (by kernel_rfl) ?_
      refine sx_rd 30 (.slice A_32 t_12.length c_33) (by rfl) (by kernel_rfl) ?_
      refine sx_call 31 (by rfl) (by kernel_rfl) ((impl_FirstApart.calls a0 A_32 c_33 t_12 _ _ _ (row_C (hp.at_ 0 _ (by rfl))) (row_len (hp.at_ 0 _ (by rfl))).2 (hM _ (hp.tail.tail)) hv_13).mono ?_)
      rintro _ W_36 ⟨rfl, hb⟩
      refine ⟨_, rfl, ?_⟩
      replace hp := hp.below hb
      clear hb
      refine sx_rd 28 (.tuple #[.string t_14, .bool t_15]) (by rfl) (by kernel_rfl) ?_
      refine sx_rd 32 (.string t_14) (by rfl) (by kernel_rfl) ?_
      refine sx_rd 33 (.bool t_15) (by rfl) (by kernel_rfl) ?_
      refine sx_rd 9 (.string t_14) (by rfl) (by kernel_rfl) ?_
      refine sx_rd 10 (.bool t_15) (by rfl) (by kernel_rfl) ?_
      refine sx_nil ?_
      refine ex_then_n ?_
      refine wp_seq ?_
      refine wp_seq ?_
      refine sx_region ?_
      refine sx_rd 34 (.string t_14) (by rfl) (by kernel_rfl) ?_
      refine sx_rd 35 (.string t_9) (by rfl) (by kernel_rfl) ?_
      refine sx_rd 36 (.bool false) (by rfl) (bv (bne_eq_false_iff_eq.mpr hc_16) (by kernel_rfl)) ?_
      refine sx_rd 37 (.bool false) (by rfl) (by kernel_rfl) ?_
      refine sx_want (by rfl) ?_
      refine sx_rd 38 (.bool t_15) (by rfl) (by kernel_rfl) ?_
      refine sx_want (by rfl) ?_
      refine sx_rd 39 (.bool t_10) (by rfl) (by kernel_rfl) ?_
      refine sx_want (by rfl) ?_
      refine sx_rd 40 (.bool (t_15 != t_10)) (by rfl) (by kernel_rfl) ?_
      refine sx_rd 41 (.bool (t_15 != t_10)) (by rfl) (by kernel_rfl) ?_
      refine sx_nil ?_
      refine ex_then_n ?_
      refine sx_else (t_15 != t_10) (by rfl) (Bool.eq_false_iff.mpr hc_17) ?_
      refine wp_skip ?_
      refine ex_then_n ?_
      refine wp_seq ?_
      refine wp_seq ?_
      refine sx_region ?_
      refine sx_rd 42 (.slice A_32 t_12.length c_33) (by rfl) (by kernel_rfl) ?_
      refine sx_rd 43 (.slice A1 l1.length c1) (by rfl) (by kernel_rfl) ?_
      refine sx_call 44 (by rfl) (by kernel_rfl) ((laws_toTileS.calls _ A1 c1 l1 _ _ (hC1 _ hp.tail.tail) hc1 hv_18).mono ?_)
      rintro _ W_42 ⟨v_38, rfl, hR_37, hb⟩
      refine ⟨_, rfl, ?_⟩
      obtain ⟨A_39, c_40, rfl, hcc_c_40, _⟩ := Kd.R_reads hR_37
      obtain ⟨F_41, hp⟩ : ∃ F, Hp w (row k54 54 w.heap.size (.slice A_39 t_19.length c_40) t_19 F :: row k54 54 w.heap.size (.slice A_32 t_12.length c_33) t_12 F_34 :: row k54 54 w.heap.size (.slice A_25 t_7.length c_26) t_7 F_27 :: cs) _ := ⟨_, Hp.made hp hb hR_37⟩
      refine sx_call 45 (by rfl) (by kernel_rfl) ((laws_eqTileS.calls _ A_32 c_33 t_12 A_39 c_40 t_19 _ _ (row_C (hp.at_ 1 _ (by rfl))) (row_len (hp.at_ 1 _ (by rfl))).2 (row_C (hp.at_ 0 _ (by rfl))) (row_len (hp.at_ 0 _ (by rfl))).2 hv_20).mono ?_)
      rintro _ W_43 ⟨rfl, hb⟩
      refine ⟨_, rfl, ?_⟩
      replace hp := hp.below hb
      clear hb
      refine sx_rd 46 (.bool (!t_21)) (by rfl) (by kernel_rfl) ?_
      refine sx_nil ?_
      refine ex_then_n ?_
      refine sx_else (!t_21) (by rfl) (show (!t_21) = false from by rw [hc_22]; rfl) ?_
      refine wp_skip ?_
      refine ex_then_n ?_
      refine wp_seq ?_
      refine sx_region ?_
      refine sx_rd 4 (.bool true) (by rfl) (by kernel_rfl) ?_
      refine sx_nil ?_
      refine ex_then_n ?_
      refine wp_ret ?_
      refine sx_end (.bool true) (res1 4 (by rfl)) ?_
      obtain rfl := Option.some.inj h
      exact ⟨rfl, hc2 _ (hp.tail.tail.tail)⟩
end
end Go.Proofs.YtokkiiepddhkiaaDoor.Hd
