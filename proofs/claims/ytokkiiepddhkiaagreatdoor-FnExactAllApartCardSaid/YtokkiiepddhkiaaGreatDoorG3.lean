-- Printed by hprint.py and laid together by pack.py (this session's programs over the kit's print program). Lean checks it.
import Derived.Test.YtokkiiepddhkiaaGreatDoorMSx5
import Derived.Test.YtokkiiepddhkiaaGreatDoorMSxL
import Derived.Test.YtokkiiepddhkiaaGreatDoorG0
import Derived.Test.YtokkiiepddhkiaaGreatDoorG1
import Derived.Test.YtokkiiepddhkiaaGreatDoorMApL
import Derived.Test.YtokkiiepddhkiaaGreatDoorMAptL
namespace Go.Proofs.YtokkiiepddhkiaaGreatDoor.Hd
section
open Go.RowKit Go.Proofs.YtokkiiepddhkiaaGreatDoorW.PrintWords Go.Proofs.YtokkiiepddhkiaaGreatDoorW.PrintLast Go.Proofs.YtokkiiepddhkiaaGreatDoorW.PrintMore
attribute [local go_sem] max2_int min2_int max_two min_two max_three min_three max_four min_four   -- for this text's walks alone
set_option linter.unusedVariables false
set_option linter.unusedSimpArgs false

def laws_FnExactAllApart.f (k : Nat) (a0 : ByteArray) (l1 : List (S_LTile)) : Option (Bool) := if (a0.size : Int) > 1048576 then (some true) else ((laws_szTileS.f l1 1048576).bind fun t216 => (if t216 < 0 then (some true) else ((laws_toTileS.f k l1).bind fun t217 => ((spec_AllApart.f a0 t217).bind fun bt220 => ((laws_toTileS.f k l1).bind fun t224 => ((impl_AllApart.f a0 t224).bind fun bt227 => ((laws_eqStringS.f k bt227.1 bt220.1).bind fun t231 => (if t231 = true then (if (bt227.2 != bt220.2) = true then (none) else ((laws_toTileS.f k l1).bind fun t232 => ((laws_eqTileS.f k t224 t232).bind fun t235 => (if t235 = true then ((laws_markTileS.f k t224 1).bind fun bt236 => (if bt236.1 < 0 then (none) else ((laws_eqStringS.f k bt227.1 bt220.1).bind fun t238 => (if t238 = true then ((laws_markStringS.f k bt227.1 1).bind fun bt239 => ((laws_heldStringS.f k bt239.2 1).bind fun t241 => (if t241 < 0 then (none) else (if t241 = bt239.1 then ((laws_toTileS.f k l1).bind fun t242 => ((impl_AllApart.f a0 t242).bind fun bt245 => ((laws_eqStringS.f k bt245.1 bt220.1).bind fun t249 => (if t249 = true then (if (bt245.2 != bt220.2) = true then (none) else ((laws_heldStringS.f k bt239.2 1).bind fun t250 => (if t250 < 0 then (none) else (if t250 = bt239.1 then (some true) else (none))))) else (none))))) else (none))))) else (none))))) else (none))))) else (none)))))))))
set_option maxRecDepth 100000 in
set_option maxHeartbeats 40000000 in
theorem laws_FnExactAllApart.calls (k : Nat) (a0 : ByteArray) (A1 : Option Addr) (c1 : Nat) (l1 : List (S_LTile)) (r : Bool) (w : World) (hr1 : Kd.C k57 w A1 l1.length l1) (hc1 : l1.length ≤ c1) (hmx : ∃ m, w.cell? ⟨0, 0, none⟩ = some (.int .i64 m)) (h : laws_FnExactAllApart.f k a0 l1 = some r) :
    Calls Tryz.prog 3 #[.string a0, .slice A1 l1.length c1] w fun e w' => e = .returned (.bool r) ∧ Below w.heap.size w w' := by
  obtain ⟨cs, hcs⟩ : ∃ cs, cs = [old w w.heap.size] := ⟨_, rfl⟩
  have hp : Hp w cs w := by rw [hcs]; exact Hp.old_start w
  have hc2 : ∀ W, Hp w cs W → Below w.heap.size w W := fun W h => by rw [hcs] at h; exact h.since 0 _ rfl
  have hC1 : ∀ W, Hp w cs W → Kd.C k57 W A1 l1.length l1 := fun W h => Kd.C_below hr1 (hc2 W h)
  have hM : ∀ W, Hp w cs W → ∃ m, W.cell? ⟨0, 0, none⟩ = some (.int .i64 m) := fun W h => hmx.imp fun m q => ((hc2 W h).cell (World.block_lt_of_cell? _ _ q)).trans q
  clear hcs
  unfold laws_FnExactAllApart.f at h
  refine sx_enter (N := 104) (l := [.string a0, .slice A1 l1.length c1]) Tryz.func3 rfl rfl rfl ?_
  refine wp_seq ?_
  refine sx_region ?_
  refine sx_rd 4 (.bool false) (by rfl) (by kernel_rfl) ?_
  refine sx_nil ?_
  refine ex_then_n ?_
  refine wp_seq ?_
  refine wp_seq ?_
  refine sx_region ?_
  refine sx_rd 16 (.string a0) (by rfl) (by kernel_rfl) ?_
  refine sx_rd 17 (.int .i64 (a0.size : Int)) (by rfl) (by kernel_rfl) ?_
  refine sx_rd 18 (.bool (decide ((a0.size : Int) > 1048576))) (by rfl) (by kernel_rfl) ?_
  refine sx_nil ?_
  refine ex_then_n ?_
  by_cases hc_1 : (a0.size : Int) > 1048576
  ·
    rw [if_pos hc_1] at h
    refine sx_then (decide ((a0.size : Int) > 1048576)) (by rfl) (decide_eq_true hc_1) ?_
    refine wp_seq ?_
    refine sx_region ?_
    refine sx_rd 4 (.bool true) (by rfl) (by kernel_rfl) ?_
    refine sx_nil ?_
    refine ex_then_n ?_
    refine wp_ret ?_
    refine ex_then_r ?_
    refine sx_end (.bool true) (res1 4 (by rfl)) ?_
    obtain rfl := Option.some.inj h
    exact ⟨rfl, hc2 _ (hp)⟩
  ·
    rw [if_neg hc_1] at h
    obtain ⟨t_3, hv_2, h⟩ := Option.bind_eq_some_iff.mp h
    try dsimp only at h
    refine sx_else (decide ((a0.size : Int) > 1048576)) (by rfl) (decide_eq_false hc_1) ?_
    refine wp_skip ?_
    refine ex_then_n ?_
    refine wp_seq ?_
    refine sx_region ?_
    refine sx_rd 5 (.int .i64 1048576) (by rfl) (by kernel_rfl) ?_
    refine sx_nil ?_
    refine ex_then_n ?_
    refine wp_seq ?_
    refine sx_region ?_
    refine sx_rd 19 (.slice A1 l1.length c1) (by rfl) (by kernel_rfl) ?_
    refine sx_rd 20 (.int .i64 1048576) (by rfl) (by kernel_rfl) ?_
    refine sx_call 21 (by rfl) (by kernel_rfl) ((laws_szTileS.calls A1 c1 l1 1048576 _ _ (hC1 _ hp) hc1 hv_2).mono ?_)
    rintro _ W_4 ⟨rfl, hb⟩
    refine ⟨_, rfl, ?_⟩
    replace hp := hp.below hb.below
    clear hb
    refine sx_rd 5 (.int .i64 t_3) (by rfl) (by kernel_rfl) ?_
    refine sx_nil ?_
    refine ex_then_n ?_
    refine wp_seq ?_
    refine wp_seq ?_
    refine sx_region ?_
    refine sx_rd 22 (.int .i64 t_3) (by rfl) (by kernel_rfl) ?_
    refine sx_rd 23 (.bool (decide (t_3 < 0))) (by rfl) (by kernel_rfl) ?_
    refine sx_nil ?_
    refine ex_then_n ?_
    by_cases hc_5 : t_3 < 0
    ·
      rw [if_pos hc_5] at h
      refine sx_then (decide (t_3 < 0)) (by rfl) (decide_eq_true hc_5) ?_
      refine wp_seq ?_
      refine sx_region ?_
      refine sx_rd 4 (.bool true) (by rfl) (by kernel_rfl) ?_
      refine sx_nil ?_
      refine ex_then_n ?_
      refine wp_ret ?_
      refine ex_then_r ?_
      refine sx_end (.bool true) (res1 4 (by rfl)) ?_
      obtain rfl := Option.some.inj h
      exact ⟨rfl, hc2 _ (hp)⟩
    ·
      rw [if_neg hc_5] at h
      obtain ⟨t_7, hv_6, h⟩ := Option.bind_eq_some_iff.mp h
      try dsimp only at h
      obtain ⟨⟨t_9, t_10⟩, hv_8, h⟩ := Option.bind_eq_some_iff.mp h
      try dsimp only at h
      obtain ⟨t_12, hv_11, h⟩ := Option.bind_eq_some_iff.mp h
      try dsimp only at h
      obtain ⟨⟨t_14, t_15⟩, hv_13, h⟩ := Option.bind_eq_some_iff.mp h
      try dsimp only at h
      obtain ⟨t_17, hv_16, h⟩ := Option.bind_eq_some_iff.mp h
      try dsimp only at h
      by_cases hc_18 : t_17 = true
      case neg => rw [if_neg hc_18] at h; cases h
      rw [if_pos hc_18] at h
      by_cases hc_19 : (t_15 != t_10) = true
      case pos => rw [if_pos hc_19] at h; cases h
      rw [if_neg hc_19] at h
      obtain ⟨t_21, hv_20, h⟩ := Option.bind_eq_some_iff.mp h
      try dsimp only at h
      obtain ⟨t_23, hv_22, h⟩ := Option.bind_eq_some_iff.mp h
      try dsimp only at h
      by_cases hc_24 : t_23 = true
      case neg => rw [if_neg hc_24] at h; cases h
      rw [if_pos hc_24] at h
      obtain ⟨⟨t_26, t_27⟩, hv_25, h⟩ := Option.bind_eq_some_iff.mp h
      try dsimp only at h
      by_cases hc_28 : t_26 < 0
      case pos => rw [if_pos hc_28] at h; cases h
      rw [if_neg hc_28] at h
      obtain ⟨t_30, hv_29, h⟩ := Option.bind_eq_some_iff.mp h
      try dsimp only at h
      by_cases hc_31 : t_30 = true
      case neg => rw [if_neg hc_31] at h; cases h
      rw [if_pos hc_31] at h
      obtain ⟨⟨t_33, t_34⟩, hv_32, h⟩ := Option.bind_eq_some_iff.mp h
      try dsimp only at h
      obtain ⟨t_36, hv_35, h⟩ := Option.bind_eq_some_iff.mp h
      try dsimp only at h
      by_cases hc_37 : t_36 < 0
      case pos => rw [if_pos hc_37] at h; cases h
      rw [if_neg hc_37] at h
      by_cases hc_38 : t_36 = t_33
      case neg => rw [if_neg hc_38] at h; cases h
      rw [if_pos hc_38] at h
      obtain ⟨t_40, hv_39, h⟩ := Option.bind_eq_some_iff.mp h
      try dsimp only at h
      obtain ⟨⟨t_42, t_43⟩, hv_41, h⟩ := Option.bind_eq_some_iff.mp h
      try dsimp only at h
      obtain ⟨t_45, hv_44, h⟩ := Option.bind_eq_some_iff.mp h
      try dsimp only at h
      by_cases hc_46 : t_45 = true
      case neg => rw [if_neg hc_46] at h; cases h
      rw [if_pos hc_46] at h
      by_cases hc_47 : (t_43 != t_10) = true
      case pos => rw [if_pos hc_47] at h; cases h
      rw [if_neg hc_47] at h
      obtain ⟨t_49, hv_48, h⟩ := Option.bind_eq_some_iff.mp h
      try dsimp only at h
      by_cases hc_50 : t_49 < 0
      case pos => rw [if_pos hc_50] at h; cases h
      rw [if_neg hc_50] at h
      by_cases hc_51 : t_49 = t_33
      case neg => rw [if_neg hc_51] at h; cases h
      rw [if_pos hc_51] at h
      refine sx_else (decide (t_3 < 0)) (by rfl) (decide_eq_false hc_5) ?_
      refine wp_skip ?_
      refine ex_then_n ?_
      refine wp_seq ?_
      refine sx_region ?_
      refine sx_rd 25 (.string a0) (by rfl) (by kernel_rfl) ?_
      refine sx_rd 26 (.slice A1 l1.length c1) (by rfl) (by kernel_rfl) ?_
      refine sx_call 27 (by rfl) (by kernel_rfl) ((laws_toTileS.calls _ A1 c1 l1 _ _ (hC1 _ hp) hc1 hv_6).mono ?_)
      rintro _ W_57 ⟨v_53, rfl, hR_52, hb⟩
      refine ⟨_, rfl, ?_⟩
      obtain ⟨A_54, c_55, rfl, hcc_c_55, _⟩ := Kd.R_reads hR_52
      obtain ⟨F_56, hp⟩ : ∃ F, Hp w (row k55 55 w.heap.size (.slice A_54 t_7.length c_55) t_7 F :: cs) _ := ⟨_, Hp.made hp hb hR_52⟩
      refine sx_call 28 (by rfl) (by kernel_rfl) ((spec_AllApart.calls a0 A_54 c_55 t_7 _ _ _ (row_C (hp.at_ 0 _ (by rfl))) (row_len (hp.at_ 0 _ (by rfl))).2 (hM _ (hp.tail)) hv_8).mono ?_)
      rintro _ W_63 ⟨v_59, rfl, hR_58, hb⟩
      refine ⟨_, rfl, ?_⟩
      obtain ⟨A_60, c_61, rfl, hcc_c_61, _⟩ := Kd.R_reads hR_58
      obtain ⟨F_62, hp⟩ : ∃ F, Hp w (row Kd.string 9 w.heap.size (.slice A_60 t_9.length c_61) t_9 F :: row k55 55 w.heap.size (.slice A_54 t_7.length c_55) t_7 F_56 :: cs) _ := ⟨_, Hp.made hp hb hR_58⟩
      refine sx_rd 24 (.tuple #[.slice A_60 t_9.length c_61, .bool t_10]) (by rfl) (by kernel_rfl) ?_
      refine sx_rd 29 (.slice A_60 t_9.length c_61) (by rfl) (by kernel_rfl) ?_
      refine sx_rd 30 (.bool t_10) (by rfl) (by kernel_rfl) ?_
      refine sx_rd 6 (.slice A_60 t_9.length c_61) (by rfl) (by kernel_rfl) ?_
      refine sx_rd 7 (.bool t_10) (by rfl) (by kernel_rfl) ?_
      refine sx_nil ?_
      refine ex_then_n ?_
      refine wp_seq ?_
      refine sx_region ?_
      refine sx_rd 31 (.slice A1 l1.length c1) (by rfl) (by kernel_rfl) ?_
      refine sx_call 32 (by rfl) (by kernel_rfl) ((laws_toTileS.calls _ A1 c1 l1 _ _ (hC1 _ hp.tail.tail) hc1 hv_11).mono ?_)
      rintro _ W_69 ⟨v_65, rfl, hR_64, hb⟩
      refine ⟨_, rfl, ?_⟩
      obtain ⟨A_66, c_67, rfl, hcc_c_67, _⟩ := Kd.R_reads hR_64
      obtain ⟨F_68, hp⟩ : ∃ F, Hp w (row k55 55 w.heap.size (.slice A_66 t_12.length c_67) t_12 F :: row Kd.string 9 w.heap.size (.slice A_60 t_9.length c_61) t_9 F_62 :: row k55 55 w.heap.size (.slice A_54 t_7.length c_55) t_7 F_56 :: cs) _ := ⟨_, Hp.made hp hb hR_64⟩
      refine sx_rd 8 (.slice A_66 t_12.length c_67) (by rfl) (by kernel_rfl) ?_
      refine sx_nil ?_
      refine ex_then_n ?_
      refine wp_seq ?_
      refine sx_region ?_
      refine sx_rd 34 (.string a0) (by rfl) (by kernel_rfl) ?_
      refine sx_rd 35 (.slice A_66 t_12.length c_67) (by rfl) (by kernel_rfl) ?_
      refine sx_call 36 (by rfl) (by kernel_rfl) ((impl_AllApart.calls a0 A_66 c_67 t_12 _ _ _ (row_C (hp.at_ 0 _ (by rfl))) (row_len (hp.at_ 0 _ (by rfl))).2 (hM _ (hp.tail.tail.tail)) hv_13).mono ?_)
      rintro _ W_75 ⟨v_71, rfl, hR_70, hb⟩
      refine ⟨_, rfl, ?_⟩
      obtain ⟨A_72, c_73, rfl, hcc_c_73, _⟩ := Kd.R_reads hR_70
      obtain ⟨F_74, hp⟩ : ∃ F, Hp w (row Kd.string 9 w.heap.size (.slice A_72 t_14.length c_73) t_14 F :: row k55 55 w.heap.size (.slice A_66 t_12.length c_67) t_12 F_68 :: row Kd.string 9 w.heap.size (.slice A_60 t_9.length c_61) t_9 F_62 :: row k55 55 w.heap.size (.slice A_54 t_7.length c_55) t_7 F_56 :: cs) _ := ⟨_, Hp.made hp hb hR_70⟩
      refine sx_rd 33 (.tuple #[.slice A_72 t_14.length c_73, .bool t_15]) (by rfl) (by kernel_rfl) ?_
      refine sx_rd 37 (.slice A_72 t_14.length c_73) (by rfl) (by kernel_rfl) ?_
      refine sx_rd 38 (.bool t_15) (by rfl) (by kernel_rfl) ?_
      refine sx_rd 9 (.slice A_72 t_14.length c_73) (by rfl) (by kernel_rfl) ?_
      refine sx_rd 10 (.bool t_15) (by rfl) (by kernel_rfl) ?_
      refine sx_nil ?_
      refine ex_then_n ?_
      refine wp_seq ?_
      refine wp_seq ?_
      refine sx_region ?_
      refine sx_rd 39 (.slice A_72 t_14.length c_73) (by rfl) (by kernel_rfl) ?_
      refine sx_rd 40 (.slice A_60 t_9.length c_61) (by rfl) (by kernel_rfl) ?_
      refine sx_call 41 (by rfl) (by kernel_rfl) ((laws_eqStringS.calls _ A_72 c_73 t_14 A_60 c_61 t_9 _ _ (row_C (hp.at_ 0 _ (by rfl))) (row_len (hp.at_ 0 _ (by rfl))).2 (row_C (hp.at_ 2 _ (by rfl))) (row_len (hp.at_ 2 _ (by rfl))).2 hv_16).mono ?_)
      rintro _ W_76 ⟨rfl, hb⟩
      refine ⟨_, rfl, ?_⟩
      replace hp := hp.below hb.below
      clear hb
      refine sx_rd 42 (.bool false) (by rfl) (bv (show (!t_17) = false from by rw [hc_18]; rfl) (by kernel_rfl)) ?_
      refine sx_rd 43 (.bool false) (by rfl) (by kernel_rfl) ?_
      refine sx_want (by rfl) ?_
      refine sx_rd 44 (.bool t_15) (by rfl) (by kernel_rfl) ?_
      refine sx_want (by rfl) ?_
      refine sx_rd 45 (.bool t_10) (by rfl) (by kernel_rfl) ?_
      refine sx_want (by rfl) ?_
      refine sx_rd 46 (.bool (t_15 != t_10)) (by rfl) (by kernel_rfl) ?_
      refine sx_rd 47 (.bool (t_15 != t_10)) (by rfl) (by kernel_rfl) ?_
      refine sx_nil ?_
      refine ex_then_n ?_
      refine sx_else (t_15 != t_10) (by rfl) (Bool.eq_false_iff.mpr hc_19) ?_
      refine wp_skip ?_
      refine ex_then_n ?_
      refine wp_seq ?_
      refine wp_seq ?_
      refine sx_region ?_
      refine sx_rd 48 (.slice A_66 t_12.length c_67) (by rfl) (by kernel_rfl) ?_
      refine sx_rd 49 (.slice A1 l1.length c1) (by rfl) (by kernel_rfl) ?_
      refine sx_call 50 (by rfl) (by kernel_rfl) ((laws_toTileS.calls _ A1 c1 l1 _ _ (hC1 _ hp.tail.tail.tail.tail) hc1 hv_20).mono ?_)
      rintro _ W_82 ⟨v_78, rfl, hR_77, hb⟩
      refine ⟨_, rfl, ?_⟩
      obtain ⟨A_79, c_80, rfl, hcc_c_80, _⟩ := Kd.R_reads hR_77
      obtain ⟨F_81, hp⟩ : ∃ F, Hp w (row k55 55 w.heap.size (.slice A_79 t_21.length c_80) t_21 F :: row Kd.string 9 w.heap.size (.slice A_72 t_14.length c_73) t_14 F_74 :: row k55 55 w.heap.size (.slice A_66 t_12.length c_67) t_12 F_68 :: row Kd.string 9 w.heap.size (.slice A_60 t_9.length c_61) t_9 F_62 :: row k55 55 w.heap.size (.slice A_54 t_7.length c_55) t_7 F_56 :: cs) _ := ⟨_, Hp.made hp hb hR_77⟩
      refine sx_call 51 (by rfl) (by kernel_rfl) ((laws_eqTileS.calls _ A_66 c_67 t_12 A_79 c_80 t_21 _ _ (row_C (hp.at_ 2 _ (by rfl))) (row_len (hp.at_ 2 _ (by rfl))).2 (row_C (hp.at_ 0 _ (by rfl))) (row_len (hp.at_ 0 _ (by rfl))).2 hv_22).mono ?_)
      rintro _ W_83 ⟨rfl, hb⟩
      refine ⟨_, rfl, ?_⟩
      replace hp := hp.below hb
      clear hb
      refine sx_rd 52 (.bool (!t_23)) (by rfl) (by kernel_rfl) ?_
      refine sx_nil ?_
      refine ex_then_n ?_
      refine sx_else (!t_23) (by rfl) (show (!t_23) = false from by rw [hc_24]; rfl) ?_
      refine wp_skip ?_
      refine ex_then_n ?_
      refine wp_seq ?_
      refine sx_region ?_
      refine sx_rd 11 (.int .i64 1) (by rfl) (by kernel_rfl) ?_
      refine sx_nil ?_
      refine ex_then_n ?_
      refine wp_seq ?_
      refine sx_region ?_
      refine sx_rd 53 (.slice A_66 t_12.length c_67) (by rfl) (by kernel_rfl) ?_
      refine sx_rd 54 (.int .i64 1) (by rfl) (by kernel_rfl) ?_
      refine sx_call 55 (by rfl) (by kernel_rfl) ((laws_markTileS.calls _ F_68 (.slice A_66 t_12.length c_67) t_12 1 _ _ w _ (hc2 _ (hp.tail.tail.tail.tail.tail)) (row_R (hp.at_ 2 _ (by rfl))) hv_25).mono ?_)
      rintro _ W_88 ⟨rfl, hR_84, hB_85, hK_86⟩
      refine ⟨_, rfl, ?_⟩
      have hp := (hp.take [2, 0, 1, 3, 4] 5 (by decide) (by simp))
      obtain ⟨F_87, hp⟩ : ∃ F_87, Hp w (row k55 55 w.heap.size (.slice A_66 t_12.length c_67) t_27 F_87 :: row k55 55 w.heap.size (.slice A_79 t_21.length c_80) t_21 F_81 :: row Kd.string 9 w.heap.size (.slice A_72 t_14.length c_73) t_14 F_74 :: row Kd.string 9 w.heap.size (.slice A_60 t_9.length c_61) t_9 F_62 :: row k55 55 w.heap.size (.slice A_54 t_7.length c_55) t_7 F_56 :: cs) _ := ⟨_, Hp.marked1 hp hB_85 hK_86 rfl hR_84⟩
      obtain ⟨hn_89, -⟩ := row_len (hp.at_ 0 _ (by rfl))
      rw [hn_89] at hp
      try rw [hn_89]
      refine sx_rd 11 (.int .i64 t_26) (by rfl) (by kernel_rfl) ?_
      refine sx_nil ?_
      refine ex_then_n ?_
      refine wp_seq ?_
      refine wp_seq ?_
      refine sx_region ?_
      refine sx_rd 56 (.int .i64 t_26) (by rfl) (by kernel_rfl) ?_
      refine sx_rd 57 (.bool false) (by rfl) (bv (decide_eq_false hc_28) (by kernel_rfl)) ?_
      refine sx_rd 58 (.bool false) (by rfl) (by kernel_rfl) ?_
      refine sx_want (by rfl) ?_
      refine sx_rd 59 (.slice A_72 t_14.length c_73) (by rfl) (by kernel_rfl) ?_
      refine sx_want (by rfl) ?_
      refine sx_rd 60 (.slice A_60 t_9.length c_61) (by rfl) (by kernel_rfl) ?_
      refine sx_want (by rfl) ?_
      refine sx_call 61 (by rfl) (by kernel_rfl) ((laws_eqStringS.calls _ A_72 c_73 t_14 A_60 c_61 t_9 _ _ (row_C (hp.at_ 2 _ (by rfl))) (row_len (hp.at_ 2 _ (by rfl))).2 (row_C (hp.at_ 3 _ (by rfl))) (row_len (hp.at_ 3 _ (by rfl))).2 hv_29).mono ?_)
      rintro _ W_90 ⟨rfl, hb⟩
      refine ⟨_, rfl, ?_⟩
      replace hp := hp.below hb.below
      clear hb
      refine sx_want (by rfl) ?_
      refine sx_rd 62 (.bool false) (by rfl) (bv (show (!t_30) = false from by rw [hc_31]; rfl) (by kernel_rfl)) ?_
      refine sx_rd 63 (.bool false) (by rfl) (by kernel_rfl) ?_
      refine sx_rd 64 (.bool false) (by rfl) (by kernel_rfl) ?_
      refine sx_want (by rfl) ?_
      refine sx_rd 65 (.bool t_15) (by rfl) (by kernel_rfl) ?_
      refine sx_want (by rfl) ?_
      refine sx_rd 66 (.bool t_10) (by rfl) (by kernel_rfl) ?_
      refine sx_want (by rfl) ?_
      refine sx_rd 67 (.bool false) (by rfl) (bv (Bool.eq_false_iff.mpr hc_19) (by kernel_rfl)) ?_
      refine sx_rd 68 (.bool false) (by rfl) (by kernel_rfl) ?_
      refine sx_nil ?_
      refine ex_then_n ?_
      refine sx_else false (by rfl) rfl ?_
      refine wp_skip ?_
      refine ex_then_n ?_
      refine wp_seq ?_
      refine sx_region ?_
      refine sx_rd 12 (.int .i64 1) (by rfl) (by kernel_rfl) ?_
      refine sx_nil ?_
      refine ex_then_n ?_
      refine wp_seq ?_
      refine sx_region ?_
      refine sx_rd 69 (.slice A_72 t_14.length c_73) (by rfl) (by kernel_rfl) ?_
      refine sx_rd 70 (.int .i64 1) (by rfl) (by kernel_rfl) ?_
      refine sx_call 71 (by rfl) (by kernel_rfl) ((laws_markStringS.calls _ F_74 (.slice A_72 t_14.length c_73) t_14 1 _ _ w _ (hc2 _ (hp.tail.tail.tail.tail.tail)) (row_R (hp.at_ 2 _ (by rfl))) hv_32).mono ?_)
      rintro _ W_95 ⟨rfl, hR_91, hB_92, hK_93⟩
      refine ⟨_, rfl, ?_⟩
      have hp := (hp.take [2, 0, 1, 3, 4] 5 (by decide) (by simp))
      obtain ⟨F_94, hp⟩ : ∃ F_94, Hp w (row Kd.string 9 w.heap.size (.slice A_72 t_14.length c_73) t_34 F_94 :: row k55 55 w.heap.size (.slice A_66 t_27.length c_67) t_27 F_87 :: row k55 55 w.heap.size (.slice A_79 t_21.length c_80) t_21 F_81 :: row Kd.string 9 w.heap.size (.slice A_60 t_9.length c_61) t_9 F_62 :: row k55 55 w.heap.size (.slice A_54 t_7.length c_55) t_7 F_56 :: cs) _ := ⟨_, Hp.marked1 hp hB_92 hK_93 rfl hR_91⟩
      obtain ⟨hn_96, -⟩ := row_len (hp.at_ 0 _ (by rfl))
      rw [hn_96] at hp
      try rw [hn_96]
      refine sx_rd 12 (.int .i64 t_33) (by rfl) (by kernel_rfl) ?_
      refine sx_nil ?_
      refine ex_then_n ?_
      refine wp_seq ?_
      refine sx_region ?_
      refine sx_rd 13 (.int .i64 1) (by rfl) (by kernel_rfl) ?_
      refine sx_nil ?_
      refine ex_then_n ?_
      refine wp_seq ?_
      refine sx_region ?_
      refine sx_rd 72 (.slice A_72 t_34.length c_73) (by rfl) (by kernel_rfl) ?_
      refine sx_rd 73 (.int .i64 1) (by rfl) (by kernel_rfl) ?_
      refine sx_call 74 (by rfl) (by kernel_rfl) ((laws_heldStringS.calls _ A_72 c_73 t_34 1 _ _ (row_C (hp.at_ 0 _ (by rfl))) (row_len (hp.at_ 0 _ (by rfl))).2 hv_35).mono ?_)
      rintro _ W_97 ⟨rfl, hb⟩
      refine ⟨_, rfl, ?_⟩
      replace hp := hp.below hb
      clear hb
      refine sx_rd 13 (.int .i64 t_36) (by rfl) (by kernel_rfl) ?_
      refine sx_nil ?_
      refine ex_then_n ?_
      refine wp_seq ?_
      refine wp_seq ?_
      refine sx_region ?_
      refine sx_rd 75 (.int .i64 t_36) (by rfl) (by kernel_rfl) ?_
      refine sx_rd 76 (.bool (decide (t_36 < 0))) (by rfl) (by kernel_rfl) ?_
      refine sx_nil ?_
      refine ex_then_n ?_
      refine sx_else (decide (t_36 < 0)) (by rfl) (decide_eq_false hc_37) ?_
      refine wp_skip ?_
      refine ex_then_n ?_
      refine wp_seq ?_
      refine wp_seq ?_
      refine sx_region ?_
      refine sx_rd 77 (.int .i64 t_36) (by rfl) (by kernel_rfl) ?_
      refine sx_rd 78 (.int .i64 t_33) (by rfl) (by kernel_rfl) ?_
      refine sx_rd 79 (.bool (t_36 != t_33)) (by rfl) (by kernel_rfl) ?_
      refine sx_nil ?_
      refine ex_then_n ?_
      refine sx_else (t_36 != t_33) (by rfl) (bne_eq_false_iff_eq.mpr hc_38) ?_
      refine wp_skip ?_
      refine ex_then_n ?_
      refine wp_seq ?_
      refine sx_region ?_
      refine sx_rd 81 (.string a0) (by rfl) (by kernel_rfl) ?_
      refine sx_rd 82 (.slice A1 l1.length c1) (by rfl) (by kernel_rfl) ?_
      refine sx_call 83 (by rfl) (by kernel_rfl) ((laws_toTileS.calls _ A1 c1 l1 _ _ (hC1 _ hp.tail.tail.tail.tail.tail) hc1 hv_39).mono ?_)
      rintro _ W_103 ⟨v_99, rfl, hR_98, hb⟩
      refine ⟨_, rfl, ?_⟩
      obtain ⟨A_100, c_101, rfl, hcc_c_101, _⟩ := Kd.R_reads hR_98
      obtain ⟨F_102, hp⟩ : ∃ F, Hp w (row k55 55 w.heap.size (.slice A_100 t_40.length c_101) t_40 F :: row Kd.string 9 w.heap.size (.slice A_72 t_34.length c_73) t_34 F_94 :: row k55 55 w.heap.size (.slice A_66 t_27.length c_67) t_27 F_87 :: row k55 55 w.heap.size (.slice A_79 t_21.length c_80) t_21 F_81 :: row Kd.string 9 w.heap.size (.slice A_60 t_9.length c_61) t_9 F_62 :: row k55 55 w.heap.size (.slice A_54 t_7.length c_55) t_7 F_56 :: cs) _ := ⟨_, Hp.made hp hb hR_98⟩
      refine sx_call 84 (by rfl) (by kernel_rfl) ((impl_AllApart.calls a0 A_100 c_101 t_40 _ _ _ (row_C (hp.at_ 0 _ (by rfl))) (row_len (hp.at_ 0 _ (by rfl))).2 (hM _ (hp.tail.tail.tail.tail.tail.tail)) hv_41).mono ?_)
      rintro _ W_109 ⟨v_105, rfl, hR_104, hb⟩
      refine ⟨_, rfl, ?_⟩
      obtain ⟨A_106, c_107, rfl, hcc_c_107, _⟩ := Kd.R_reads hR_104
      obtain ⟨F_108, hp⟩ : ∃ F, Hp w (row Kd.string 9 w.heap.size (.slice A_106 t_42.length c_107) t_42 F :: row k55 55 w.heap.size (.slice A_100 t_40.length c_101) t_40 F_102 :: row Kd.string 9 w.heap.size (.slice A_72 t_34.length c_73) t_34 F_94 :: row k55 55 w.heap.size (.slice A_66 t_27.length c_67) t_27 F_87 :: row k55 55 w.heap.size (.slice A_79 t_21.length c_80) t_21 F_81 :: row Kd.string 9 w.heap.size (.slice A_60 t_9.length c_61) t_9 F_62 :: row k55 55 w.heap.size (.slice A_54 t_7.length c_55) t_7 F_56 :: cs) _ := ⟨_, Hp.made hp hb hR_104⟩
      refine sx_rd 80 (.tuple #[.slice A_106 t_42.length c_107, .bool t_43]) (by rfl) (by kernel_rfl) ?_
      refine sx_rd 85 (.slice A_106 t_42.length c_107) (by rfl) (by kernel_rfl) ?_
      refine sx_rd 86 (.bool t_43) (by rfl) (by kernel_rfl) ?_
      refine sx_rd 14 (.slice A_106 t_42.length c_107) (by rfl) (by kernel_rfl) ?_
      refine sx_rd 15 (.bool t_43) (by rfl) (by kernel_rfl) ?_
      refine sx_nil ?_
      refine ex_then_n ?_
      refine wp_seq ?_
      refine wp_seq ?_
      refine sx_region ?_
      refine sx_rd 87 (.slice A_106 t_42.length c_107) (by rfl) (by kernel_rfl) ?_
      refine sx_rd 88 (.slice A_60 t_9.length c_61) (by rfl) (by kernel_rfl) ?_
      refine sx_call 89 (by rfl) (by kernel_rfl) ((laws_eqStringS.calls _ A_106 c_107 t_42 A_60 c_61 t_9 _ _ (row_C (hp.at_ 0 _ (by rfl))) (row_len (hp.at_ 0 _ (by rfl))).2 (row_C (hp.at_ 5 _ (by rfl))) (row_len (hp.at_ 5 _ (by rfl))).2 hv_44).mono ?_)
      rintro _ W_110 ⟨rfl, hb⟩
      refine ⟨_, rfl, ?_⟩
      replace hp := hp.below hb.below
      clear hb
      refine sx_rd 90 (.bool false) (by rfl) (bv (show (!t_45) = false from by rw [hc_46]; rfl) (by kernel_rfl)) ?_
      refine sx_rd 91 (.bool false) (by rfl) (by kernel_rfl) ?_
      refine sx_want (by rfl) ?_
      refine sx_rd 92 (.bool t_43) (by rfl) (by kernel_rfl) ?_
      refine sx_want (by rfl) ?_
      refine sx_rd 93 (.bool t_10) (by rfl) (by kernel_rfl) ?_
      refine sx_want (by rfl) ?_
      refine sx_rd 94 (.bool (t_43 != t_10)) (by rfl) (by kernel_rfl) ?_
      refine sx_rd 95 (.bool (t_43 != t_10)) (by rfl) (by kernel_rfl) ?_
      refine sx_nil ?_
      refine ex_then_n ?_
      refine sx_else (t_43 != t_10) (by rfl) (Bool.eq_false_iff.mpr hc_47) ?_
      refine wp_skip ?_
      refine ex_then_n ?_
      refine wp_seq ?_
      refine sx_region ?_
      refine sx_rd 13 (.int .i64 1) (by rfl) (by kernel_rfl) ?_
      refine sx_nil ?_
      refine ex_then_n ?_
      refine wp_seq ?_
      refine sx_region ?_
      refine sx_rd 96 (.slice A_72 t_34.length c_73) (by rfl) (by kernel_rfl) ?_
      refine sx_rd 97 (.int .i64 1) (by rfl) (by kernel_rfl) ?_
      refine sx_call 98 (by rfl) (by kernel_rfl) ((laws_heldStringS.calls _ A_72 c_73 t_34 1 _ _ (row_C (hp.at_ 2 _ (by rfl))) (row_len (hp.at_ 2 _ (by rfl))).2 hv_48).mono ?_)
      rintro _ W_111 ⟨rfl, hb⟩
      refine ⟨_, rfl, ?_⟩
      replace hp := hp.below hb
      clear hb
      refine sx_rd 13 (.int .i64 t_49) (by rfl) (by kernel_rfl) ?_
      refine sx_nil ?_
      refine ex_then_n ?_
      refine wp_seq ?_
      refine wp_seq ?_
      refine sx_region ?_
      refine sx_rd 99 (.int .i64 t_49) (by rfl) (by kernel_rfl) ?_
      refine sx_rd 100 (.bool (decide (t_49 < 0))) (by rfl) (by kernel_rfl) ?_
      refine sx_nil ?_
      refine ex_then_n ?_
      refine sx_else (decide (t_49 < 0)) (by rfl) (decide_eq_false hc_50) ?_
      refine wp_skip ?_
      refine ex_then_n ?_
      refine wp_seq ?_
      refine wp_seq ?_
      refine sx_region ?_
      refine sx_rd 101 (.int .i64 t_49) (by rfl) (by kernel_rfl) ?_
      refine sx_rd 102 (.int .i64 t_33) (by rfl) (by kernel_rfl) ?_
      refine sx_rd 103 (.bool (t_49 != t_33)) (by rfl) (by kernel_rfl) ?_
      refine sx_nil ?_
      refine ex_then_n ?_
      refine sx_else (t_49 != t_33) (by rfl) (bne_eq_false_iff_eq.mpr hc_51) ?_
      refine wp_skip ?_
      refine ex_then_n ?_
      refine wp_seq ?_
      refine sx_region ?_
      refine sx_rd 4 (.bool true) (by rfl) (by kernel_rfl) ?_
      refine sx_nil ?_
      refine ex_then_n ?_
      refine wp_ret ?_
      refine sx_end (.bool true) (res1 4 (by rfl)) ?_
      obtain rfl := Option.some.inj h
      exact ⟨rfl, hc2 _ (hp.tail.tail.tail.tail.tail.tail.tail)⟩
end
end Go.Proofs.YtokkiiepddhkiaaGreatDoor.Hd
