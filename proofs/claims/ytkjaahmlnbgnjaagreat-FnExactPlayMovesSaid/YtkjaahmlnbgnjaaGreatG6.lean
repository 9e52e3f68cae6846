-- Printed by hprint.py and laid together by pack.py (this session's programs over the kit's print program). Lean checks it.
import Derived.Test.YtkjaahmlnbgnjaaGreatMSx5
import Derived.Test.YtkjaahmlnbgnjaaGreatMSxL
import Derived.Test.YtkjaahmlnbgnjaaGreatG0
import Derived.Test.YtkjaahmlnbgnjaaGreatG2
import Derived.Test.YtkjaahmlnbgnjaaGreatG3
import Derived.Test.YtkjaahmlnbgnjaaGreatMPlayI
import Derived.Test.YtkjaahmlnbgnjaaGreatMPlayS
namespace Go.Proofs.YtkjaahmlnbgnjaaGreat.Hd
section
open Go.RowKit Go.Proofs.YtkjaahmlnbgnjaaGreatW.PrintWords Go.Proofs.YtkjaahmlnbgnjaaGreatW.PrintLast Go.Proofs.YtkjaahmlnbgnjaaGreatW.PrintMore
attribute [local go_sem] max2_int min2_int max_two min_two max_three min_three max_four min_four   -- for this text's walks alone
set_option linter.unusedVariables false
set_option linter.unusedSimpArgs false

def laws_FnExactPlayMoves.f (k : Nat) (l0_0 : List (S_LTile)) (l0_1 : List (S_LTile)) (l0_2 : List Int) (a0_3 : Int) (a0_4 : Int) (l1 : List ByteArray) : Option (Bool) := (laws_szGame.f l0_0 l0_1 l0_2 a0_3 a0_4 1048576).bind fun t626 => (if t626 < 0 then (some true) else ((laws_szStringS.f k l1 t626).bind fun t627 => (if t627 < 0 then (some true) else ((laws_toGame.f k l0_0 l0_1 l0_2 a0_3 a0_4).bind fun bt628 => ((laws_toStringS.f k l1).bind fun t639 => ((spec_PlayMoves.f bt628.1 bt628.2.1 bt628.2.2.1 bt628.2.2.2.1 bt628.2.2.2.2 t639).bind fun bt642 => ((laws_toGame.f k l0_0 l0_1 l0_2 a0_3 a0_4).bind fun bt655 => ((laws_toStringS.f k l1).bind fun t667 => ((impl_PlayMoves.f bt655.1 bt655.2.1 bt655.2.2.1 bt655.2.2.2.1 bt655.2.2.2.2 t667).bind fun bt670 => ((laws_eqGame.f k bt670.1 bt670.2.1 bt670.2.2.1 bt670.2.2.2.1 bt670.2.2.2.2.1 bt642.1 bt642.2.1 bt642.2.2.1 bt642.2.2.2.1 bt642.2.2.2.2.1).bind fun t683 => (if t683 = true then (if (bt670.2.2.2.2.2 != bt642.2.2.2.2.2) = true then (none) else ((laws_toGame.f k l0_0 l0_1 l0_2 a0_3 a0_4).bind fun bt684 => ((laws_eqGame.f k bt655.1 bt655.2.1 bt655.2.2.1 bt655.2.2.2.1 bt655.2.2.2.2 bt684.1 bt684.2.1 bt684.2.2.1 bt684.2.2.2.1 bt684.2.2.2.2).bind fun t695 => (if t695 = true then ((laws_toStringS.f k l1).bind fun t696 => ((laws_eqStringS.f k t667 t696).bind fun t699 => (if t699 = true then ((laws_markGame.f k bt655.1 bt655.2.1 bt655.2.2.1 bt655.2.2.2.1 bt655.2.2.2.2 1).bind fun bt700 => ((laws_markStringS.f k t667 bt700.1).bind fun bt704 => (if bt704.1 < 0 then (none) else ((laws_eqGame.f k bt670.1 bt670.2.1 bt670.2.2.1 bt670.2.2.2.1 bt670.2.2.2.2.1 bt642.1 bt642.2.1 bt642.2.2.1 bt642.2.2.2.1 bt642.2.2.2.2.1).bind fun t706 => (if t706 = true then ((laws_markGame.f k bt670.1 bt670.2.1 bt670.2.2.1 bt670.2.2.2.1 bt670.2.2.2.2.1 1).bind fun bt707 => ((laws_heldGame.f k bt707.2.1 bt707.2.2.1 bt707.2.2.2 bt670.2.2.2.1 bt670.2.2.2.2.1 1).bind fun t711 => (if t711 < 0 then (none) else (if t711 = bt707.1 then ((laws_toGame.f k l0_0 l0_1 l0_2 a0_3 a0_4).bind fun bt712 => ((laws_toStringS.f k l1).bind fun t723 => ((impl_PlayMoves.f bt712.1 bt712.2.1 bt712.2.2.1 bt712.2.2.2.1 bt712.2.2.2.2 t723).bind fun bt726 => ((laws_eqGame.f k bt726.1 bt726.2.1 bt726.2.2.1 bt726.2.2.2.1 bt726.2.2.2.2.1 bt642.1 bt642.2.1 bt642.2.2.1 bt642.2.2.2.1 bt642.2.2.2.2.1).bind fun t739 => (if t739 = true then (if (bt726.2.2.2.2.2 != bt642.2.2.2.2.2) = true then (none) else ((laws_heldGame.f k bt707.2.1 bt707.2.2.1 bt707.2.2.2 bt670.2.2.2.1 bt670.2.2.2.2.1 1).bind fun t740 => (if t740 < 0 then (none) else (if t740 = bt707.1 then (some true) else (none))))) else (none)))))) else (none))))) else (none)))))) else (none)))) else (none))))) else (none))))))))))))
set_option maxRecDepth 100000 in
set_option maxHeartbeats 40000000 in
theorem laws_FnExactPlayMoves.calls (k : Nat) (A0_0 : Option Addr) (c0_0 : Nat) (l0_0 : List (S_LTile)) (A0_1 : Option Addr) (c0_1 : Nat) (l0_1 : List (S_LTile)) (A0_2 : Option Addr) (c0_2 : Nat) (l0_2 : List Int) (a0_3 : Int) (a0_4 : Int) (A1 : Option Addr) (c1 : Nat) (l1 : List ByteArray) (r : Bool) (w : World) (hr0_0 : Kd.C k78 w A0_0 l0_0.length l0_0) (hc0_0 : l0_0.length ≤ c0_0) (hr0_1 : Kd.C k78 w A0_1 l0_1.length l0_1) (hc0_1 : l0_1.length ≤ c0_1) (hr0_2 : Kd.C (Kd.int .i64) w A0_2 l0_2.length l0_2) (hc0_2 : l0_2.length ≤ c0_2) (hr1 : Kd.C Kd.string w A1 l1.length l1) (hc1 : l1.length ≤ c1) (h : laws_FnExactPlayMoves.f k l0_0 l0_1 l0_2 a0_3 a0_4 l1 = some r) :
    Calls Tryz.prog 5 #[.agg #[.slice A0_0 l0_0.length c0_0, .slice A0_1 l0_1.length c0_1, .slice A0_2 l0_2.length c0_2, .int .i64 a0_3, .int .i64 a0_4], .slice A1 l1.length c1] w fun e w' => e = .returned (.bool r) ∧ Below w.heap.size w w' := by
  obtain ⟨cs, hcs⟩ : ∃ cs, cs = [old w w.heap.size] := ⟨_, rfl⟩
  have hp : Hp w cs w := by rw [hcs]; exact Hp.old_start w
  have hc2 : ∀ W, Hp w cs W → Below w.heap.size w W := fun W h => by rw [hcs] at h; exact h.since 0 _ rfl
  have hC0_0 : ∀ W, Hp w cs W → Kd.C k78 W A0_0 l0_0.length l0_0 := fun W h => Kd.C_below hr0_0 (hc2 W h)
  have hC0_1 : ∀ W, Hp w cs W → Kd.C k78 W A0_1 l0_1.length l0_1 := fun W h => Kd.C_below hr0_1 (hc2 W h)
  have hC0_2 : ∀ W, Hp w cs W → Kd.C (Kd.int .i64) W A0_2 l0_2.length l0_2 := fun W h => Kd.C_below hr0_2 (hc2 W h)
  have hC1 : ∀ W, Hp w cs W → Kd.C Kd.string W A1 l1.length l1 := fun W h => Kd.C_below hr1 (hc2 W h)
  clear hcs
  unfold laws_FnExactPlayMoves.f at h
  obtain ⟨t_2, hv_1, h⟩ := Option.bind_eq_some_iff.mp h
  try dsimp only at h
  refine sx_enter (N := 119) (l := [.agg #[.slice A0_0 l0_0.length c0_0, .slice A0_1 l0_1.length c0_1, .slice A0_2 l0_2.length c0_2, .int .i64 a0_3, .int .i64 a0_4], .slice A1 l1.length c1]) Tryz.func5 rfl rfl rfl ?_
  refine wp_seq ?_
  refine sx_region ?_
  refine sx_box 2 hp #[.slice A0_0 l0_0.length c0_0, .slice A0_1 l0_1.length c0_1, .slice A0_2 l0_2.length c0_2, .int .i64 a0_3, .int .i64 a0_4] 25 (by rfl) (fun W => by kernel_rfl) ?_
  intro g_3 W_4 hp
  refine sx_rd 4 (.bool false) (by rfl) (by kernel_rfl) ?_
  refine sx_nil ?_
  refine ex_then_n ?_
  refine wp_seq ?_
  refine sx_region ?_
  refine sx_rd 5 (.int .i64 1048576) (by rfl) (by kernel_rfl) ?_
  refine sx_nil ?_
  refine ex_then_n ?_
  refine wp_seq ?_
  refine sx_region ?_
  refine sx_rd 17 (.agg #[.slice A0_0 l0_0.length c0_0, .slice A0_1 l0_1.length c0_1, .slice A0_2 l0_2.length c0_2, .int .i64 a0_3, .int .i64 a0_4]) (by rfl) (ldn (t := 25) (p := (.tmp 2)) (by rfl) (by rfl) (by kernel_rfl) (by kernel_rfl) (by kernel_rfl) (hp.at_ 0 _ (by rfl))) ?_
  refine sx_rd 18 (.int .i64 1048576) (by rfl) (by kernel_rfl) ?_
  refine sx_call 19 (by rfl) (by kernel_rfl) ((laws_szGame.calls A0_0 c0_0 l0_0 A0_1 c0_1 l0_1 A0_2 c0_2 l0_2 a0_3 a0_4 1048576 _ _ (hC0_0 _ hp.tail) hc0_0 (hC0_1 _ hp.tail) hc0_1 (hC0_2 _ hp.tail) hc0_2 hv_1).mono ?_)
  rintro _ W_5 ⟨rfl, hb⟩
  refine ⟨_, rfl, ?_⟩
  replace hp := hp.below hb
  clear hb
  refine sx_rd 5 (.int .i64 t_2) (by rfl) (by kernel_rfl) ?_
  refine sx_nil ?_
  refine ex_then_n ?_
  refine wp_seq ?_
  refine wp_seq ?_
  refine sx_region ?_
  refine sx_rd 20 (.int .i64 t_2) (by rfl) (by kernel_rfl) ?_
  refine sx_rd 21 (.bool (decide (t_2 < 0))) (by rfl) (by kernel_rfl) ?_
  refine sx_nil ?_
  refine ex_then_n ?_
  by_cases hc_6 : t_2 < 0
  ·
    rw [if_pos hc_6] at h
    refine sx_then (decide (t_2 < 0)) (by rfl) (decide_eq_true hc_6) ?_
    refine wp_seq ?_
    refine sx_region ?_
    refine sx_rd 4 (.bool true) (by rfl) (by kernel_rfl) ?_
    refine sx_nil ?_
    refine ex_then_n ?_
    refine wp_ret ?_
    refine ex_then_r ?_
    refine sx_end (.bool true) (res1 4 (by rfl)) ?_
    obtain rfl := Option.some.inj h
    exact ⟨rfl, hc2 _ (hp.tail)⟩
  ·
    rw [if_neg hc_6] at h
    obtain ⟨t_8, hv_7, h⟩ := Option.bind_eq_some_iff.mp h
    try dsimp only at h
    refine sx_else (decide (t_2 < 0)) (by rfl) (decide_eq_false hc_6) ?_
    refine wp_skip ?_
    refine ex_then_n ?_
    refine wp_seq ?_
    refine sx_region ?_
    refine sx_rd 22 (.slice A1 l1.length c1) (by rfl) (by kernel_rfl) ?_
    refine sx_rd 23 (.int .i64 t_2) (by rfl) (by kernel_rfl) ?_
    refine sx_call 24 (by rfl) (by kernel_rfl) ((laws_szStringS.calls _ A1 c1 l1 t_2 _ _ (hC1 _ hp.tail) hc1 hv_7).mono ?_)
    rintro _ W_9 ⟨rfl, hb⟩
    refine ⟨_, rfl, ?_⟩
    replace hp := hp.below hb.below
    clear hb
    refine sx_rd 5 (.int .i64 t_8) (by rfl) (by kernel_rfl) ?_
    refine sx_nil ?_
    refine ex_then_n ?_
    refine wp_seq ?_
    refine wp_seq ?_
    refine sx_region ?_
    refine sx_rd 25 (.int .i64 t_8) (by rfl) (by kernel_rfl) ?_
    refine sx_rd 26 (.bool (decide (t_8 < 0))) (by rfl) (by kernel_rfl) ?_
    refine sx_nil ?_
    refine ex_then_n ?_
    by_cases hc_10 : t_8 < 0
    ·
      rw [if_pos hc_10] at h
      refine sx_then (decide (t_8 < 0)) (by rfl) (decide_eq_true hc_10) ?_
      refine wp_seq ?_
      refine sx_region ?_
      refine sx_rd 4 (.bool true) (by rfl) (by kernel_rfl) ?_
      refine sx_nil ?_
      refine ex_then_n ?_
      refine wp_ret ?_
      refine ex_then_r ?_
      refine sx_end (.bool true) (res1 4 (by rfl)) ?_
      obtain rfl := Option.some.inj h
      exact ⟨rfl, hc2 _ (hp.tail)⟩
    ·
      rw [if_neg hc_10] at h
      obtain ⟨⟨t_12, t_13, t_14, t_15, t_16⟩, hv_11, h⟩ := Option.bind_eq_some_iff.mp h
      try dsimp only at h
      obtain ⟨t_18, hv_17, h⟩ := Option.bind_eq_some_iff.mp h
      try dsimp only at h
      obtain ⟨⟨t_20, t_21, t_22, t_23, t_24, t_25⟩, hv_19, h⟩ := Option.bind_eq_some_iff.mp h
      try dsimp only at h
      obtain ⟨⟨t_27, t_28, t_29, t_30, t_31⟩, hv_26, h⟩ := Option.bind_eq_some_iff.mp h
      try dsimp only at h
      obtain ⟨t_33, hv_32, h⟩ := Option.bind_eq_some_iff.mp h
      try dsimp only at h
      obtain ⟨⟨t_35, t_36, t_37, t_38, t_39, t_40⟩, hv_34, h⟩ := Option.bind_eq_some_iff.mp h
      try dsimp only at h
      obtain ⟨t_42, hv_41, h⟩ := Option.bind_eq_some_iff.mp h
      try dsimp only at h
      by_cases hc_43 : t_42 = true
      case neg => rw [if_neg hc_43] at h; cases h
      rw [if_pos hc_43] at h
      by_cases hc_44 : (t_40 != t_25) = true
      case pos => rw [if_pos hc_44] at h; cases h
      rw [if_neg hc_44] at h
      obtain ⟨⟨t_46, t_47, t_48, t_49, t_50⟩, hv_45, h⟩ := Option.bind_eq_some_iff.mp h
      try dsimp only at h
      obtain ⟨t_52, hv_51, h⟩ := Option.bind_eq_some_iff.mp h
      try dsimp only at h
      by_cases hc_53 : t_52 = true
      case neg => rw [if_neg hc_53] at h; cases h
      rw [if_pos hc_53] at h
      obtain ⟨t_55, hv_54, h⟩ := Option.bind_eq_some_iff.mp h
      try dsimp only at h
      obtain ⟨t_57, hv_56, h⟩ := Option.bind_eq_some_iff.mp h
      try dsimp only at h
      by_cases hc_58 : t_57 = true
      case neg => rw [if_neg hc_58] at h; cases h
      rw [if_pos hc_58] at h
      obtain ⟨⟨t_60, t_61, t_62, t_63⟩, hv_59, h⟩ := Option.bind_eq_some_iff.mp h
      try dsimp only at h
      obtain ⟨⟨t_65, t_66⟩, hv_64, h⟩ := Option.bind_eq_some_iff.mp h
      try dsimp only at h
      by_cases hc_67 : t_65 < 0
      case pos => rw [if_pos hc_67] at h; cases h
      rw [if_neg hc_67] at h
      obtain ⟨t_69, hv_68, h⟩ := Option.bind_eq_some_iff.mp h
      try dsimp only at h
      by_cases hc_70 : t_69 = true
      case neg => rw [if_neg hc_70] at h; cases h
      rw [if_pos hc_70] at h
      obtain ⟨⟨t_72, t_73, t_74, t_75⟩, hv_71, h⟩ := Option.bind_eq_some_iff.mp h
      try dsimp only at h
      obtain ⟨t_77, hv_76, h⟩ := Option.bind_eq_some_iff.mp h
      try dsimp only at h
      by_cases hc_78 : t_77 < 0
      case pos => rw [if_pos hc_78] at h; cases h
      rw [if_neg hc_78] at h
      by_cases hc_79 : t_77 = t_72
      case neg => rw [if_neg hc_79] at h; cases h
      rw [if_pos hc_79] at h
      obtain ⟨⟨t_81, t_82, t_83, t_84, t_85⟩, hv_80, h⟩ := Option.bind_eq_some_iff.mp h
      try dsimp only at h
      obtain ⟨t_87, hv_86, h⟩ := Option.bind_eq_some_iff.mp h
      try dsimp only at h
      obtain ⟨⟨t_89, t_90, t_91, t_92, t_93, t_94⟩, hv_88, h⟩ := Option.bind_eq_some_iff.mp h
      try dsimp only at h
      obtain ⟨t_96, hv_95, h⟩ := Option.bind_eq_some_iff.mp h
      try dsimp only at h
      by_cases hc_97 : t_96 = true
      case neg => rw [if_neg hc_97] at h; cases h
      rw [if_pos hc_97] at h
      by_cases hc_98 : (t_94 != t_25) = true
      case pos => rw [if_pos hc_98] at h; cases h
      rw [if_neg hc_98] at h
      obtain ⟨t_100, hv_99, h⟩ := Option.bind_eq_some_iff.mp h
      try dsimp only at h
      by_cases hc_101 : t_100 < 0
      case pos => rw [if_pos hc_101] at h; cases h
      rw [if_neg hc_101] at h
      by_cases hc_102 : t_100 = t_72
      case neg => rw [if_neg hc_102] at h; cases h
      rw [if_pos hc_102] at h
      refine sx_else (decide (t_8 < 0)) (by rfl) (decide_eq_false hc_10) ?_
      refine wp_skip ?_
      refine ex_then_n ?_
      refine wp_seq ?_
      refine sx_region ?_
      refine sx_rd 28 (.agg #[.slice A0_0 l0_0.length c0_0, .slice A0_1 l0_1.length c0_1, .slice A0_2 l0_2.length c0_2, .int .i64 a0_3, .int .i64 a0_4]) (by rfl) (ldn (t := 25) (p := (.tmp 2)) (by rfl) (by rfl) (by kernel_rfl) (by kernel_rfl) (by kernel_rfl) (hp.at_ 0 _ (by rfl))) ?_
      refine sx_call 29 (by rfl) (by kernel_rfl) ((laws_toGame.calls _ A0_0 c0_0 l0_0 A0_1 c0_1 l0_1 A0_2 c0_2 l0_2 a0_3 a0_4 _ _ _ _ _ _ (hC0_0 _ hp.tail) hc0_0 (hC0_1 _ hp.tail) hc0_1 (hC0_2 _ hp.tail) hc0_2 hv_11).mono ?_)
      rintro _ W_118 ⟨v_106, v_107, v_108, rfl, hR_103, hR_104, hR_105, hb⟩
      refine ⟨_, rfl, ?_⟩
      obtain ⟨A_109, c_110, rfl, hcc_c_110, _⟩ := Kd.R_reads hR_103
      obtain ⟨A_112, c_113, rfl, hcc_c_113, _⟩ := Kd.R_reads hR_104
      obtain ⟨A_115, c_116, rfl, hcc_c_116, _⟩ := Kd.R_reads hR_105
      obtain ⟨F_111, F_114, F_117, hp⟩ : ∃ F_111 F_114 F_117, Hp w (row k59 59 w.heap.size (.slice A_109 t_12.length c_110) t_12 F_111 :: row k59 59 w.heap.size (.slice A_112 t_13.length c_113) t_13 F_114 :: row (Kd.int .i64) 3 w.heap.size (.slice A_115 t_14.length c_116) t_14 F_117 :: blk g_3 #[.slice A0_0 l0_0.length c0_0, .slice A0_1 l0_1.length c0_1, .slice A0_2 l0_2.length c0_2, .int .i64 a0_3, .int .i64 a0_4] 25 :: cs) _ := ⟨_, _, _, Hp.made3 hp hb rfl rfl rfl hR_103 hR_104 hR_105 (ok_apart hR_103 (fun k hk => hk)) (typed_apart hR_103 hR_105 (by decide)) (typed_apart hR_104 hR_105 (by decide))⟩
      refine sx_rd 30 (.slice A1 l1.length c1) (by rfl) (by kernel_rfl) ?_
      refine sx_call 31 (by rfl) (by kernel_rfl) ((laws_toStringS.calls _ A1 c1 l1 _ _ (hC1 _ hp.tail.tail.tail.tail) hc1 hv_17).mono ?_)
      rintro _ W_124 ⟨v_120, rfl, hR_119, hb⟩
      refine ⟨_, rfl, ?_⟩
      obtain ⟨A_121, c_122, rfl, hcc_c_122, _⟩ := Kd.R_reads hR_119
      obtain ⟨F_123, hp⟩ : ∃ F, Hp w (row Kd.string 9 w.heap.size (.slice A_121 t_18.length c_122) t_18 F :: row k59 59 w.heap.size (.slice A_109 t_12.length c_110) t_12 F_111 :: row k59 59 w.heap.size (.slice A_112 t_13.length c_113) t_13 F_114 :: row (Kd.int .i64) 3 w.heap.size (.slice A_115 t_14.length c_116) t_14 F_117 :: blk g_3 #[.slice A0_0 l0_0.length c0_0, .slice A0_1 l0_1.length c0_1, .slice A0_2 l0_2.length c0_2, .int .i64 a0_3, .int .i64 a0_4] 25 :: cs) _ := ⟨_, Hp.made hp hb hR_119⟩
      refine sx_call 32 (by rfl) (by kernel_rfl) ((spec_PlayMoves.calls A_109 c_110 t_12 A_112 c_113 t_13 A_115 c_116 t_14 t_15 t_16 A_121 c_122 t_18 _ _ _ _ _ _ _ (row_C (hp.at_ 1 _ (by rfl))) (row_len (hp.at_ 1 _ (by rfl))).2 (row_C (hp.at_ 2 _ (by rfl))) (row_len (hp.at_ 2 _ (by rfl))).2 (row_C (hp.at_ 3 _ (by rfl))) (row_len (hp.at_ 3 _ (by rfl))).2 (row_C (hp.at_ 0 _ (by rfl))) (row_len (hp.at_ 0 _ (by rfl))).2 hv_19).mono ?_)
      rintro _ W_140 ⟨v_128, v_129, v_130, rfl, hR_125, hR_126, hR_127, hb⟩
      refine ⟨_, rfl, ?_⟩
      obtain ⟨A_131, c_132, rfl, hcc_c_132, _⟩ := Kd.R_reads hR_125
      obtain ⟨A_134, c_135, rfl, hcc_c_135, _⟩ := Kd.R_reads hR_126
      obtain ⟨A_137, c_138, rfl, hcc_c_138, _⟩ := Kd.R_reads hR_127
      obtain ⟨F_133, F_136, F_139, hp⟩ : ∃ F_133 F_136 F_139, Hp w (row k59 59 w.heap.size (.slice A_131 t_20.length c_132) t_20 F_133 :: row k59 59 w.heap.size (.slice A_134 t_21.length c_135) t_21 F_136 :: row (Kd.int .i64) 3 w.heap.size (.slice A_137 t_22.length c_138) t_22 F_139 :: row Kd.string 9 w.heap.size (.slice A_121 t_18.length c_122) t_18 F_123 :: row k59 59 w.heap.size (.slice A_109 t_12.length c_110) t_12 F_111 :: row k59 59 w.heap.size (.slice A_112 t_13.length c_113) t_13 F_114 :: row (Kd.int .i64) 3 w.heap.size (.slice A_115 t_14.length c_116) t_14 F_117 :: blk g_3 #[.slice A0_0 l0_0.length c0_0, .slice A0_1 l0_1.length c0_1, .slice A0_2 l0_2.length c0_2, .int .i64 a0_3, .int .i64 a0_4] 25 :: cs) _ := ⟨_, _, _, Hp.made3 hp hb rfl rfl rfl hR_125 hR_126 hR_127 (ok_apart hR_125 (fun k hk => hk)) (typed_apart hR_125 hR_127 (by decide)) (typed_apart hR_126 hR_127 (by decide))⟩
      refine sx_rd 27 (.tuple #[.agg #[.slice A_131 t_20.length c_132, .slice A_134 t_21.length c_135, .slice A_137 t_22.length c_138, .int .i64 t_23, .int .i64 t_24], .bool t_25]) (by rfl) (by kernel_rfl) ?_
      refine sx_rd 33 (.agg #[.slice A_131 t_20.length c_132, .slice A_134 t_21.length c_135, .slice A_137 t_22.length c_138, .int .i64 t_23, .int .i64 t_24]) (by rfl) (by kernel_rfl) ?_
      refine sx_rd 34 (.bool t_25) (by rfl) (by kernel_rfl) ?_
      refine sx_box 6 hp #[.slice none 0 0, .slice none 0 0, .slice none 0 0, .int .i64 0, .int .i64 0] 29 (by rfl) (fun W => by kernel_rfl) ?_
      intro g_141 W_142 hp
      refine sx_store (t := 29) (p := (.tmp 6)) (x := (.tmp 33)) (by rfl) (by rfl) 0 (by rfl) 0 [.slice A_131 t_20.length c_132, .slice A_134 t_21.length c_135, .slice A_137 t_22.length c_138, .int .i64 t_23, .int .i64 t_24] (by rfl) (by rfl) (by kernel_rfl) (by simp [Value.oneCell']) (by show 5 ≤ 5; omega) #[.slice A_131 t_20.length c_132, .slice A_134 t_21.length c_135, .slice A_137 t_22.length c_138, .int .i64 t_23, .int .i64 t_24] (by rfl) hp ?_
      intro W_143 hp; simp only [List.set_cons_succ, List.set_cons_zero] at hp
      refine sx_rd 7 (.bool t_25) (by rfl) (by kernel_rfl) ?_
      refine sx_nil ?_
      refine ex_then_n ?_
      refine wp_seq ?_
      refine sx_region ?_
      refine sx_rd 35 (.agg #[.slice A0_0 l0_0.length c0_0, .slice A0_1 l0_1.length c0_1, .slice A0_2 l0_2.length c0_2, .int .i64 a0_3, .int .i64 a0_4]) (by rfl) (ldn (t := 25) (p := (.tmp 2)) (by rfl) (by rfl) (by kernel_rfl) (by kernel_rfl) (by kernel_rfl) (hp.at_ 8 _ (by rfl))) ?_
      refine sx_call 36 (by rfl) (by kernel_rfl) ((laws_toGame.calls _ A0_0 c0_0 l0_0 A0_1 c0_1 l0_1 A0_2 c0_2 l0_2 a0_3 a0_4 _ _ _ _ _ _ (hC0_0 _ hp.tail.tail.tail.tail.tail.tail.tail.tail.tail) hc0_0 (hC0_1 _ hp.tail.tail.tail.tail.tail.tail.tail.tail.tail) hc0_1 (hC0_2 _ hp.tail.tail.tail.tail.tail.tail.tail.tail.tail) hc0_2 hv_26).mono ?_)
      rintro _ W_159 ⟨v_147, v_148, v_149, rfl, hR_144, hR_145, hR_146, hb⟩
      refine ⟨_, rfl, ?_⟩
      obtain ⟨A_150, c_151, rfl, hcc_c_151, _⟩ := Kd.R_reads hR_144
      obtain ⟨A_153, c_154, rfl, hcc_c_154, _⟩ := Kd.R_reads hR_145
      obtain ⟨A_156, c_157, rfl, hcc_c_157, _⟩ := Kd.R_reads hR_146
      obtain ⟨F_152, F_155, F_158, hp⟩ : ∃ F_152 F_155 F_158, Hp w (row k59 59 w.heap.size (.slice A_150 t_27.length c_151) t_27 F_152 :: row k59 59 w.heap.size (.slice A_153 t_28.length c_154) t_28 F_155 :: row (Kd.int .i64) 3 w.heap.size (.slice A_156 t_29.length c_157) t_29 F_158 :: blk g_141 #[.slice A_131 t_20.length c_132, .slice A_134 t_21.length c_135, .slice A_137 t_22.length c_138, .int .i64 t_23, .int .i64 t_24] 29 :: row k59 59 w.heap.size (.slice A_131 t_20.length c_132) t_20 F_133 :: row k59 59 w.heap.size (.slice A_134 t_21.length c_135) t_21 F_136 :: row (Kd.int .i64) 3 w.heap.size (.slice A_137 t_22.length c_138) t_22 F_139 :: row Kd.string 9 w.heap.size (.slice A_121 t_18.length c_122) t_18 F_123 :: row k59 59 w.heap.size (.slice A_109 t_12.length c_110) t_12 F_111 :: row k59 59 w.heap.size (.slice A_112 t_13.length c_113) t_13 F_114 :: row (Kd.int .i64) 3 w.heap.size (.slice A_115 t_14.length c_116) t_14 F_117 :: blk g_3 #[.slice A0_0 l0_0.length c0_0, .slice A0_1 l0_1.length c0_1, .slice A0_2 l0_2.length c0_2, .int .i64 a0_3, .int .i64 a0_4] 25 :: cs) _ := ⟨_, _, _, Hp.made3 hp hb rfl rfl rfl hR_144 hR_145 hR_146 (ok_apart hR_144 (fun k hk => hk)) (typed_apart hR_144 hR_146 (by decide)) (typed_apart hR_145 hR_146 (by decide))⟩
      refine sx_box 8 hp #[.slice none 0 0, .slice none 0 0, .slice none 0 0, .int .i64 0, .int .i64 0] 29 (by rfl) (fun W => by kernel_rfl) ?_
      intro g_160 W_161 hp
      refine sx_store (t := 29) (p := (.tmp 8)) (x := (.tmp 36)) (by rfl) (by rfl) 0 (by rfl) 0 [.slice A_150 t_27.length c_151, .slice A_153 t_28.length c_154, .slice A_156 t_29.length c_157, .int .i64 t_30, .int .i64 t_31] (by rfl) (by rfl) (by kernel_rfl) (by simp [Value.oneCell']) (by show 5 ≤ 5; omega) #[.slice A_150 t_27.length c_151, .slice A_153 t_28.length c_154, .slice A_156 t_29.length c_157, .int .i64 t_30, .int .i64 t_31] (by rfl) hp ?_
      intro W_162 hp; simp only [List.set_cons_succ, List.set_cons_zero] at hp
      refine sx_nil ?_
      refine ex_then_n ?_
      refine wp_seq ?_
      refine sx_region ?_
      refine sx_rd 37 (.slice A1 l1.length c1) (by rfl) (by kernel_rfl) ?_
      refine sx_call 38 (by rfl) (by kernel_rfl) ((laws_toStringS.calls _ A1 c1 l1 _ _ (hC1 _ hp.tail.tail.tail.tail.tail.tail.tail.tail.tail.tail.tail.tail.tail) hc1 hv_32).mono ?_)
      rintro _ W_168 ⟨v_164, rfl, hR_163, hb⟩
      refine ⟨_, rfl, ?_⟩
      obtain ⟨A_165, c_166, rfl, hcc_c_166, _⟩ := Kd.R_reads hR_163
      obtain ⟨F_167, hp⟩ : ∃ F, Hp w (row Kd.string 9 w.heap.size (.slice A_165 t_33.length c_166) t_33 F :: blk g_160 #[.slice A_150 t_27.length c_151, .slice A_153 t_28.length c_154, .slice A_156 t_29.length c_157, .int .i64 t_30, .int .i64 t_31] 29 :: row k59 59 w.heap.size (.slice A_150 t_27.length c_151) t_27 F_152 :: row k59 59 w.heap.size (.slice A_153 t_28.length c_154) t_28 F_155 :: row (Kd.int .i64) 3 w.heap.size (.slice A_156 t_29.length c_157) t_29 F_158 :: blk g_141 #[.slice A_131 t_20.length c_132, .slice A_134 t_21.length c_135, .slice A_137 t_22.length c_138, .int .i64 t_23, .int .i64 t_24] 29 :: row k59 59 w.heap.size (.slice A_131 t_20.length c_132) t_20 F_133 :: row k59 59 w.heap.size (.slice A_134 t_21.length c_135) t_21 F_136 :: row (Kd.int .i64) 3 w.heap.size (.slice A_137 t_22.length c_138) t_22 F_139 :: row Kd.string 9 w.heap.size (.slice A_121 t_18.length c_122) t_18 F_123 :: row k59 59 w.heap.size (.slice A_109 t_12.length c_110) t_12 F_111 :: row k59 59 w.heap.size (.slice A_112 t_13.length c_113) t_13 F_114 :: row (Kd.int .i64) 3 w.heap.size (.slice A_115 t_14.length c_116) t_14 F_117 :: blk g_3 #[.slice A0_0 l0_0.length c0_0, .slice A0_1 l0_1.length c0_1, .slice A0_2 l0_2.length c0_2, .int .i64 a0_3, .int .i64 a0_4] 25 :: cs) _ := ⟨_, Hp.made hp hb hR_163⟩
      refine sx_rd 9 (.slice A_165 t_33.length c_166) (by rfl) (by kernel_rfl) ?_
      refine sx_nil ?_
      refine ex_then_n ?_
      refine wp_seq ?_
      refine sx_region ?_
      refine sx_rd 40 (.agg #[.slice A_150 t_27.length c_151, .slice A_153 t_28.length c_154, .slice A_156 t_29.length c_157, .int .i64 t_30, .int .i64 t_31]) (by rfl) (ldn (t := 29) (p := (.tmp 8)) (by rfl) (by rfl) (by kernel_rfl) (by kernel_rfl) (by kernel_rfl) (hp.at_ 1 _ (by rfl))) ?_
      refine sx_rd 41 (.slice A_165 t_33.length c_166) (by rfl) (by kernel_rfl) ?_
      refine sx_call 42 (by rfl) (by kernel_rfl) ((impl_PlayMoves.calls A_150 c_151 t_27 A_153 c_154 t_28 A_156 c_157 t_29 t_30 t_31 A_165 c_166 t_33 _ _ _ _ _ _ _ (row_C (hp.at_ 2 _ (by rfl))) (row_len (hp.at_ 2 _ (by rfl))).2 (row_C (hp.at_ 3 _ (by rfl))) (row_len (hp.at_ 3 _ (by rfl))).2 (row_C (hp.at_ 4 _ (by rfl))) (row_len (hp.at_ 4 _ (by rfl))).2 (row_C (hp.at_ 0 _ (by rfl))) (row_len (hp.at_ 0 _ (by rfl))).2 hv_34).mono ?_)
      rintro _ W_184 ⟨v_172, v_173, v_174, rfl, hR_169, hR_170, hR_171, hb⟩
      refine ⟨_, rfl, ?_⟩
      obtain ⟨A_175, c_176, rfl, hcc_c_176, _⟩ := Kd.R_reads hR_169
      obtain ⟨A_178, c_179, rfl, hcc_c_179, _⟩ := Kd.R_reads hR_170
      obtain ⟨A_181, c_182, rfl, hcc_c_182, _⟩ := Kd.R_reads hR_171
      obtain ⟨F_177, F_180, F_183, hp⟩ : ∃ F_177 F_180 F_183, Hp w (row k59 59 w.heap.size (.slice A_175 t_35.length c_176) t_35 F_177 :: row k59 59 w.heap.size (.slice A_178 t_36.length c_179) t_36 F_180 :: row (Kd.int .i64) 3 w.heap.size (.slice A_181 t_37.length c_182) t_37 F_183 :: row Kd.string 9 w.heap.size (.slice A_165 t_33.length c_166) t_33 F_167 :: blk g_160 #[.slice A_150 t_27.length c_151, .slice A_153 t_28.length c_154, .slice A_156 t_29.length c_157, .int .i64 t_30, .int .i64 t_31] 29 :: row k59 59 w.heap.size (.slice A_150 t_27.length c_151) t_27 F_152 :: row k59 59 w.heap.size (.slice A_153 t_28.length c_154) t_28 F_155 :: row (Kd.int .i64) 3 w.heap.size (.slice A_156 t_29.length c_157) t_29 F_158 :: blk g_141 #[.slice A_131 t_20.length c_132, .slice A_134 t_21.length c_135, .slice A_137 t_22.length c_138, .int .i64 t_23, .int .i64 t_24] 29 :: row k59 59 w.heap.size (.slice A_131 t_20.length c_132) t_20 F_133 :: row k59 59 w.heap.size (.slice A_134 t_21.length c_135) t_21 F_136 :: row (Kd.int .i64) 3 w.heap.size (.slice A_137 t_22.length c_138) t_22 F_139 :: row Kd.string 9 w.heap.size (.slice A_121 t_18.length c_122) t_18 F_123 :: row k59 59 w.heap.size (.slice A_109 t_12.length c_110) t_12 F_111 :: row k59 59 w.heap.size (.slice A_112 t_13.length c_113) t_13 F_114 :: row (Kd.int .i64) 3 w.heap.size (.slice A_115 t_14.length c_116) t_14 F_117 :: blk g_3 #[.slice A0_0 l0_0.length c0_0, .slice A0_1 l0_1.length c0_1, .slice A0_2 l0_2.length c0_2, .int .i64 a0_3, .int .i64 a0_4] 25 :: cs) _ := ⟨_, _, _, Hp.made3 hp hb rfl rfl rfl hR_169 hR_170 hR_171 (ok_apart hR_169 (fun k hk => hk)) (typed_apart hR_169 hR_171 (by decide)) (typed_apart hR_170 hR_171 (by decide))⟩
      refine sx_rd 39 (.tuple #[.agg #[.slice A_175 t_35.length c_176, .slice A_178 t_36.length c_179, .slice A_181 t_37.length c_182, .int .i64 t_38, .int .i64 t_39], .bool t_40]) (by rfl) (by kernel_rfl) ?_
      refine sx_rd 43 (.agg #[.slice A_175 t_35.length c_176, .slice A_178 t_36.length c_179, .slice A_181 t_37.length c_182, .int .i64 t_38, .int .i64 t_39]) (by rfl) (by kernel_rfl) ?_
      refine sx_rd 44 (.bool t_40) (by rfl) (by kernel_rfl) ?_
      refine sx_box 10 hp #[.slice none 0 0, .slice none 0 0, .slice none 0 0, .int .i64 0, .int .i64 0] 29 (by rfl) (fun W => by kernel_rfl) ?_
      intro g_185 W_186 hp
      refine sx_store (t := 29) (p := (.tmp 10)) (x := (.tmp 43)) (by rfl) (by rfl) 0 (by rfl) 0 [.slice A_175 t_35.length c_176, .slice A_178 t_36.length c_179, .slice A_181 t_37.length c_182, .int .i64 t_38, .int .i64 t_39] (by rfl) (by rfl) (by kernel_rfl) (by simp [Value.oneCell']) (by show 5 ≤ 5; omega) #[.slice A_175 t_35.length c_176, .slice A_178 t_36.length c_179, .slice A_181 t_37.length c_182, .int .i64 t_38, .int .i64 t_39] (by rfl) hp ?_
      intro W_187 hp; simp only [List.set_cons_succ, List.set_cons_zero] at hp
      refine sx_rd 11 (.bool t_40) (by rfl) (by kernel_rfl) ?_
      refine sx_nil ?_
      refine ex_then_n ?_
      refine wp_seq ?_
      refine wp_seq ?_
      refine sx_region ?_
      refine sx_rd 45 (.agg #[.slice A_175 t_35.length c_176, .slice A_178 t_36.length c_179, .slice A_181 t_37.length c_182, .int .i64 t_38, .int .i64 t_39]) (by rfl) (ldn (t := 29) (p := (.tmp 10)) (by rfl) (by rfl) (by kernel_rfl) (by kernel_rfl) (by kernel_rfl) (hp.at_ 0 _ (by rfl))) ?_
      refine sx_rd 46 (.agg #[.slice A_131 t_20.length c_132, .slice A_134 t_21.length c_135, .slice A_137 t_22.length c_138, .int .i64 t_23, .int .i64 t_24]) (by rfl) (ldn (t := 29) (p := (.tmp 6)) (by rfl) (by rfl) (by kernel_rfl) (by kernel_rfl) (by kernel_rfl) (hp.at_ 9 _ (by rfl))) ?_
      refine sx_call 47 (by rfl) (by kernel_rfl) ((laws_eqGame.calls _ A_175 c_176 t_35 A_178 c_179 t_36 A_181 c_182 t_37 t_38 t_39 A_131 c_132 t_20 A_134 c_135 t_21 A_137 c_138 t_22 t_23 t_24 _ _ (row_C (hp.at_ 1 _ (by rfl))) (row_len (hp.at_ 1 _ (by rfl))).2 (row_C (hp.at_ 2 _ (by rfl))) (row_len (hp.at_ 2 _ (by rfl))).2 (row_C (hp.at_ 3 _ (by rfl))) (row_len (hp.at_ 3 _ (by rfl))).2 (row_C (hp.at_ 10 _ (by rfl))) (row_len (hp.at_ 10 _ (by rfl))).2 (row_C (hp.at_ 11 _ (by rfl))) (row_len (hp.at_ 11 _ (by rfl))).2 (row_C (hp.at_ 12 _ (by rfl))) (row_len (hp.at_ 12 _ (by rfl))).2 hv_41).mono ?_)
      rintro _ W_188 ⟨rfl, hb⟩
      refine ⟨_, rfl, ?_⟩
      replace hp := hp.below hb
      clear hb
      refine sx_rd 48 (.bool false) (by rfl) (bv (show (!t_42) = false from by rw [hc_43]; rfl) (by kernel_rfl)) ?_
      refine sx_rd 49 (.bool false) (by rfl) (by kernel_rfl) ?_
      refine sx_want (by rfl) ?_
      refine sx_rd 50 (.bool t_40) (by rfl) (by kernel_rfl) ?_
      refine sx_want (by rfl) ?_
      refine sx_rd 51 (.bool t_25) (by rfl) (by kernel_rfl) ?_
      refine sx_want (by rfl) ?_
      refine sx_rd 52 (.bool (t_40 != t_25)) (by rfl) (by kernel_rfl) ?_
      refine sx_rd 53 (.bool (t_40 != t_25)) (by rfl) (by kernel_rfl) ?_
      refine sx_nil ?_
      refine ex_then_n ?_
      refine sx_else (t_40 != t_25) (by rfl) (Bool.eq_false_iff.mpr hc_44) ?_
      refine wp_skip ?_
      refine ex_then_n ?_
      refine wp_seq ?_
      refine wp_seq ?_
      refine sx_drawT [] (.rd 0 (.rd 1 (.alt 2 (.alt 3 (.rd 4 (.fin)) .non) .non))) 5 (C := Hp w (blk g_185 #[.slice A_175 t_35.length c_176, .slice A_178 t_36.length c_179, .slice A_181 t_37.length c_182, .int .i64 t_38, .int .i64 t_39] 29 :: row k59 59 w.heap.size (.slice A_175 t_35.length c_176) t_35 F_177 :: row k59 59 w.heap.size (.slice A_178 t_36.length c_179) t_36 F_180 :: row (Kd.int .i64) 3 w.heap.size (.slice A_181 t_37.length c_182) t_37 F_183 :: row Kd.string 9 w.heap.size (.slice A_165 t_33.length c_166) t_33 F_167 :: blk g_160 #[.slice A_150 t_27.length c_151, .slice A_153 t_28.length c_154, .slice A_156 t_29.length c_157, .int .i64 t_30, .int .i64 t_31] 29 :: row k59 59 w.heap.size (.slice A_150 t_27.length c_151) t_27 F_152 :: row k59 59 w.heap.size (.slice A_153 t_28.length c_154) t_28 F_155 :: row (Kd.int .i64) 3 w.heap.size (.slice A_156 t_29.length c_157) t_29 F_158 :: blk g_141 #[.slice A_131 t_20.length c_132, .slice A_134 t_21.length c_135, .slice A_137 t_22.length c_138, .int .i64 t_23, .int .i64 t_24] 29 :: row k59 59 w.heap.size (.slice A_131 t_20.length c_132) t_20 F_133 :: row k59 59 w.heap.size (.slice A_134 t_21.length c_135) t_21 F_136 :: row (Kd.int .i64) 3 w.heap.size (.slice A_137 t_22.length c_138) t_22 F_139 :: row Kd.string 9 w.heap.size (.slice A_121 t_18.length c_122) t_18 F_123 :: row k59 59 w.heap.size (.slice A_109 t_12.length c_110) t_12 F_111 :: row k59 59 w.heap.size (.slice A_112 t_13.length c_113) t_13 F_114 :: row (Kd.int .i64) 3 w.heap.size (.slice A_115 t_14.length c_116) t_14 F_117 :: blk g_3 #[.slice A0_0 l0_0.length c0_0, .slice A0_1 l0_1.length c0_1, .slice A0_2 l0_2.length c0_2, .int .i64 a0_3, .int .i64 a0_4] 25 :: cs)) (by kernel_rfl) (by kernel_rfl) (fun d _ _ _ _ h => by cases d <;> exact h) (fun W h => h.drew) hp ?_
      refine preI_nil ?_
      intro W_189 hp
      refine treeI_rd rfl ?_
      refine sxq_val 54 (.agg #[.slice A_150 t_27.length c_151, .slice A_153 t_28.length c_154, .slice A_156 t_29.length c_157, .int .i64 t_30, .int .i64 t_31]) (by rfl) (fun W hp => (ldn (t := 29) (p := (.tmp 8)) (by rfl) (by rfl) (by kernel_rfl) (by kernel_rfl) (by kernel_rfl) (hp.at_ 5 _ (by rfl)))) ?_
      refine sxq_nil ?_
      refine treeI_rd rfl ?_
      refine sxq_val 55 (.agg #[.slice A0_0 l0_0.length c0_0, .slice A0_1 l0_1.length c0_1, .slice A0_2 l0_2.length c0_2, .int .i64 a0_3, .int .i64 a0_4]) (by rfl) (fun W hp => (ldn (t := 25) (p := (.tmp 2)) (by rfl) (by rfl) (by kernel_rfl) (by kernel_rfl) (by kernel_rfl) (hp.at_ 17 _ (by rfl)))) ?_
      refine sxq_nil ?_
      refine treeI_ev rfl ?_
      refine sx_call 56 (by rfl) (by kernel_rfl) ((laws_toGame.calls _ A0_0 c0_0 l0_0 A0_1 c0_1 l0_1 A0_2 c0_2 l0_2 a0_3 a0_4 _ _ _ _ _ _ (hC0_0 _ hp.tail.tail.tail.tail.tail.tail.tail.tail.tail.tail.tail.tail.tail.tail.tail.tail.tail.tail) hc0_0 (hC0_1 _ hp.tail.tail.tail.tail.tail.tail.tail.tail.tail.tail.tail.tail.tail.tail.tail.tail.tail.tail) hc0_1 (hC0_2 _ hp.tail.tail.tail.tail.tail.tail.tail.tail.tail.tail.tail.tail.tail.tail.tail.tail.tail.tail) hc0_2 hv_45).mono ?_)
      rintro _ W_205 ⟨v_193, v_194, v_195, rfl, hR_190, hR_191, hR_192, hb⟩
      refine ⟨_, rfl, ?_⟩
      obtain ⟨A_196, c_197, rfl, hcc_c_197, _⟩ := Kd.R_reads hR_190
      obtain ⟨A_199, c_200, rfl, hcc_c_200, _⟩ := Kd.R_reads hR_191
      obtain ⟨A_202, c_203, rfl, hcc_c_203, _⟩ := Kd.R_reads hR_192
      obtain ⟨F_198, F_201, F_204, hp⟩ : ∃ F_198 F_201 F_204, Hp w (row k59 59 w.heap.size (.slice A_196 t_46.length c_197) t_46 F_198 :: row k59 59 w.heap.size (.slice A_199 t_47.length c_200) t_47 F_201 :: row (Kd.int .i64) 3 w.heap.size (.slice A_202 t_48.length c_203) t_48 F_204 :: blk g_185 #[.slice A_175 t_35.length c_176, .slice A_178 t_36.length c_179, .slice A_181 t_37.length c_182, .int .i64 t_38, .int .i64 t_39] 29 :: row k59 59 w.heap.size (.slice A_175 t_35.length c_176) t_35 F_177 :: row k59 59 w.heap.size (.slice A_178 t_36.length c_179) t_36 F_180 :: row (Kd.int .i64) 3 w.heap.size (.slice A_181 t_37.length c_182) t_37 F_183 :: row Kd.string 9 w.heap.size (.slice A_165 t_33.length c_166) t_33 F_167 :: blk g_160 #[.slice A_150 t_27.length c_151, .slice A_153 t_28.length c_154, .slice A_156 t_29.length c_157, .int .i64 t_30, .int .i64 t_31] 29 :: row k59 59 w.heap.size (.slice A_150 t_27.length c_151) t_27 F_152 :: row k59 59 w.heap.size (.slice A_153 t_28.length c_154) t_28 F_155 :: row (Kd.int .i64) 3 w.heap.size (.slice A_156 t_29.length c_157) t_29 F_158 :: blk g_141 #[.slice A_131 t_20.length c_132, .slice A_134 t_21.length c_135, .slice A_137 t_22.length c_138, .int .i64 t_23, .int .i64 t_24] 29 :: row k59 59 w.heap.size (.slice A_131 t_20.length c_132) t_20 F_133 :: row k59 59 w.heap.size (.slice A_134 t_21.length c_135) t_21 F_136 :: row (Kd.int .i64) 3 w.heap.size (.slice A_137 t_22.length c_138) t_22 F_139 :: row Kd.string 9 w.heap.size (.slice A_121 t_18.length c_122) t_18 F_123 :: row k59 59 w.heap.size (.slice A_109 t_12.length c_110) t_12 F_111 :: row k59 59 w.heap.size (.slice A_112 t_13.length c_113) t_13 F_114 :: row (Kd.int .i64) 3 w.heap.size (.slice A_115 t_14.length c_116) t_14 F_117 :: blk g_3 #[.slice A0_0 l0_0.length c0_0, .slice A0_1 l0_1.length c0_1, .slice A0_2 l0_2.length c0_2, .int .i64 a0_3, .int .i64 a0_4] 25 :: cs) _ := ⟨_, _, _, Hp.made3 hp hb rfl rfl rfl hR_190 hR_191 hR_192 (ok_apart hR_190 (fun k hk => hk)) (typed_apart hR_190 hR_192 (by decide)) (typed_apart hR_191 hR_192 (by decide))⟩
      refine step_fin hp.tail.tail.tail ?_
      refine treeI_ev rfl ?_
      refine sx_call 57 (by rfl) (by kernel_rfl) ((laws_eqGame.calls _ A_150 c_151 t_27 A_153 c_154 t_28 A_156 c_157 t_29 t_30 t_31 A_196 c_197 t_46 A_199 c_200 t_47 A_202 c_203 t_48 t_49 t_50 _ _ (row_C (hp.at_ 9 _ (by rfl))) (row_len (hp.at_ 9 _ (by rfl))).2 (row_C (hp.at_ 10 _ (by rfl))) (row_len (hp.at_ 10 _ (by rfl))).2 (row_C (hp.at_ 11 _ (by rfl))) (row_len (hp.at_ 11 _ (by rfl))).2 (row_C (hp.at_ 0 _ (by rfl))) (row_len (hp.at_ 0 _ (by rfl))).2 (row_C (hp.at_ 1 _ (by rfl))) (row_len (hp.at_ 1 _ (by rfl))).2 (row_C (hp.at_ 2 _ (by rfl))) (row_len (hp.at_ 2 _ (by rfl))).2 hv_51).mono ?_)
      rintro _ W_206 ⟨rfl, hb⟩
      refine ⟨_, rfl, ?_⟩
      replace hp := hp.below hb
      clear hb
      refine step_fin hp.tail.tail.tail ?_
      refine treeI_rd rfl ?_
      refine sxq_val 58 (.bool (!t_52)) (by rfl) (fun W hp => (by kernel_rfl)) ?_
      refine sxq_nil ?_
      refine treeI_fin ?_
      refine sx_nil ?_
      refine ex_then_n ?_
      refine sx_else (!t_52) (by rfl) (show (!t_52) = false from by rw [hc_53]; rfl) ?_
      refine wp_skip ?_
      refine ex_then_n ?_
      refine wp_seq ?_
      refine wp_seq ?_
      refine sx_region ?_
      refine sx_rd 59 (.slice A_165 t_33.length c_166) (by rfl) (by kernel_rfl) ?_
      refine sx_rd 60 (.slice A1 l1.length c1) (by rfl) (by kernel_rfl) ?_
      refine sx_call 61 (by rfl) (by kernel_rfl) ((laws_toStringS.calls _ A1 c1 l1 _ _ (hC1 _ hp.tail.tail.tail.tail.tail.tail.tail.tail.tail.tail.tail.tail.tail.tail.tail.tail.tail.tail.tail.tail.tail) hc1 hv_54).mono ?_)
      rintro _ W_212 ⟨v_208, rfl, hR_207, hb⟩
      refine ⟨_, rfl, ?_⟩
      obtain ⟨A_209, c_210, rfl, hcc_c_210, _⟩ := Kd.R_reads hR_207
      obtain ⟨F_211, hp⟩ : ∃ F, Hp w (row Kd.string 9 w.heap.size (.slice A_209 t_55.length c_210) t_55 F :: row k59 59 w.heap.size (.slice A_196 t_46.length c_197) t_46 F_198 :: row k59 59 w.heap.size (.slice A_199 t_47.length c_200) t_47 F_201 :: row (Kd.int .i64) 3 w.heap.size (.slice A_202 t_48.length c_203) t_48 F_204 :: blk g_185 #[.slice A_175 t_35.length c_176, .slice A_178 t_36.length c_179, .slice A_181 t_37.length c_182, .int .i64 t_38, .int .i64 t_39] 29 :: row k59 59 w.heap.size (.slice A_175 t_35.length c_176) t_35 F_177 :: row k59 59 w.heap.size (.slice A_178 t_36.length c_179) t_36 F_180 :: row (Kd.int .i64) 3 w.heap.size (.slice A_181 t_37.length c_182) t_37 F_183 :: row Kd.string 9 w.heap.size (.slice A_165 t_33.length c_166) t_33 F_167 :: blk g_160 #[.slice A_150 t_27.length c_151, .slice A_153 t_28.length c_154, .slice A_156 t_29.length c_157, .int .i64 t_30, .int .i64 t_31] 29 :: row k59 59 w.heap.size (.slice A_150 t_27.length c_151) t_27 F_152 :: row k59 59 w.heap.size (.slice A_153 t_28.length c_154) t_28 F_155 :: row (Kd.int .i64) 3 w.heap.size (.slice A_156 t_29.length c_157) t_29 F_158 :: blk g_141 #[.slice A_131 t_20.length c_132, .slice A_134 t_21.length c_135, .slice A_137 t_22.length c_138, .int .i64 t_23, .int .i64 t_24] 29 :: row k59 59 w.heap.size (.slice A_131 t_20.length c_132) t_20 F_133 :: row k59 59 w.heap.size (.slice A_134 t_21.length c_135) t_21 F_136 :: row (Kd.int .i64) 3 w.heap.size (.slice A_137 t_22.length c_138) t_22 F_139 :: row Kd.string 9 w.heap.size (.slice A_121 t_18.length c_122) t_18 F_123 :: row k59 59 w.heap.size (.slice A_109 t_12.length c_110) t_12 F_111 :: row k59 59 w.heap.size (.slice A_112 t_13.length c_113) t_13 F_114 :: row (Kd.int .i64) 3 w.heap.size (.slice A_115 t_14.length c_116) t_14 F_117 :: blk g_3 #[.slice A0_0 l0_0.length c0_0, .slice A0_1 l0_1.length c0_1, .slice A0_2 l0_2.length c0_2, .int .i64 a0_3, .int .i64 a0_4] 25 :: cs) _ := ⟨_, Hp.made hp hb hR_207⟩
      refine sx_call 62 (by rfl) (by kernel_rfl) ((laws_eqStringS.calls _ A_165 c_166 t_33 A_209 c_210 t_55 _ _ (row_C (hp.at_ 8 _ (by rfl))) (row_len (hp.at_ 8 _ (by rfl))).2 (row_C (hp.at_ 0 _ (by rfl))) (row_len (hp.at_ 0 _ (by rfl))).2 hv_56).mono ?_)
      rintro _ W_213 ⟨rfl, hb⟩
      refine ⟨_, rfl, ?_⟩
      replace hp := hp.below hb.below
      clear hb
      refine sx_rd 63 (.bool (!t_57)) (by rfl) (by kernel_rfl) ?_
      refine sx_nil ?_
      refine ex_then_n ?_
      refine sx_else (!t_57) (by rfl) (show (!t_57) = false from by rw [hc_58]; rfl) ?_
      refine wp_skip ?_
      refine ex_then_n ?_
      refine wp_seq ?_
      refine sx_region ?_
      refine sx_rd 12 (.int .i64 1) (by rfl) (by kernel_rfl) ?_
      refine sx_nil ?_
      refine ex_then_n ?_
      refine wp_seq ?_
      refine sx_region ?_
      refine sx_rd 64 (.agg #[.slice A_150 t_27.length c_151, .slice A_153 t_28.length c_154, .slice A_156 t_29.length c_157, .int .i64 t_30, .int .i64 t_31]) (by rfl) (ldn (t := 29) (p := (.tmp 8)) (by rfl) (by rfl) (by kernel_rfl) (by kernel_rfl) (by kernel_rfl) (hp.at_ 9 _ (by rfl))) ?_
      refine sx_rd 65 (.int .i64 1) (by rfl) (by kernel_rfl) ?_
      refine sx_call 66 (by rfl) (by kernel_rfl) ((laws_markGame.calls _ F_152 (.slice A_150 t_27.length c_151) t_27 F_155 (.slice A_153 t_28.length c_154) t_28 F_158 (.slice A_156 t_29.length c_157) t_29 t_30 t_31 1 _ _ _ _ w _ (hc2 _ (hp.tail.tail.tail.tail.tail.tail.tail.tail.tail.tail.tail.tail.tail.tail.tail.tail.tail.tail.tail.tail.tail.tail)) (row_R (hp.at_ 10 _ (by rfl))) (fun k_ a_ b_ => hp.ap 10 11 _ _ (by decide) (by rfl) (by rfl) k_ a_ b_) (row_R (hp.at_ 11 _ (by rfl))) (fun k_ a_ b_ => hp.ap 11 10 _ _ (by decide) (by rfl) (by rfl) k_ a_ b_) (row_R (hp.at_ 12 _ (by rfl))) hv_59).mono ?_)
      rintro _ W_222 ⟨rfl, hR_214, hR_215, hR_216, hB_217, hK_218⟩
      refine ⟨_, rfl, ?_⟩
      have hp := (hp.take [10, 11, 12, 0, 1, 2, 3, 4, 5, 6, 7, 8, 9, 13, 14, 15, 16, 17, 18, 19, 20, 21] 22 (by decide) (by simp))
      obtain ⟨F_219, F_220, F_221, hp⟩ : ∃ F_219 F_220 F_221, Hp w (row k59 59 w.heap.size (.slice A_150 t_27.length c_151) t_61 F_219 :: row k59 59 w.heap.size (.slice A_153 t_28.length c_154) t_62 F_220 :: row (Kd.int .i64) 3 w.heap.size (.slice A_156 t_29.length c_157) t_63 F_221 :: row Kd.string 9 w.heap.size (.slice A_209 t_55.length c_210) t_55 F_211 :: row k59 59 w.heap.size (.slice A_196 t_46.length c_197) t_46 F_198 :: row k59 59 w.heap.size (.slice A_199 t_47.length c_200) t_47 F_201 :: row (Kd.int .i64) 3 w.heap.size (.slice A_202 t_48.length c_203) t_48 F_204 :: blk g_185 #[.slice A_175 t_35.length c_176, .slice A_178 t_36.length c_179, .slice A_181 t_37.length c_182, .int .i64 t_38, .int .i64 t_39] 29 :: row k59 59 w.heap.size (.slice A_175 t_35.length c_176) t_35 F_177 :: row k59 59 w.heap.size (.slice A_178 t_36.length c_179) t_36 F_180 :: row (Kd.int .i64) 3 w.heap.size (.slice A_181 t_37.length c_182) t_37 F_183 :: row Kd.string 9 w.heap.size (.slice A_165 t_33.length c_166) t_33 F_167 :: blk g_160 #[.slice A_150 t_27.length c_151, .slice A_153 t_28.length c_154, .slice A_156 t_29.length c_157, .int .i64 t_30, .int .i64 t_31] 29 :: blk g_141 #[.slice A_131 t_20.length c_132, .slice A_134 t_21.length c_135, .slice A_137 t_22.length c_138, .int .i64 t_23, .int .i64 t_24] 29 :: row k59 59 w.heap.size (.slice A_131 t_20.length c_132) t_20 F_133 :: row k59 59 w.heap.size (.slice A_134 t_21.length c_135) t_21 F_136 :: row (Kd.int .i64) 3 w.heap.size (.slice A_137 t_22.length c_138) t_22 F_139 :: row Kd.string 9 w.heap.size (.slice A_121 t_18.length c_122) t_18 F_123 :: row k59 59 w.heap.size (.slice A_109 t_12.length c_110) t_12 F_111 :: row k59 59 w.heap.size (.slice A_112 t_13.length c_113) t_13 F_114 :: row (Kd.int .i64) 3 w.heap.size (.slice A_115 t_14.length c_116) t_14 F_117 :: blk g_3 #[.slice A0_0 l0_0.length c0_0, .slice A0_1 l0_1.length c0_1, .slice A0_2 l0_2.length c0_2, .int .i64 a0_3, .int .i64 a0_4] 25 :: cs) _ := ⟨_, _, _, Hp.marked3 hp hB_217 hK_218 rfl rfl rfl hR_214 hR_215 hR_216⟩
      obtain ⟨hn_223, -⟩ := row_len (hp.at_ 0 _ (by rfl))
      rw [hn_223] at hp
      try rw [hn_223]
      obtain ⟨hn_224, -⟩ := row_len (hp.at_ 1 _ (by rfl))
      rw [hn_224] at hp
      try rw [hn_224]
      obtain ⟨hn_225, -⟩ := row_len (hp.at_ 2 _ (by rfl))
      rw [hn_225] at hp
      try rw [hn_225]
      refine sx_rd 12 (.int .i64 t_60) (by rfl) (by kernel_rfl) ?_
      refine sx_nil ?_
      refine ex_then_n ?_
      refine wp_seq ?_
      refine sx_region ?_
      refine sx_rd 67 (.slice A_165 t_33.length c_166) (by rfl) (by kernel_rfl) ?_
      refine sx_rd 68 (.int .i64 t_60) (by rfl) (by kernel_rfl) ?_
      refine sx_call 69 (by rfl) (by kernel_rfl) ((laws_markStringS.calls _ F_167 (.slice A_165 t_33.length c_166) t_33 t_60 _ _ w _ (hc2 _ (hp.tail.tail.tail.tail.tail.tail.tail.tail.tail.tail.tail.tail.tail.tail.tail.tail.tail.tail.tail.tail.tail.tail)) (row_R (hp.at_ 11 _ (by rfl))) hv_64).mono ?_)
      rintro _ W_230 ⟨rfl, hR_226, hB_227, hK_228⟩
      refine ⟨_, rfl, ?_⟩
      have hp := (hp.take [11, 0, 1, 2, 3, 4, 5, 6, 7, 8, 9, 10, 12, 13, 14, 15, 16, 17, 18, 19, 20, 21] 22 (by decide) (by simp))
      obtain ⟨F_229, hp⟩ : ∃ F_229, Hp w (row Kd.string 9 w.heap.size (.slice A_165 t_33.length c_166) t_66 F_229 :: row k59 59 w.heap.size (.slice A_150 t_61.length c_151) t_61 F_219 :: row k59 59 w.heap.size (.slice A_153 t_62.length c_154) t_62 F_220 :: row (Kd.int .i64) 3 w.heap.size (.slice A_156 t_63.length c_157) t_63 F_221 :: row Kd.string 9 w.heap.size (.slice A_209 t_55.length c_210) t_55 F_211 :: row k59 59 w.heap.size (.slice A_196 t_46.length c_197) t_46 F_198 :: row k59 59 w.heap.size (.slice A_199 t_47.length c_200) t_47 F_201 :: row (Kd.int .i64) 3 w.heap.size (.slice A_202 t_48.length c_203) t_48 F_204 :: blk g_185 #[.slice A_175 t_35.length c_176, .slice A_178 t_36.length c_179, .slice A_181 t_37.length c_182, .int .i64 t_38, .int .i64 t_39] 29 :: row k59 59 w.heap.size (.slice A_175 t_35.length c_176) t_35 F_177 :: row k59 59 w.heap.size (.slice A_178 t_36.length c_179) t_36 F_180 :: row (Kd.int .i64) 3 w.heap.size (.slice A_181 t_37.length c_182) t_37 F_183 :: blk g_160 #[.slice A_150 t_61.length c_151, .slice A_153 t_62.length c_154, .slice A_156 t_63.length c_157, .int .i64 t_30, .int .i64 t_31] 29 :: blk g_141 #[.slice A_131 t_20.length c_132, .slice A_134 t_21.length c_135, .slice A_137 t_22.length c_138, .int .i64 t_23, .int .i64 t_24] 29 :: row k59 59 w.heap.size (.slice A_131 t_20.length c_132) t_20 F_133 :: row k59 59 w.heap.size (.slice A_134 t_21.length c_135) t_21 F_136 :: row (Kd.int .i64) 3 w.heap.size (.slice A_137 t_22.length c_138) t_22 F_139 :: row Kd.string 9 w.heap.size (.slice A_121 t_18.length c_122) t_18 F_123 :: row k59 59 w.heap.size (.slice A_109 t_12.length c_110) t_12 F_111 :: row k59 59 w.heap.size (.slice A_112 t_13.length c_113) t_13 F_114 :: row (Kd.int .i64) 3 w.heap.size (.slice A_115 t_14.length c_116) t_14 F_117 :: blk g_3 #[.slice A0_0 l0_0.length c0_0, .slice A0_1 l0_1.length c0_1, .slice A0_2 l0_2.length c0_2, .int .i64 a0_3, .int .i64 a0_4] 25 :: cs) _ := ⟨_, Hp.marked1 hp hB_227 hK_228 rfl hR_226⟩
      obtain ⟨hn_231, -⟩ := row_len (hp.at_ 0 _ (by rfl))
      rw [hn_231] at hp
      try rw [hn_231]
      refine sx_rd 12 (.int .i64 t_65) (by rfl) (by kernel_rfl) ?_
      refine sx_nil ?_
      refine ex_then_n ?_
      refine wp_seq ?_
      refine wp_seq ?_
      refine sx_region ?_
      refine sx_rd 70 (.int .i64 t_65) (by rfl) (by kernel_rfl) ?_
      refine sx_rd 71 (.bool false) (by rfl) (bv (decide_eq_false hc_67) (by kernel_rfl)) ?_
      refine sx_rd 72 (.bool false) (by rfl) (by kernel_rfl) ?_
      refine sx_want (by rfl) ?_
      refine sx_rd 73 (.agg #[.slice A_175 t_35.length c_176, .slice A_178 t_36.length c_179, .slice A_181 t_37.length c_182, .int .i64 t_38, .int .i64 t_39]) (by rfl) (ldn (t := 29) (p := (.tmp 10)) (by rfl) (by rfl) (by kernel_rfl) (by kernel_rfl) (by kernel_rfl) (hp.at_ 8 _ (by rfl))) ?_
      refine sx_want (by rfl) ?_
      refine sx_rd 74 (.agg #[.slice A_131 t_20.length c_132, .slice A_134 t_21.length c_135, .slice A_137 t_22.length c_138, .int .i64 t_23, .int .i64 t_24]) (by rfl) (ldn (t := 29) (p := (.tmp 6)) (by rfl) (by rfl) (by kernel_rfl) (by kernel_rfl) (by kernel_rfl) (hp.at_ 13 _ (by rfl))) ?_
      refine sx_want (by rfl) ?_
      refine sx_call 75 (by rfl) (by kernel_rfl) ((laws_eqGame.calls _ A_175 c_176 t_35 A_178 c_179 t_36 A_181 c_182 t_37 t_38 t_39 A_131 c_132 t_20 A_134 c_135 t_21 A_137 c_138 t_22 t_23 t_24 _ _ (row_C (hp.at_ 9 _ (by rfl))) (row_len (hp.at_ 9 _ (by rfl))).2 (row_C (hp.at_ 10 _ (by rfl))) (row_len (hp.at_ 10 _ (by rfl))).2 (row_C (hp.at_ 11 _ (by rfl))) (row_len (hp.at_ 11 _ (by rfl))).2 (row_C (hp.at_ 14 _ (by rfl))) (row_len (hp.at_ 14 _ (by rfl))).2 (row_C (hp.at_ 15 _ (by rfl))) (row_len (hp.at_ 15 _ (by rfl))).2 (row_C (hp.at_ 16 _ (by rfl))) (row_len (hp.at_ 16 _ (by rfl))).2 hv_68).mono ?_)
      rintro _ W_232 ⟨rfl, hb⟩
      refine ⟨_, rfl, ?_⟩
      replace hp := hp.below hb
      clear hb
      refine sx_want (by rfl) ?_
      refine sx_rd 76 (.bool false) (by rfl) (bv (show (!t_69) = false from by rw [hc_70]; rfl) (by kernel_rfl)) ?_
      refine sx_rd 77 (.bool false) (by rfl) (by kernel_rfl) ?_
      refine sx_rd 78 (.bool false) (by rfl) (by kernel_rfl) ?_
      refine sx_want (by rfl) ?_
      refine sx_rd 79 (.bool t_40) (by rfl) (by kernel_rfl) ?_
      refine sx_want (by rfl) ?_
      refine sx_rd 80 (.bool t_25) (by rfl) (by kernel_rfl) ?_
      refine sx_want (by rfl) ?_
      refine sx_rd 81 (.bool false) (by rfl) (bv (Bool.eq_false_iff.mpr hc_44) (by kernel_rfl)) ?_
      refine sx_rd 82 (.bool false) (by rfl) (by kernel_rfl) ?_
      refine sx_nil ?_
      refine ex_then_n ?_
      refine sx_else false (by rfl) rfl ?_
      refine wp_skip ?_
      refine ex_then_n ?_
      refine wp_seq ?_
      refine sx_region ?_
      refine sx_rd 13 (.int .i64 1) (by rfl) (by kernel_rfl) ?_
      refine sx_nil ?_
      refine ex_then_n ?_
      refine wp_seq ?_
      refine sx_region ?_
      refine sx_rd 83 (.agg #[.slice A_175 t_35.length c_176, .slice A_178 t_36.length c_179, .slice A_181 t_37.length c_182, .int .i64 t_38, .int .i64 t_39]) (by rfl) (ldn (t := 29) (p := (.tmp 10)) (by rfl) (by rfl) (by kernel_rfl) (by kernel_rfl) (by kernel_rfl) (hp.at_ 8 _ (by rfl))) ?_
      refine sx_rd 84 (.int .i64 1) (by rfl) (by kernel_rfl) ?_
      refine sx_call 85 (by rfl) (by kernel_rfl) ((laws_markGame.calls _ F_177 (.slice A_175 t_35.length c_176) t_35 F_180 (.slice A_178 t_36.length c_179) t_36 F_183 (.slice A_181 t_37.length c_182) t_37 t_38 t_39 1 _ _ _ _ w _ (hc2 _ (hp.tail.tail.tail.tail.tail.tail.tail.tail.tail.tail.tail.tail.tail.tail.tail.tail.tail.tail.tail.tail.tail.tail)) (row_R (hp.at_ 9 _ (by rfl))) (fun k_ a_ b_ => hp.ap 9 10 _ _ (by decide) (by rfl) (by rfl) k_ a_ b_) (row_R (hp.at_ 10 _ (by rfl))) (fun k_ a_ b_ => hp.ap 10 9 _ _ (by decide) (by rfl) (by rfl) k_ a_ b_) (row_R (hp.at_ 11 _ (by rfl))) hv_71).mono ?_)
      rintro _ W_241 ⟨rfl, hR_233, hR_234, hR_235, hB_236, hK_237⟩
      refine ⟨_, rfl, ?_⟩
      have hp := (hp.take [9, 10, 11, 0, 1, 2, 3, 4, 5, 6, 7, 8, 12, 13, 14, 15, 16, 17, 18, 19, 20, 21] 22 (by decide) (by simp))
      obtain ⟨F_238, F_239, F_240, hp⟩ : ∃ F_238 F_239 F_240, Hp w (row k59 59 w.heap.size (.slice A_175 t_35.length c_176) t_73 F_238 :: row k59 59 w.heap.size (.slice A_178 t_36.length c_179) t_74 F_239 :: row (Kd.int .i64) 3 w.heap.size (.slice A_181 t_37.length c_182) t_75 F_240 :: row Kd.string 9 w.heap.size (.slice A_165 t_66.length c_166) t_66 F_229 :: row k59 59 w.heap.size (.slice A_150 t_61.length c_151) t_61 F_219 :: row k59 59 w.heap.size (.slice A_153 t_62.length c_154) t_62 F_220 :: row (Kd.int .i64) 3 w.heap.size (.slice A_156 t_63.length c_157) t_63 F_221 :: row Kd.string 9 w.heap.size (.slice A_209 t_55.length c_210) t_55 F_211 :: row k59 59 w.heap.size (.slice A_196 t_46.length c_197) t_46 F_198 :: row k59 59 w.heap.size (.slice A_199 t_47.length c_200) t_47 F_201 :: row (Kd.int .i64) 3 w.heap.size (.slice A_202 t_48.length c_203) t_48 F_204 :: blk g_185 #[.slice A_175 t_35.length c_176, .slice A_178 t_36.length c_179, .slice A_181 t_37.length c_182, .int .i64 t_38, .int .i64 t_39] 29 :: blk g_160 #[.slice A_150 t_61.length c_151, .slice A_153 t_62.length c_154, .slice A_156 t_63.length c_157, .int .i64 t_30, .int .i64 t_31] 29 :: blk g_141 #[.slice A_131 t_20.length c_132, .slice A_134 t_21.length c_135, .slice A_137 t_22.length c_138, .int .i64 t_23, .int .i64 t_24] 29 :: row k59 59 w.heap.size (.slice A_131 t_20.length c_132) t_20 F_133 :: row k59 59 w.heap.size (.slice A_134 t_21.length c_135) t_21 F_136 :: row (Kd.int .i64) 3 w.heap.size (.slice A_137 t_22.length c_138) t_22 F_139 :: row Kd.string 9 w.heap.size (.slice A_121 t_18.length c_122) t_18 F_123 :: row k59 59 w.heap.size (.slice A_109 t_12.length c_110) t_12 F_111 :: row k59 59 w.heap.size (.slice A_112 t_13.length c_113) t_13 F_114 :: row (Kd.int .i64) 3 w.heap.size (.slice A_115 t_14.length c_116) t_14 F_117 :: blk g_3 #[.slice A0_0 l0_0.length c0_0, .slice A0_1 l0_1.length c0_1, .slice A0_2 l0_2.length c0_2, .int .i64 a0_3, .int .i64 a0_4] 25 :: cs) _ := ⟨_, _, _, Hp.marked3 hp hB_236 hK_237 rfl rfl rfl hR_233 hR_234 hR_235⟩
      obtain ⟨hn_242, -⟩ := row_len (hp.at_ 0 _ (by rfl))
      rw [hn_242] at hp
      try rw [hn_242]
      obtain ⟨hn_243, -⟩ := row_len (hp.at_ 1 _ (by rfl))
      rw [hn_243] at hp
      try rw [hn_243]
      obtain ⟨hn_244, -⟩ := row_len (hp.at_ 2 _ (by rfl))
      rw [hn_244] at hp
      try rw [hn_244]
      refine sx_rd 13 (.int .i64 t_72) (by rfl) (by kernel_rfl) ?_
      refine sx_nil ?_
      refine ex_then_n ?_
      refine wp_seq ?_
      refine sx_region ?_
      refine sx_rd 14 (.int .i64 1) (by rfl) (by kernel_rfl) ?_
      refine sx_nil ?_
      refine ex_then_n ?_
      refine wp_seq ?_
      refine sx_region ?_
      refine sx_rd 86 (.agg #[.slice A_175 t_73.length c_176, .slice A_178 t_74.length c_179, .slice A_181 t_75.length c_182, .int .i64 t_38, .int .i64 t_39]) (by rfl) (ldn (t := 29) (p := (.tmp 10)) (by rfl) (by rfl) (by kernel_rfl) (by kernel_rfl) (by kernel_rfl) (hp.at_ 11 _ (by rfl))) ?_
      refine sx_rd 87 (.int .i64 1) (by rfl) (by kernel_rfl) ?_
      refine sx_call 88 (by rfl) (by kernel_rfl) ((laws_heldGame.calls _ A_175 c_176 t_73 A_178 c_179 t_74 A_181 c_182 t_75 t_38 t_39 1 _ _ (row_C (hp.at_ 0 _ (by rfl))) (row_len (hp.at_ 0 _ (by rfl))).2 (row_C (hp.at_ 1 _ (by rfl))) (row_len (hp.at_ 1 _ (by rfl))).2 (row_C (hp.at_ 2 _ (by rfl))) (row_len (hp.at_ 2 _ (by rfl))).2 hv_76).mono ?_)
      rintro _ W_245 ⟨rfl, hb⟩
      refine ⟨_, rfl, ?_⟩
      replace hp := hp.below hb
      clear hb
      refine sx_rd 14 (.int .i64 t_77) (by rfl) (by kernel_rfl) ?_
      refine sx_nil ?_
      refine ex_then_n ?_
      refine wp_seq ?_
      refine wp_seq ?_
      refine sx_region ?_
      refine sx_rd 89 (.int .i64 t_77) (by rfl) (by kernel_rfl) ?_
      refine sx_rd 90 (.bool (decide (t_77 < 0))) (by rfl) (by kernel_rfl) ?_
      refine sx_nil ?_
      refine ex_then_n ?_
      refine sx_else (decide (t_77 < 0)) (by rfl) (decide_eq_false hc_78) ?_
      refine wp_skip ?_
      refine ex_then_n ?_
      refine wp_seq ?_
      refine wp_seq ?_
      refine sx_region ?_
      refine sx_rd 91 (.int .i64 t_77) (by rfl) (by kernel_rfl) ?_
      refine sx_rd 92 (.int .i64 t_72) (by rfl) (by kernel_rfl) ?_
      refine sx_rd 93 (.bool (t_77 != t_72)) (by rfl) (by kernel_rfl) ?_
      refine sx_nil ?_
      refine ex_then_n ?_
      refine sx_else (t_77 != t_72) (by rfl) (bne_eq_false_iff_eq.mpr hc_79) ?_
      refine wp_skip ?_
      refine ex_then_n ?_
      refine wp_seq ?_
      refine sx_region ?_
      refine sx_rd 95 (.agg #[.slice A0_0 l0_0.length c0_0, .slice A0_1 l0_1.length c0_1, .slice A0_2 l0_2.length c0_2, .int .i64 a0_3, .int .i64 a0_4]) (by rfl) (ldn (t := 25) (p := (.tmp 2)) (by rfl) (by rfl) (by kernel_rfl) (by kernel_rfl) (by kernel_rfl) (hp.at_ 21 _ (by rfl))) ?_
      refine sx_call 96 (by rfl) (by kernel_rfl) ((laws_toGame.calls _ A0_0 c0_0 l0_0 A0_1 c0_1 l0_1 A0_2 c0_2 l0_2 a0_3 a0_4 _ _ _ _ _ _ (hC0_0 _ hp.tail.tail.tail.tail.tail.tail.tail.tail.tail.tail.tail.tail.tail.tail.tail.tail.tail.tail.tail.tail.tail.tail) hc0_0 (hC0_1 _ hp.tail.tail.tail.tail.tail.tail.tail.tail.tail.tail.tail.tail.tail.tail.tail.tail.tail.tail.tail.tail.tail.tail) hc0_1 (hC0_2 _ hp.tail.tail.tail.tail.tail.tail.tail.tail.tail.tail.tail.tail.tail.tail.tail.tail.tail.tail.tail.tail.tail.tail) hc0_2 hv_80).mono ?_)
      rintro _ W_261 ⟨v_249, v_250, v_251, rfl, hR_246, hR_247, hR_248, hb⟩
      refine ⟨_, rfl, ?_⟩
      obtain ⟨A_252, c_253, rfl, hcc_c_253, _⟩ := Kd.R_reads hR_246
      obtain ⟨A_255, c_256, rfl, hcc_c_256, _⟩ := Kd.R_reads hR_247
      obtain ⟨A_258, c_259, rfl, hcc_c_259, _⟩ := Kd.R_reads hR_248
      obtain ⟨F_254, F_257, F_260, hp⟩ : ∃ F_254 F_257 F_260, Hp w (row k59 59 w.heap.size (.slice A_252 t_81.length c_253) t_81 F_254 :: row k59 59 w.heap.size (.slice A_255 t_82.length c_256) t_82 F_257 :: row (Kd.int .i64) 3 w.heap.size (.slice A_258 t_83.length c_259) t_83 F_260 :: row k59 59 w.heap.size (.slice A_175 t_73.length c_176) t_73 F_238 :: row k59 59 w.heap.size (.slice A_178 t_74.length c_179) t_74 F_239 :: row (Kd.int .i64) 3 w.heap.size (.slice A_181 t_75.length c_182) t_75 F_240 :: row Kd.string 9 w.heap.size (.slice A_165 t_66.length c_166) t_66 F_229 :: row k59 59 w.heap.size (.slice A_150 t_61.length c_151) t_61 F_219 :: row k59 59 w.heap.size (.slice A_153 t_62.length c_154) t_62 F_220 :: row (Kd.int .i64) 3 w.heap.size (.slice A_156 t_63.length c_157) t_63 F_221 :: row Kd.string 9 w.heap.size (.slice A_209 t_55.length c_210) t_55 F_211 :: row k59 59 w.heap.size (.slice A_196 t_46.length c_197) t_46 F_198 :: row k59 59 w.heap.size (.slice A_199 t_47.length c_200) t_47 F_201 :: row (Kd.int .i64) 3 w.heap.size (.slice A_202 t_48.length c_203) t_48 F_204 :: blk g_185 #[.slice A_175 t_73.length c_176, .slice A_178 t_74.length c_179, .slice A_181 t_75.length c_182, .int .i64 t_38, .int .i64 t_39] 29 :: blk g_160 #[.slice A_150 t_61.length c_151, .slice A_153 t_62.length c_154, .slice A_156 t_63.length c_157, .int .i64 t_30, .int .i64 t_31] 29 :: blk g_141 #[.slice A_131 t_20.length c_132, .slice A_134 t_21.length c_135, .slice A_137 t_22.length c_138, .int .i64 t_23, .int .i64 t_24] 29 :: row k59 59 w.heap.size (.slice A_131 t_20.length c_132) t_20 F_133 :: row k59 59 w.heap.size (.slice A_134 t_21.length c_135) t_21 F_136 :: row (Kd.int .i64) 3 w.heap.size (.slice A_137 t_22.length c_138) t_22 F_139 :: row Kd.string 9 w.heap.size (.slice A_121 t_18.length c_122) t_18 F_123 :: row k59 59 w.heap.size (.slice A_109 t_12.length c_110) t_12 F_111 :: row k59 59 w.heap.size (.slice A_112 t_13.length c_113) t_13 F_114 :: row (Kd.int .i64) 3 w.heap.size (.slice A_115 t_14.length c_116) t_14 F_117 :: blk g_3 #[.slice A0_0 l0_0.length c0_0, .slice A0_1 l0_1.length c0_1, .slice A0_2 l0_2.length c0_2, .int .i64 a0_3, .int .i64 a0_4] 25 :: cs) _ := ⟨_, _, _, Hp.made3 hp hb rfl rfl rfl hR_246 hR_247 hR_248 (ok_apart hR_246 (fun k hk => hk)) (typed_apart hR_246 hR_248 (by decide)) (typed_apart hR_247 hR_248 (by decide))⟩
      refine sx_rd 97 (.slice A1 l1.length c1) (by rfl) (by kernel_rfl) ?_
      refine sx_call 98 (by rfl) (by kernel_rfl) ((laws_toStringS.calls _ A1 c1 l1 _ _ (hC1 _ hp.tail.tail.tail.tail.tail.tail.tail.tail.tail.tail.tail.tail.tail.tail.tail.tail.tail.tail.tail.tail.tail.tail.tail.tail.tail) hc1 hv_86).mono ?_)
      rintro _ W_267 ⟨v_263, rfl, hR_262, hb⟩
      refine ⟨_, rfl, ?_⟩
      obtain ⟨A_264, c_265, rfl, hcc_c_265, _⟩ := Kd.R_reads hR_262
      obtain ⟨F_266, hp⟩ : ∃ F, Hp w (row Kd.string 9 w.heap.size (.slice A_264 t_87.length c_265) t_87 F :: row k59 59 w.heap.size (.slice A_252 t_81.length c_253) t_81 F_254 :: row k59 59 w.heap.size (.slice A_255 t_82.length c_256) t_82 F_257 :: row (Kd.int .i64) 3 w.heap.size (.slice A_258 t_83.length c_259) t_83 F_260 :: row k59 59 w.heap.size (.slice A_175 t_73.length c_176) t_73 F_238 :: row k59 59 w.heap.size (.slice A_178 t_74.length c_179) t_74 F_239 :: row (Kd.int .i64) 3 w.heap.size (.slice A_181 t_75.length c_182) t_75 F_240 :: row Kd.string 9 w.heap.size (.slice A_165 t_66.length c_166) t_66 F_229 :: row k59 59 w.heap.size (.slice A_150 t_61.length c_151) t_61 F_219 :: row k59 59 w.heap.size (.slice A_153 t_62.length c_154) t_62 F_220 :: row (Kd.int .i64) 3 w.heap.size (.slice A_156 t_63.length c_157) t_63 F_221 :: row Kd.string 9 w.heap.size (.slice A_209 t_55.length c_210) t_55 F_211 :: row k59 59 w.heap.size (.slice A_196 t_46.length c_197) t_46 F_198 :: row k59 59 w.heap.size (.slice A_199 t_47.length c_200) t_47 F_201 :: row (Kd.int .i64) 3 w.heap.size (.slice A_202 t_48.length c_203) t_48 F_204 :: blk g_185 #[.slice A_175 t_73.length c_176, .slice A_178 t_74.length c_179, .slice A_181 t_75.length c_182, .int .i64 t_38, .int .i64 t_39] 29 :: blk g_160 #[.slice A_150 t_61.length c_151, .slice A_153 t_62.length c_154, .slice A_156 t_63.length c_157, .int .i64 t_30, .int .i64 t_31] 29 :: blk g_141 #[.slice A_131 t_20.length c_132, .slice A_134 t_21.length c_135, .slice A_137 t_22.length c_138, .int .i64 t_23, .int .i64 t_24] 29 :: row k59 59 w.heap.size (.slice A_131 t_20.length c_132) t_20 F_133 :: row k59 59 w.heap.size (.slice A_134 t_21.length c_135) t_21 F_136 :: row (Kd.int .i64) 3 w.heap.size (.slice A_137 t_22.length c_138) t_22 F_139 :: row Kd.string 9 w.heap.size (.slice A_121 t_18.length c_122) t_18 F_123 :: row k59 59 w.heap.size (.slice A_109 t_12.length c_110) t_12 F_111 :: row k59 59 w.heap.size (.slice A_112 t_13.length c_113) t_13 F_114 :: row (Kd.int .i64) 3 w.heap.size (.slice A_115 t_14.length c_116) t_14 F_117 :: blk g_3 #[.slice A0_0 l0_0.length c0_0, .slice A0_1 l0_1.length c0_1, .slice A0_2 l0_2.length c0_2, .int .i64 a0_3, .int .i64 a0_4] 25 :: cs) _ := ⟨_, Hp.made hp hb hR_262⟩
      refine sx_call 99 (by rfl) (by kernel_rfl) ((impl_PlayMoves.calls A_252 c_253 t_81 A_255 c_256 t_82 A_258 c_259 t_83 t_84 t_85 A_264 c_265 t_87 _ _ _ _ _ _ _ (row_C (hp.at_ 1 _ (by rfl))) (row_len (hp.at_ 1 _ (by rfl))).2 (row_C (hp.at_ 2 _ (by rfl))) (row_len (hp.at_ 2 _ (by rfl))).2 (row_C (hp.at_ 3 _ (by rfl))) (row_len (hp.at_ 3 _ (by rfl))).2 (row_C (hp.at_ 0 _ (by rfl))) (row_len (hp.at_ 0 _ (by rfl))).2 hv_88).mono ?_)
      rintro _ W_283 ⟨v_271, v_272, v_273, rfl, hR_268, hR_269, hR_270, hb⟩
      refine ⟨_, rfl, ?_⟩
      obtain ⟨A_274, c_275, rfl, hcc_c_275, _⟩ := Kd.R_reads hR_268
      obtain ⟨A_277, c_278, rfl, hcc_c_278, _⟩ := Kd.R_reads hR_269
      obtain ⟨A_280, c_281, rfl, hcc_c_281, _⟩ := Kd.R_reads hR_270
      obtain ⟨F_276, F_279, F_282, hp⟩ : ∃ F_276 F_279 F_282, Hp w (row k59 59 w.heap.size (.slice A_274 t_89.length c_275) t_89 F_276 :: row k59 59 w.heap.size (.slice A_277 t_90.length c_278) t_90 F_279 :: row (Kd.int .i64) 3 w.heap.size (.slice A_280 t_91.length c_281) t_91 F_282 :: row Kd.string 9 w.heap.size (.slice A_264 t_87.length c_265) t_87 F_266 :: row k59 59 w.heap.size (.slice A_252 t_81.length c_253) t_81 F_254 :: row k59 59 w.heap.size (.slice A_255 t_82.length c_256) t_82 F_257 :: row (Kd.int .i64) 3 w.heap.size (.slice A_258 t_83.length c_259) t_83 F_260 :: row k59 59 w.heap.size (.slice A_175 t_73.length c_176) t_73 F_238 :: row k59 59 w.heap.size (.slice A_178 t_74.length c_179) t_74 F_239 :: row (Kd.int .i64) 3 w.heap.size (.slice A_181 t_75.length c_182) t_75 F_240 :: row Kd.string 9 w.heap.size (.slice A_165 t_66.length c_166) t_66 F_229 :: row k59 59 w.heap.size (.slice A_150 t_61.length c_151) t_61 F_219 :: row k59 59 w.heap.size (.slice A_153 t_62.length c_154) t_62 F_220 :: row (Kd.int .i64) 3 w.heap.size (.slice A_156 t_63.length c_157) t_63 F_221 :: row Kd.string 9 w.heap.size (.slice A_209 t_55.length c_210) t_55 F_211 :: row k59 59 w.heap.size (.slice A_196 t_46.length c_197) t_46 F_198 :: row k59 59 w.heap.size (.slice A_199 t_47.length c_200) t_47 F_201 :: row (Kd.int .i64) 3 w.heap.size (.slice A_202 t_48.length c_203) t_48 F_204 :: blk g_185 #[.slice A_175 t_73.length c_176, .slice A_178 t_74.length c_179, .slice A_181 t_75.length c_182, .int .i64 t_38, .int .i64 t_39] 29 :: blk g_160 #[.slice A_150 t_61.length c_151, .slice A_153 t_62.length c_154, .slice A_156 t_63.length c_157, .int .i64 t_30, .int .i64 t_31] 29 :: blk g_141 #[.slice A_131 t_20.length c_132, .slice A_134 t_21.length c_135, .slice A_137 t_22.length c_138, .int .i64 t_23, .int .i64 t_24] 29 :: row k59 59 w.heap.size (.slice A_131 t_20.length c_132) t_20 F_133 :: row k59 59 w.heap.size (.slice A_134 t_21.length c_135) t_21 F_136 :: row (Kd.int .i64) 3 w.heap.size (.slice A_137 t_22.length c_138) t_22 F_139 :: row Kd.string 9 w.heap.size (.slice A_121 t_18.length c_122) t_18 F_123 :: row k59 59 w.heap.size (.slice A_109 t_12.length c_110) t_12 F_111 :: row k59 59 w.heap.size (.slice A_112 t_13.length c_113) t_13 F_114 :: row (Kd.int .i64) 3 w.heap.size (.slice A_115 t_14.length c_116) t_14 F_117 :: blk g_3 #[.slice A0_0 l0_0.length c0_0, .slice A0_1 l0_1.length c0_1, .slice A0_2 l0_2.length c0_2, .int .i64 a0_3, .int .i64 a0_4] 25 :: cs) _ := ⟨_, _, _, Hp.made3 hp hb rfl rfl rfl hR_268 hR_269 hR_270 (ok_apart hR_268 (fun k hk => hk)) (typed_apart hR_268 hR_270 (by decide)) (typed_apart hR_269 hR_270 (by decide))⟩
      refine sx_rd 94 (.tuple #[.agg #[.slice A_274 t_89.length c_275, .slice A_277 t_90.length c_278, .slice A_280 t_91.length c_281, .int .i64 t_92, .int .i64 t_93], .bool t_94]) (by rfl) (by kernel_rfl) ?_
      refine sx_rd 100 (.agg #[.slice A_274 t_89.length c_275, .slice A_277 t_90.length c_278, .slice A_280 t_91.length c_281, .int .i64 t_92, .int .i64 t_93]) (by rfl) (by kernel_rfl) ?_
      refine sx_rd 101 (.bool t_94) (by rfl) (by kernel_rfl) ?_
      refine sx_box 15 hp #[.slice none 0 0, .slice none 0 0, .slice none 0 0, .int .i64 0, .int .i64 0] 29 (by rfl) (fun W => by kernel_rfl) ?_
      intro g_284 W_285 hp
      refine sx_store (t := 29) (p := (.tmp 15)) (x := (.tmp 100)) (by rfl) (by rfl) 0 (by rfl) 0 [.slice A_274 t_89.length c_275, .slice A_277 t_90.length c_278, .slice A_280 t_91.length c_281, .int .i64 t_92, .int .i64 t_93] (by rfl) (by rfl) (by kernel_rfl) (by simp [Value.oneCell']) (by show 5 ≤ 5; omega) #[.slice A_274 t_89.length c_275, .slice A_277 t_90.length c_278, .slice A_280 t_91.length c_281, .int .i64 t_92, .int .i64 t_93] (by rfl) hp ?_
      intro W_286 hp; simp only [List.set_cons_succ, List.set_cons_zero] at hp
      refine sx_rd 16 (.bool t_94) (by rfl) (by kernel_rfl) ?_
      refine sx_nil ?_
      refine ex_then_n ?_
      refine wp_seq ?_
      refine wp_seq ?_
      refine sx_region ?_
      refine sx_rd 102 (.agg #[.slice A_274 t_89.length c_275, .slice A_277 t_90.length c_278, .slice A_280 t_91.length c_281, .int .i64 t_92, .int .i64 t_93]) (by rfl) (ldn (t := 29) (p := (.tmp 15)) (by rfl) (by rfl) (by kernel_rfl) (by kernel_rfl) (by kernel_rfl) (hp.at_ 0 _ (by rfl))) ?_
      refine sx_rd 103 (.agg #[.slice A_131 t_20.length c_132, .slice A_134 t_21.length c_135, .slice A_137 t_22.length c_138, .int .i64 t_23, .int .i64 t_24]) (by rfl) (ldn (t := 29) (p := (.tmp 6)) (by rfl) (by rfl) (by kernel_rfl) (by kernel_rfl) (by kernel_rfl) (hp.at_ 21 _ (by rfl))) ?_
      refine sx_call 104 (by rfl) (by kernel_rfl) ((laws_eqGame.calls _ A_274 c_275 t_89 A_277 c_278 t_90 A_280 c_281 t_91 t_92 t_93 A_131 c_132 t_20 A_134 c_135 t_21 A_137 c_138 t_22 t_23 t_24 _ _ (row_C (hp.at_ 1 _ (by rfl))) (row_len (hp.at_ 1 _ (by rfl))).2 (row_C (hp.at_ 2 _ (by rfl))) (row_len (hp.at_ 2 _ (by rfl))).2 (row_C (hp.at_ 3 _ (by rfl))) (row_len (hp.at_ 3 _ (by rfl))).2 (row_C (hp.at_ 22 _ (by rfl))) (row_len (hp.at_ 22 _ (by rfl))).2 (row_C (hp.at_ 23 _ (by rfl))) (row_len (hp.at_ 23 _ (by rfl))).2 (row_C (hp.at_ 24 _ (by rfl))) (row_len (hp.at_ 24 _ (by rfl))).2 hv_95).mono ?_)
      rintro _ W_287 ⟨rfl, hb⟩
      refine ⟨_, rfl, ?_⟩
      replace hp := hp.below hb
      clear hb
      refine sx_rd 105 (.bool false) (by rfl) (bv (show (!t_96) = false from by rw [hc_97]; rfl) (by kernel_rfl)) ?_
      refine sx_rd 106 (.bool false) (by rfl) (by kernel_rfl) ?_
      refine sx_want (by rfl) ?_
      refine sx_rd 107 (.bool t_94) (by rfl) (by kernel_rfl) ?_
      refine sx_want (by rfl) ?_
      refine sx_rd 108 (.bool t_25) (by rfl) (by kernel_rfl) ?_
      refine sx_want (by rfl) ?_
      refine sx_rd 109 (.bool (t_94 != t_25)) (by rfl) (by kernel_rfl) ?_
      refine sx_rd 110 (.bool (t_94 != t_25)) (by rfl) (by kernel_rfl) ?_
      refine sx_nil ?_
      refine ex_then_n ?_
      refine sx_else (t_94 != t_25) (by rfl) (Bool.eq_false_iff.mpr hc_98) ?_
      refine wp_skip ?_
      refine ex_then_n ?_
      refine wp_seq ?_
      refine sx_region ?_
      refine sx_rd 14 (.int .i64 1) (by rfl) (by kernel_rfl) ?_
      refine sx_nil ?_
      refine ex_then_n ?_
      refine wp_seq ?_
      refine sx_region ?_
      refine sx_rd 111 (.agg #[.slice A_175 t_73.length c_176, .slice A_178 t_74.length c_179, .slice A_181 t_75.length c_182, .int .i64 t_38, .int .i64 t_39]) (by rfl) (ldn (t := 29) (p := (.tmp 10)) (by rfl) (by rfl) (by kernel_rfl) (by kernel_rfl) (by kernel_rfl) (hp.at_ 19 _ (by rfl))) ?_
      refine sx_rd 112 (.int .i64 1) (by rfl) (by kernel_rfl) ?_
      refine sx_call 113 (by rfl) (by kernel_rfl) ((laws_heldGame.calls _ A_175 c_176 t_73 A_178 c_179 t_74 A_181 c_182 t_75 t_38 t_39 1 _ _ (row_C (hp.at_ 8 _ (by rfl))) (row_len (hp.at_ 8 _ (by rfl))).2 (row_C (hp.at_ 9 _ (by rfl))) (row_len (hp.at_ 9 _ (by rfl))).2 (row_C (hp.at_ 10 _ (by rfl))) (row_len (hp.at_ 10 _ (by rfl))).2 hv_99).mono ?_)
      rintro _ W_288 ⟨rfl, hb⟩
      refine ⟨_, rfl, ?_⟩
      replace hp := hp.below hb
      clear hb
      refine sx_rd 14 (.int .i64 t_100) (by rfl) (by kernel_rfl) ?_
      refine sx_nil ?_
      refine ex_then_n ?_
      refine wp_seq ?_
      refine wp_seq ?_
      refine sx_region ?_
      refine sx_rd 114 (.int .i64 t_100) (by rfl) (by kernel_rfl) ?_
      refine sx_rd 115 (.bool (decide (t_100 < 0))) (by rfl) (by kernel_rfl) ?_
      refine sx_nil ?_
      refine ex_then_n ?_
      refine sx_else (decide (t_100 < 0)) (by rfl) (decide_eq_false hc_101) ?_
      refine wp_skip ?_
      refine ex_then_n ?_
      refine wp_seq ?_
      refine wp_seq ?_
      refine sx_region ?_
      refine sx_rd 116 (.int .i64 t_100) (by rfl) (by kernel_rfl) ?_
      refine sx_rd 117 (.int .i64 t_72) (by rfl) (by kernel_rfl) ?_
      refine sx_rd 118 (.bool (t_100 != t_72)) (by rfl) (by kernel_rfl) ?_
      refine sx_nil ?_
      refine ex_then_n ?_
      refine sx_else (t_100 != t_72) (by rfl) (bne_eq_false_iff_eq.mpr hc_102) ?_
      refine wp_skip ?_
      refine ex_then_n ?_
      refine wp_seq ?_
      refine sx_region ?_
      refine sx_rd 4 (.bool true) (by rfl) (by kernel_rfl) ?_
      refine sx_nil ?_
      refine ex_then_n ?_
      refine wp_ret ?_
      refine sx_end (.bool true) (res1 4 (by rfl)) ?_
      obtain rfl := Option.some.inj h
      exact ⟨rfl, hc2 _ (hp.tail.tail.tail.tail.tail.tail.tail.tail.tail.tail.tail.tail.tail.tail.tail.tail.tail.tail.tail.tail.tail.tail.tail.tail.tail.tail.tail.tail.tail.tail)⟩
end
end Go.Proofs.YtkjaahmlnbgnjaaGreat.Hd
