-- Printed by hprint.py and laid together by pack.py (this session's programs over the kit's print program). Lean checks it.
import Derived.Test.YtkjaahmlnbgnjaaGreatMSx5
import Derived.Test.YtkjaahmlnbgnjaaGreatMSxL
import Derived.Test.YtkjaahmlnbgnjaaGreatG0
import Derived.Test.YtkjaahmlnbgnjaaGreatG2
import Derived.Test.YtkjaahmlnbgnjaaGreatG3
import Derived.Test.YtkjaahmlnbgnjaaGreatMHeavyI
import Derived.Test.YtkjaahmlnbgnjaaGreatMHeavyS
namespace Go.Proofs.YtkjaahmlnbgnjaaGreat.Hd
section
open Go.RowKit Go.Proofs.YtkjaahmlnbgnjaaGreatW.PrintWords Go.Proofs.YtkjaahmlnbgnjaaGreatW.PrintLast Go.Proofs.YtkjaahmlnbgnjaaGreatW.PrintMore
attribute [local go_sem] max2_int min2_int max_two min_two max_three min_three max_four min_four   -- for this text's walks alone
set_option linter.unusedVariables false
set_option linter.unusedSimpArgs false

def laws_FnExactHeavyLine.f (k : Nat) (l0_0 : List (S_LTile)) (l0_1 : List (S_LTile)) (l0_2 : List Int) (a0_3 : Int) (a0_4 : Int) : Option (Bool) := (laws_szGame.f l0_0 l0_1 l0_2 a0_3 a0_4 1048576).bind fun t549 => (if t549 < 0 then (some true) else ((laws_toGame.f k l0_0 l0_1 l0_2 a0_3 a0_4).bind fun bt550 => ((spec_HeavyLine.f bt550.1 bt550.2.1 bt550.2.2.1 bt550.2.2.2.1 bt550.2.2.2.2).bind fun bt561 => ((laws_toGame.f k l0_0 l0_1 l0_2 a0_3 a0_4).bind fun bt565 => ((impl_HeavyLine.f bt565.1 bt565.2.1 bt565.2.2.1 bt565.2.2.2.1 bt565.2.2.2.2).bind fun bt577 => ((laws_eqStringS.f k bt577.1 bt561.1).bind fun t581 => (if t581 = true then (if (bt577.2 != bt561.2) = true then (none) else ((laws_toGame.f k l0_0 l0_1 l0_2 a0_3 a0_4).bind fun bt582 => ((laws_eqGame.f k bt565.1 bt565.2.1 bt565.2.2.1 bt565.2.2.2.1 bt565.2.2.2.2 bt582.1 bt582.2.1 bt582.2.2.1 bt582.2.2.2.1 bt582.2.2.2.2).bind fun t593 => (if t593 = true then ((laws_markGame.f k bt565.1 bt565.2.1 bt565.2.2.1 bt565.2.2.2.1 bt565.2.2.2.2 1).bind fun bt594 => (if bt594.1 < 0 then (none) else ((laws_eqStringS.f k bt577.1 bt561.1).bind fun t598 => (if t598 = true then ((laws_markStringS.f k bt577.1 1).bind fun bt599 => ((laws_heldStringS.f k bt599.2 1).bind fun t601 => (if t601 < 0 then (none) else (if t601 = bt599.1 then ((laws_toGame.f k l0_0 l0_1 l0_2 a0_3 a0_4).bind fun bt602 => ((impl_HeavyLine.f bt602.1 bt602.2.1 bt602.2.2.1 bt602.2.2.2.1 bt602.2.2.2.2).bind fun bt613 => ((laws_eqStringS.f k bt613.1 bt561.1).bind fun t617 => (if t617 = true then (if (bt613.2 != bt561.2) = true then (none) else ((laws_heldStringS.f k bt599.2 1).bind fun t618 => (if t618 < 0 then (none) else (if t618 = bt599.1 then (some true) else (none))))) else (none))))) else (none))))) else (none))))) else (none))))) else (none))))))))
set_option maxRecDepth 100000 in
set_option maxHeartbeats 40000000 in
theorem laws_FnExactHeavyLine.calls (k : Nat) (A0_0 : Option Addr) (c0_0 : Nat) (l0_0 : List (S_LTile)) (A0_1 : Option Addr) (c0_1 : Nat) (l0_1 : List (S_LTile)) (A0_2 : Option Addr) (c0_2 : Nat) (l0_2 : List Int) (a0_3 : Int) (a0_4 : Int) (r : Bool) (w : World) (hr0_0 : Kd.C k78 w A0_0 l0_0.length l0_0) (hc0_0 : l0_0.length ≤ c0_0) (hr0_1 : Kd.C k78 w A0_1 l0_1.length l0_1) (hc0_1 : l0_1.length ≤ c0_1) (hr0_2 : Kd.C (Kd.int .i64) w A0_2 l0_2.length l0_2) (hc0_2 : l0_2.length ≤ c0_2) (h : laws_FnExactHeavyLine.f k l0_0 l0_1 l0_2 a0_3 a0_4 = some r) :
    Calls Tryz.prog 4 #[.agg #[.slice A0_0 l0_0.length c0_0, .slice A0_1 l0_1.length c0_1, .slice A0_2 l0_2.length c0_2, .int .i64 a0_3, .int .i64 a0_4]] w fun e w' => e = .returned (.bool r) ∧ Below w.heap.size w w' := by
  obtain ⟨cs, hcs⟩ : ∃ cs, cs = [old w w.heap.size] := ⟨_, rfl⟩
  have hp : Hp w cs w := by rw [hcs]; exact Hp.old_start w
  have hc2 : ∀ W, Hp w cs W → Below w.heap.size w W := fun W h => by rw [hcs] at h; exact h.since 0 _ rfl
  have hC0_0 : ∀ W, Hp w cs W → Kd.C k78 W A0_0 l0_0.length l0_0 := fun W h => Kd.C_below hr0_0 (hc2 W h)
  have hC0_1 : ∀ W, Hp w cs W → Kd.C k78 W A0_1 l0_1.length l0_1 := fun W h => Kd.C_below hr0_1 (hc2 W h)
  have hC0_2 : ∀ W, Hp w cs W → Kd.C (Kd.int .i64) W A0_2 l0_2.length l0_2 := fun W h => Kd.C_below hr0_2 (hc2 W h)
  clear hcs
  unfold laws_FnExactHeavyLine.f at h
  obtain ⟨t_2, hv_1, h⟩ := Option.bind_eq_some_iff.mp h
  try dsimp only at h
  refine sx_enter (N := 96) (l := [.agg #[.slice A0_0 l0_0.length c0_0, .slice A0_1 l0_1.length c0_1, .slice A0_2 l0_2.length c0_2, .int .i64 a0_3, .int .i64 a0_4]]) Tryz.func4 rfl rfl rfl ?_
  refine wp_seq ?_
  refine sx_region ?_
  refine sx_box 1 hp #[.slice A0_0 l0_0.length c0_0, .slice A0_1 l0_1.length c0_1, .slice A0_2 l0_2.length c0_2, .int .i64 a0_3, .int .i64 a0_4] 25 (by rfl) (fun W => by kernel_rfl) ?_
  intro g_3 W_4 hp
  refine sx_rd 2 (.bool false) (by rfl) (by kernel_rfl) ?_
  refine sx_nil ?_
  refine ex_then_n ?_
  refine wp_seq ?_
  refine sx_region ?_
  refine sx_rd 3 (.int .i64 1048576) (by rfl) (by kernel_rfl) ?_
  refine sx_nil ?_
  refine ex_then_n ?_
  refine wp_seq ?_
  refine sx_region ?_
  refine sx_rd 14 (.agg #[.slice A0_0 l0_0.length c0_0, .slice A0_1 l0_1.length c0_1, .slice A0_2 l0_2.length c0_2, .int .i64 a0_3, .int .i64 a0_4]) (by rfl) (ldn (t := 25) (p := (.tmp 1)) (by rfl) (by rfl) (by kernel_rfl) (by kernel_rfl) (by kernel_rfl) (hp.at_ 0 _ (by rfl))) ?_
  refine sx_rd 15 (.int .i64 1048576) (by rfl) (by kernel_rfl) ?_
  refine sx_call 16 (by rfl) (by kernel_rfl) ((laws_szGame.calls A0_0 c0_0 l0_0 A0_1 c0_1 l0_1 A0_2 c0_2 l0_2 a0_3 a0_4 1048576 _ _ (hC0_0 _ hp.tail) hc0_0 (hC0_1 _ hp.tail) hc0_1 (hC0_2 _ hp.tail) hc0_2 hv_1).mono ?_)
  rintro _ W_5 ⟨rfl, hb⟩
  refine ⟨_, rfl, ?_⟩
  replace hp := hp.below hb
  clear hb
  refine sx_rd 3 (.int .i64 t_2) (by rfl) (by kernel_rfl) ?_
  refine sx_nil ?_
  refine ex_then_n ?_
  refine wp_seq ?_
  refine wp_seq ?_
  refine sx_region ?_
  refine sx_rd 17 (.int .i64 t_2) (by rfl) (by kernel_rfl) ?_
  refine sx_rd 18 (.bool (decide (t_2 < 0))) (by rfl) (by kernel_rfl) ?_
  refine sx_nil ?_
  refine ex_then_n ?_
  by_cases hc_6 : t_2 < 0
  ·
    rw [if_pos hc_6] at h
    refine sx_then (decide (t_2 < 0)) (by rfl) (decide_eq_true hc_6) ?_
    refine wp_seq ?_
    refine sx_region ?_
    refine sx_rd 2 (.bool true) (by rfl) (by kernel_rfl) ?_
    refine sx_nil ?_
    refine ex_then_n ?_
    refine wp_ret ?_
    refine ex_then_r ?_
    refine sx_end (.bool true) (res1 2 (by rfl)) ?_
    obtain rfl := Option.some.inj h
    exact ⟨rfl, hc2 _ (hp.tail)⟩
  ·
    rw [if_neg hc_6] at h
    obtain ⟨⟨t_8, t_9, t_10, t_11, t_12⟩, hv_7, h⟩ := Option.bind_eq_some_iff.mp h
    try dsimp only at h
    obtain ⟨⟨t_14, t_15⟩, hv_13, h⟩ := Option.bind_eq_some_iff.mp h
    try dsimp only at h
    obtain ⟨⟨t_17, t_18, t_19, t_20, t_21⟩, hv_16, h⟩ := Option.bind_eq_some_iff.mp h
    try dsimp only at h
    obtain ⟨⟨t_23, t_24⟩, hv_22, h⟩ := Option.bind_eq_some_iff.mp h
    try dsimp only at h
    obtain ⟨t_26, hv_25, h⟩ := Option.bind_eq_some_iff.mp h
    try dsimp only at h
    by_cases hc_27 : t_26 = true
    case neg => rw [if_neg hc_27] at h; cases h
    rw [if_pos hc_27] at h
    by_cases hc_28 : (t_24 != t_15) = true
    case pos => rw [if_pos hc_28] at h; cases h
    rw [if_neg hc_28] at h
    obtain ⟨⟨t_30, t_31, t_32, t_33, t_34⟩, hv_29, h⟩ := Option.bind_eq_some_iff.mp h
    try dsimp only at h
    obtain ⟨t_36, hv_35, h⟩ := Option.bind_eq_some_iff.mp h
    try dsimp only at h
    by_cases hc_37 : t_36 = true
    case neg => rw [if_neg hc_37] at h; cases h
    rw [if_pos hc_37] at h
    obtain ⟨⟨t_39, t_40, t_41, t_42⟩, hv_38, h⟩ := Option.bind_eq_some_iff.mp h
    try dsimp only at h
    by_cases hc_43 : t_39 < 0
    case pos => rw [if_pos hc_43] at h; cases h
    rw [if_neg hc_43] at h
    obtain ⟨t_45, hv_44, h⟩ := Option.bind_eq_some_iff.mp h
    try dsimp only at h
    by_cases hc_46 : t_45 = true
    case neg => rw [if_neg hc_46] at h; cases h
    rw [if_pos hc_46] at h
    obtain ⟨⟨t_48, t_49⟩, hv_47, h⟩ := Option.bind_eq_some_iff.mp h
    try dsimp only at h
    obtain ⟨t_51, hv_50, h⟩ := Option.bind_eq_some_iff.mp h
    try dsimp only at h
    by_cases hc_52 : t_51 < 0
    case pos => rw [if_pos hc_52] at h; cases h
    rw [if_neg hc_52] at h
    by_cases hc_53 : t_51 = t_48
    case neg => rw [if_neg hc_53] at h; cases h
    rw [if_pos hc_53] at h
    obtain ⟨⟨t_55, t_56, t_57, t_58, t_59⟩, hv_54, h⟩ := Option.bind_eq_some_iff.mp h
    try dsimp only at h
    obtain ⟨⟨t_61, t_62⟩, hv_60, h⟩ := Option.bind_eq_some_iff.mp h
    try dsimp only at h
    obtain ⟨t_64, hv_63, h⟩ := Option.bind_eq_some_iff.mp h
    try dsimp only at h
    by_cases hc_65 : t_64 = true
    case neg => rw [if_neg hc_65] at h; cases h
    rw [if_pos hc_65] at h
    by_cases hc_66 : (t_62 != t_15) = true
    case pos => rw [if_pos hc_66] at h; cases h
    rw [if_neg hc_66] at h
    obtain ⟨t_68, hv_67, h⟩ := Option.bind_eq_some_iff.mp h
    try dsimp only at h
    by_cases hc_69 : t_68 < 0
    case pos => rw [if_pos hc_69] at h; cases h
    rw [if_neg hc_69] at h
    by_cases hc_70 : t_68 = t_48
    case neg => rw [if_neg hc_70] at h; cases h
    rw [if_pos hc_70] at h
    refine sx_else (decide (t_2 < 0)) (by rfl) (decide_eq_false hc_6) ?_
    refine wp_skip ?_
    refine ex_then_n ?_
    refine wp_seq ?_
    refine sx_region ?_
    refine sx_rd 20 (.agg #[.slice A0_0 l0_0.length c0_0, .slice A0_1 l0_1.length c0_1, .slice A0_2 l0_2.length c0_2, .int .i64 a0_3, .int .i64 a0_4]) (by rfl) (ldn (t := 25) (p := (.tmp 1)) (by rfl) (by rfl) (by kernel_rfl) (by kernel_rfl) (by kernel_rfl) (hp.at_ 0 _ (by rfl))) ?_
    refine sx_call 21 (by rfl) (by kernel_rfl) ((laws_toGame.calls _ A0_0 c0_0 l0_0 A0_1 c0_1 l0_1 A0_2 c0_2 l0_2 a0_3 a0_4 _ _ _ _ _ _ (hC0_0 _ hp.tail) hc0_0 (hC0_1 _ hp.tail) hc0_1 (hC0_2 _ hp.tail) hc0_2 hv_7).mono ?_)
    rintro _ W_86 ⟨v_74, v_75, v_76, rfl, hR_71, hR_72, hR_73, hb⟩
    refine ⟨_, rfl, ?_⟩
    obtain ⟨A_77, c_78, rfl, hcc_c_78, _⟩ := Kd.R_reads hR_71
    obtain ⟨A_80, c_81, rfl, hcc_c_81, _⟩ := Kd.R_reads hR_72
    obtain ⟨A_83, c_84, rfl, hcc_c_84, _⟩ := Kd.R_reads hR_73
    obtain ⟨F_79, F_82, F_85, hp⟩ : ∃ F_79 F_82 F_85, Hp w (row k59 59 w.heap.size (.slice A_77 t_8.length c_78) t_8 F_79 :: row k59 59 w.heap.size (.slice A_80 t_9.length c_81) t_9 F_82 :: row (Kd.int .i64) 3 w.heap.size (.slice A_83 t_10.length c_84) t_10 F_85 :: blk g_3 #[.slice A0_0 l0_0.length c0_0, .slice A0_1 l0_1.length c0_1, .slice A0_2 l0_2.length c0_2, .int .i64 a0_3, .int .i64 a0_4] 25 :: cs) _ := ⟨_, _, _, Hp.made3 hp hb rfl rfl rfl hR_71 hR_72 hR_73 (ok_apart hR_71 (fun k hk => hk)) (typed_apart hR_71 hR_73 (by decide)) (typed_apart hR_72 hR_73 (by decide))⟩
    refine sx_call 22 (by rfl) (by kernel_rfl) ((spec_HeavyLine.calls A_77 c_78 t_8 A_80 c_81 t_9 A_83 c_84 t_10 t_11 t_12 _ _ _ (row_C (hp.at_ 0 _ (by rfl))) (row_len (hp.at_ 0 _ (by rfl))).2 (row_C (hp.at_ 1 _ (by rfl))) (row_len (hp.at_ 1 _ (by rfl))).2 (row_C (hp.at_ 2 _ (by rfl))) (row_len (hp.at_ 2 _ (by rfl))).2 hv_13).mono ?_)
    rintro _ W_92 ⟨v_88, rfl, hR_87, hb⟩
    refine ⟨_, rfl, ?_⟩
    obtain ⟨A_89, c_90, rfl, hcc_c_90, _⟩ := Kd.R_reads hR_87
    obtain ⟨F_91, hp⟩ : ∃ F, Hp w (row Kd.string 9 w.heap.size (.slice A_89 t_14.length c_90) t_14 F :: row k59 59 w.heap.size (.slice A_77 t_8.length c_78) t_8 F_79 :: row k59 59 w.heap.size (.slice A_80 t_9.length c_81) t_9 F_82 :: row (Kd.int .i64) 3 w.heap.size (.slice A_83 t_10.length c_84) t_10 F_85 :: blk g_3 #[.slice A0_0 l0_0.length c0_0, .slice A0_1 l0_1.length c0_1, .slice A0_2 l0_2.length c0_2, .int .i64 a0_3, .int .i64 a0_4] 25 :: cs) _ := ⟨_, Hp.made hp hb hR_87⟩
    refine sx_rd 19 (.tuple #[.slice A_89 t_14.length c_90, .bool t_15]) (by rfl) (by kernel_rfl) ?_
    refine sx_rd 23 (.slice A_89 t_14.length c_90) (by rfl) (by kernel_rfl) ?_
    refine sx_rd 24 (.bool t_15) (by rfl) (by kernel_rfl) ?_
    refine sx_rd 4 (.slice A_89 t_14.length c_90) (by rfl) (by kernel_rfl) ?_
    refine sx_rd 5 (.bool t_15) (by rfl) (by kernel_rfl) ?_
    refine sx_nil ?_
    refine ex_then_n ?_
    refine wp_seq ?_
    refine sx_region ?_
    refine sx_rd 25 (.agg #[.slice A0_0 l0_0.length c0_0, .slice A0_1 l0_1.length c0_1, .slice A0_2 l0_2.length c0_2, .int .i64 a0_3, .int .i64 a0_4]) (by rfl) (ldn (t := 25) (p := (.tmp 1)) (by rfl) (by rfl) (by kernel_rfl) (by kernel_rfl) (by kernel_rfl) (hp.at_ 4 _ (by rfl))) ?_
    refine sx_call 26 (by rfl) (by kernel_rfl) ((laws_toGame.calls _ A0_0 c0_0 l0_0 A0_1 c0_1 l0_1 A0_2 c0_2 l0_2 a0_3 a0_4 _ _ _ _ _ _ (hC0_0 _ hp.tail.tail.tail.tail.tail) hc0_0 (hC0_1 _ hp.tail.tail.tail.tail.tail) hc0_1 (hC0_2 _ hp.tail.tail.tail.tail.tail) hc0_2 hv_16).mono ?_)
    rintro _ W_108 ⟨v_96, v_97, v_98, rfl, hR_93, hR_94, hR_95, hb⟩
    refine ⟨_, rfl, ?_⟩
    obtain ⟨A_99, c_100, rfl, hcc_c_100, _⟩ := Kd.R_reads hR_93
    obtain ⟨A_102, c_103, rfl, hcc_c_103, _⟩ := Kd.R_reads hR_94
    obtain ⟨A_105, c_106, rfl, hcc_c_106, _⟩ := Kd.R_reads hR_95
    obtain ⟨F_101, F_104, F_107, hp⟩ : ∃ F_101 F_104 F_107, Hp w (row k59 59 w.heap.size (.slice A_99 t_17.length c_100) t_17 F_101 :: row k59 59 w.heap.size (.slice A_102 t_18.length c_103) t_18 F_104 :: row (Kd.int .i64) 3 w.heap.size (.slice A_105 t_19.length c_106) t_19 F_107 :: row Kd.string 9 w.heap.size (.slice A_89 t_14.length c_90) t_14 F_91 :: row k59 59 w.heap.size (.slice A_77 t_8.length c_78) t_8 F_79 :: row k59 59 w.heap.size (.slice A_80 t_9.length c_81) t_9 F_82 :: row (Kd.int .i64) 3 w.heap.size (.slice A_83 t_10.length c_84) t_10 F_85 :: blk g_3 #[.slice A0_0 l0_0.length c0_0, .slice A0_1 l0_1.length c0_1, .slice A0_2 l0_2.length c0_2, .int .i64 a0_3, .int .i64 a0_4] 25 :: cs) _ := ⟨_, _, _, Hp.made3 hp hb rfl rfl rfl hR_93 hR_94 hR_95 (ok_apart hR_93 (fun k hk => hk)) (typed_apart hR_93 hR_95 (by decide)) (typed_apart hR_94 hR_95 (by decide))⟩
    refine sx_box 6 hp #[.slice none 0 0, .slice none 0 0, .slice none 0 0, .int .i64 0, .int .i64 0] 29 (by rfl) (fun W => by kernel_rfl) ?_
    intro g_109 W_110 hp
    refine sx_store (t := 29) (p := (.tmp 6)) (x := (.tmp 26)) (by rfl) (by rfl) 0 (by rfl) 0 [.slice A_99 t_17.length c_100, .slice A_102 t_18.length c_103, .slice A_105 t_19.length c_106, .int .i64 t_20, .int .i64 t_21] (by rfl) (by rfl) (by kernel_rfl) (by simp [Value.oneCell']) (by show 5 ≤ 5; omega) #[.slice A_99 t_17.length c_100, .slice A_102 t_18.length c_103, .slice A_105 t_19.length c_106, .int .i64 t_20, .int .i64 t_21] (by rfl) hp ?_
    intro W_111 hp; simp only [List.set_cons_succ, List.set_cons_zero] at hp
    refine sx_nil ?_
    refine ex_then_n ?_
    refine wp_seq ?_
    refine sx_region ?_
    refine sx_rd 28 (.agg #[.slice A_99 t_17.length c_100, .slice A_102 t_18.length c_103, .slice A_105 t_19.length c_106, .int .i64 t_20, .int .i64 t_21]) (by rfl) (ldn (t := 29) (p := (.tmp 6)) (by rfl) (by rfl) (by kernel_rfl) (by kernel_rfl) (by kernel_rfl) (hp.at_ 0 _ (by rfl))) ?_
    refine sx_call 29 (by rfl) (by kernel_rfl) ((impl_HeavyLine.calls A_99 c_100 t_17 A_102 c_103 t_18 A_105 c_106 t_19 t_20 t_21 _ _ _ (row_C (hp.at_ 1 _ (by rfl))) (row_len (hp.at_ 1 _ (by rfl))).2 (row_C (hp.at_ 2 _ (by rfl))) (row_len (hp.at_ 2 _ (by rfl))).2 (row_C (hp.at_ 3 _ (by rfl))) (row_len (hp.at_ 3 _ (by rfl))).2 hv_22).mono ?_)
    rintro _ W_117 ⟨v_113, rfl, hR_112, hb⟩
    refine ⟨_, rfl, ?_⟩
    obtain ⟨A_114, c_115, rfl, hcc_c_115, _⟩ := Kd.R_reads hR_112
    obtain ⟨F_116, hp⟩ : ∃ F, Hp w (row Kd.string 9 w.heap.size (.slice A_114 t_23.length c_115) t_23 F :: blk g_109 #[.slice A_99 t_17.length c_100, .slice A_102 t_18.length c_103, .slice A_105 t_19.length c_106, .int .i64 t_20, .int .i64 t_21] 29 :: row k59 59 w.heap.size (.slice A_99 t_17.length c_100) t_17 F_101 :: row k59 59 w.heap.size (.slice A_102 t_18.length c_103) t_18 F_104 :: row (Kd.int .i64) 3 w.heap.size (.slice A_105 t_19.length c_106) t_19 F_107 :: row Kd.string 9 w.heap.size (.slice A_89 t_14.length c_90) t_14 F_91 :: row k59 59 w.heap.size (.slice A_77 t_8.length c_78) t_8 F_79 :: row k59 59 w.heap.size (.slice A_80 t_9.length c_81) t_9 F_82 :: row (Kd.int .i64) 3 w.heap.size (.slice A_83 t_10.length c_84) t_10 F_85 :: blk g_3 #[.slice A0_0 l0_0.length c0_0, .slice A0_1 l0_1.length c0_1, .slice A0_2 l0_2.length c0_2, .int .i64 a0_3, .int .i64 a0_4] 25 :: cs) _ := ⟨_, Hp.made hp hb hR_112⟩
    refine sx_rd 27 (.tuple #[.slice A_114 t_23.length c_115, .bool t_24]) (by rfl) (by kernel_rfl) ?_
    refine sx_rd 30 (.slice A_114 t_23.length c_115) (by rfl) (by kernel_rfl) ?_
    refine sx_rd 31 (.bool t_24) (by rfl) (by kernel_rfl) ?_
    refine sx_rd 7 (.slice A_114 t_23.length c_115) (by rfl) (by kernel_rfl) ?_
    refine sx_rd 8 (.bool t_24) (by rfl) (by kernel_rfl) ?_
    refine sx_nil ?_
    refine ex_then_n ?_
    refine wp_seq ?_
    refine wp_seq ?_
    refine sx_region ?_
    refine sx_rd 32 (.slice A_114 t_23.length c_115) (by rfl) (by kernel_rfl) ?_
    refine sx_rd 33 (.slice A_89 t_14.length c_90) (by rfl) (by kernel_rfl) ?_
    refine sx_call 34 (by rfl) (by kernel_rfl) ((laws_eqStringS.calls _ A_114 c_115 t_23 A_89 c_90 t_14 _ _ (row_C (hp.at_ 0 _ (by rfl))) (row_len (hp.at_ 0 _ (by rfl))).2 (row_C (hp.at_ 5 _ (by rfl))) (row_len (hp.at_ 5 _ (by rfl))).2 hv_25).mono ?_)
    rintro _ W_118 ⟨rfl, hb⟩
    refine ⟨_, rfl, ?_⟩
    replace hp := hp.below hb.below
    clear hb
    refine sx_rd 35 (.bool false) (by rfl) (bv (show (!t_26) = false from by rw [hc_27]; rfl) (by kernel_rfl)) ?_
    refine sx_rd 36 (.bool false) (by rfl) (by kernel_rfl) ?_
    refine sx_want (by rfl) ?_
    refine sx_rd 37 (.bool t_24) (by rfl) (by kernel_rfl) ?_
    refine sx_want (by rfl) ?_
    refine sx_rd 38 (.bool t_15) (by rfl) (by kernel_rfl) ?_
    refine sx_want (by rfl) ?_
    refine sx_rd 39 (.bool (t_24 != t_15)) (by rfl) (by kernel_rfl) ?_
    refine sx_rd 40 (.bool (t_24 != t_15)) (by rfl) (by kernel_rfl) ?_
    refine sx_nil ?_
    refine ex_then_n ?_
    refine sx_else (t_24 != t_15) (by rfl) (Bool.eq_false_iff.mpr hc_28) ?_
    refine wp_skip ?_
    refine ex_then_n ?_
    refine wp_seq ?_
    refine wp_seq ?_
    refine sx_drawT [] (.rd 0 (.rd 1 (.alt 2 (.alt 3 (.rd 4 (.fin)) .non) .non))) 5 (C := Hp w (row Kd.string 9 w.heap.size (.slice A_114 t_23.length c_115) t_23 F_116 :: blk g_109 #[.slice A_99 t_17.length c_100, .slice A_102 t_18.length c_103, .slice A_105 t_19.length c_106, .int .i64 t_20, .int .i64 t_21] 29 :: row k59 59 w.heap.size (.slice A_99 t_17.length c_100) t_17 F_101 :: row k59 59 w.heap.size (.slice A_102 t_18.length c_103) t_18 F_104 :: row (Kd.int .i64) 3 w.heap.size (.slice A_105 t_19.length c_106) t_19 F_107 :: row Kd.string 9 w.heap.size (.slice A_89 t_14.length c_90) t_14 F_91 :: row k59 59 w.heap.size (.slice A_77 t_8.length c_78) t_8 F_79 :: row k59 59 w.heap.size (.slice A_80 t_9.length c_81) t_9 F_82 :: row (Kd.int .i64) 3 w.heap.size (.slice A_83 t_10.length c_84) t_10 F_85 :: blk g_3 #[.slice A0_0 l0_0.length c0_0, .slice A0_1 l0_1.length c0_1, .slice A0_2 l0_2.length c0_2, .int .i64 a0_3, .int .i64 a0_4] 25 :: cs)) (by kernel_rfl) (by kernel_rfl) (fun d _ _ _ _ h => by cases d <;> exact h) (fun W h => h.drew) hp ?_
    refine preI_nil ?_
    intro W_119 hp
    refine treeI_rd rfl ?_
    refine sxq_val 41 (.agg #[.slice A_99 t_17.length c_100, .slice A_102 t_18.length c_103, .slice A_105 t_19.length c_106, .int .i64 t_20, .int .i64 t_21]) (by rfl) (fun W hp => (ldn (t := 29) (p := (.tmp 6)) (by rfl) (by rfl) (by kernel_rfl) (by kernel_rfl) (by kernel_rfl) (hp.at_ 1 _ (by rfl)))) ?_
    refine sxq_nil ?_
    refine treeI_rd rfl ?_
    refine sxq_val 42 (.agg #[.slice A0_0 l0_0.length c0_0, .slice A0_1 l0_1.length c0_1, .slice A0_2 l0_2.length c0_2, .int .i64 a0_3, .int .i64 a0_4]) (by rfl) (fun W hp => (ldn (t := 25) (p := (.tmp 1)) (by rfl) (by rfl) (by kernel_rfl) (by kernel_rfl) (by kernel_rfl) (hp.at_ 9 _ (by rfl)))) ?_
    refine sxq_nil ?_
    refine treeI_ev rfl ?_
    refine sx_call 43 (by rfl) (by kernel_rfl) ((laws_toGame.calls _ A0_0 c0_0 l0_0 A0_1 c0_1 l0_1 A0_2 c0_2 l0_2 a0_3 a0_4 _ _ _ _ _ _ (hC0_0 _ hp.tail.tail.tail.tail.tail.tail.tail.tail.tail.tail) hc0_0 (hC0_1 _ hp.tail.tail.tail.tail.tail.tail.tail.tail.tail.tail) hc0_1 (hC0_2 _ hp.tail.tail.tail.tail.tail.tail.tail.tail.tail.tail) hc0_2 hv_29).mono ?_)
    rintro _ W_135 ⟨v_123, v_124, v_125, rfl, hR_120, hR_121, hR_122, hb⟩
    refine ⟨_, rfl, ?_⟩
    obtain ⟨A_126, c_127, rfl, hcc_c_127, _⟩ := Kd.R_reads hR_120
    obtain ⟨A_129, c_130, rfl, hcc_c_130, _⟩ := Kd.R_reads hR_121
    obtain ⟨A_132, c_133, rfl, hcc_c_133, _⟩ := Kd.R_reads hR_122
    obtain ⟨F_128, F_131, F_134, hp⟩ : ∃ F_128 F_131 F_134, Hp w (row k59 59 w.heap.size (.slice A_126 t_30.length c_127) t_30 F_128 :: row k59 59 w.heap.size (.slice A_129 t_31.length c_130) t_31 F_131 :: row (Kd.int .i64) 3 w.heap.size (.slice A_132 t_32.length c_133) t_32 F_134 :: row Kd.string 9 w.heap.size (.slice A_114 t_23.length c_115) t_23 F_116 :: blk g_109 #[.slice A_99 t_17.length c_100, .slice A_102 t_18.length c_103, .slice A_105 t_19.length c_106, .int .i64 t_20, .int .i64 t_21] 29 :: row k59 59 w.heap.size (.slice A_99 t_17.length c_100) t_17 F_101 :: row k59 59 w.heap.size (.slice A_102 t_18.length c_103) t_18 F_104 :: row (Kd.int .i64) 3 w.heap.size (.slice A_105 t_19.length c_106) t_19 F_107 :: row Kd.string 9 w.heap.size (.slice A_89 t_14.length c_90) t_14 F_91 :: row k59 59 w.heap.size (.slice A_77 t_8.length c_78) t_8 F_79 :: row k59 59 w.heap.size (.slice A_80 t_9.length c_81) t_9 F_82 :: row (Kd.int .i64) 3 w.heap.size (.slice A_83 t_10.length c_84) t_10 F_85 :: blk g_3 #[.slice A0_0 l0_0.length c0_0, .slice A0_1 l0_1.length c0_1, .slice A0_2 l0_2.length c0_2, .int .i64 a0_3, .int .i64 a0_4] 25 :: cs) _ := ⟨_, _, _, Hp.made3 hp hb rfl rfl rfl hR_120 hR_121 hR_122 (ok_apart hR_120 (fun k hk => hk)) (typed_apart hR_120 hR_122 (by decide)) (typed_apart hR_121 hR_122 (by decide))⟩
    refine step_fin hp.tail.tail.tail ?_
    refine treeI_ev rfl ?_
    refine sx_call 44 (by rfl) (by kernel_rfl) ((laws_eqGame.calls _ A_99 c_100 t_17 A_102 c_103 t_18 A_105 c_106 t_19 t_20 t_21 A_126 c_127 t_30 A_129 c_130 t_31 A_132 c_133 t_32 t_33 t_34 _ _ (row_C (hp.at_ 5 _ (by rfl))) (row_len (hp.at_ 5 _ (by rfl))).2 (row_C (hp.at_ 6 _ (by rfl))) (row_len (hp.at_ 6 _ (by rfl))).2 (row_C (hp.at_ 7 _ (by rfl))) (row_len (hp.at_ 7 _ (by rfl))).2 (row_C (hp.at_ 0 _ (by rfl))) (row_len (hp.at_ 0 _ (by rfl))).2 (row_C (hp.at_ 1 _ (by rfl))) (row_len (hp.at_ 1 _ (by rfl))).2 (row_C (hp.at_ 2 _ (by rfl))) (row_len (hp.at_ 2 _ (by rfl))).2 hv_35).mono ?_)
    rintro _ W_136 ⟨rfl, hb⟩
    refine ⟨_, rfl, ?_⟩
    replace hp := hp.below hb
    clear hb
    refine step_fin hp.tail.tail.tail ?_
    refine treeI_rd rfl ?_
    refine sxq_val 45 (.bool (!t_36)) (by rfl) (fun W hp => (by kernel_rfl)) ?_
    refine sxq_nil ?_
    refine treeI_fin ?_
    refine sx_nil ?_
    refine ex_then_n ?_
    refine sx_else (!t_36) (by rfl) (show (!t_36) = false from by rw [hc_37]; rfl) ?_
    refine wp_skip ?_
    refine ex_then_n ?_
    refine wp_seq ?_
    refine sx_region ?_
    refine sx_rd 9 (.int .i64 1) (by rfl) (by kernel_rfl) ?_
    refine sx_nil ?_
    refine ex_then_n ?_
    refine wp_seq ?_
    refine sx_region ?_
    refine sx_rd 46 (.agg #[.slice A_99 t_17.length c_100, .slice A_102 t_18.length c_103, .slice A_105 t_19.length c_106, .int .i64 t_20, .int .i64 t_21]) (by rfl) (ldn (t := 29) (p := (.tmp 6)) (by rfl) (by rfl) (by kernel_rfl) (by kernel_rfl) (by kernel_rfl) (hp.at_ 4 _ (by rfl))) ?_
    refine sx_rd 47 (.int .i64 1) (by rfl) (by kernel_rfl) ?_
    refine sx_call 48 (by rfl) (by kernel_rfl) ((laws_markGame.calls _ F_101 (.slice A_99 t_17.length c_100) t_17 F_104 (.slice A_102 t_18.length c_103) t_18 F_107 (.slice A_105 t_19.length c_106) t_19 t_20 t_21 1 _ _ _ _ w _ (hc2 _ (hp.tail.tail.tail.tail.tail.tail.tail.tail.tail.tail.tail.tail.tail)) (row_R (hp.at_ 5 _ (by rfl))) (fun k_ a_ b_ => hp.ap 5 6 _ _ (by decide) (by rfl) (by rfl) k_ a_ b_) (row_R (hp.at_ 6 _ (by rfl))) (fun k_ a_ b_ => hp.ap 6 5 _ _ (by decide) (by rfl) (by rfl) k_ a_ b_) (row_R (hp.at_ 7 _ (by rfl))) hv_38).mono ?_)
    rintro _ W_145 ⟨rfl, hR_137, hR_138, hR_139, hB_140, hK_141⟩
    refine ⟨_, rfl, ?_⟩
    have hp := (hp.take [5, 6, 7, 0, 1, 2, 3, 4, 8, 9, 10, 11, 12] 13 (by decide) (by simp))
    obtain ⟨F_142, F_143, F_144, hp⟩ : ∃ F_142 F_143 F_144, Hp w (row k59 59 w.heap.size (.slice A_99 t_17.length c_100) t_40 F_142 :: row k59 59 w.heap.size (.slice A_102 t_18.length c_103) t_41 F_143 :: row (Kd.int .i64) 3 w.heap.size (.slice A_105 t_19.length c_106) t_42 F_144 :: row k59 59 w.heap.size (.slice A_126 t_30.length c_127) t_30 F_128 :: row k59 59 w.heap.size (.slice A_129 t_31.length c_130) t_31 F_131 :: row (Kd.int .i64) 3 w.heap.size (.slice A_132 t_32.length c_133) t_32 F_134 :: row Kd.string 9 w.heap.size (.slice A_114 t_23.length c_115) t_23 F_116 :: blk g_109 #[.slice A_99 t_17.length c_100, .slice A_102 t_18.length c_103, .slice A_105 t_19.length c_106, .int .i64 t_20, .int .i64 t_21] 29 :: row Kd.string 9 w.heap.size (.slice A_89 t_14.length c_90) t_14 F_91 :: row k59 59 w.heap.size (.slice A_77 t_8.length c_78) t_8 F_79 :: row k59 59 w.heap.size (.slice A_80 t_9.length c_81) t_9 F_82 :: row (Kd.int .i64) 3 w.heap.size (.slice A_83 t_10.length c_84) t_10 F_85 :: blk g_3 #[.slice A0_0 l0_0.length c0_0, .slice A0_1 l0_1.length c0_1, .slice A0_2 l0_2.length c0_2, .int .i64 a0_3, .int .i64 a0_4] 25 :: cs) _ := ⟨_, _, _, Hp.marked3 hp hB_140 hK_141 rfl rfl rfl hR_137 hR_138 hR_139⟩
    obtain ⟨hn_146, -⟩ := row_len (hp.at_ 0 _ (by rfl))
    rw [hn_146] at hp
    try rw [hn_146]
    obtain ⟨hn_147, -⟩ := row_len (hp.at_ 1 _ (by rfl))
    rw [hn_147] at hp
    try rw [hn_147]
    obtain ⟨hn_148, -⟩ := row_len (hp.at_ 2 _ (by rfl))
    rw [hn_148] at hp
    try rw [hn_148]
    refine sx_rd 9 (.int .i64 t_39) (by rfl) (by kernel_rfl) ?_
    refine sx_nil ?_
    refine ex_then_n ?_
    refine wp_seq ?_
    refine wp_seq ?_
    refine sx_region ?_
    refine sx_rd 49 (.int .i64 t_39) (by rfl) (by kernel_rfl) ?_
    refine sx_rd 50 (.bool false) (by rfl) (bv (decide_eq_false hc_43) (by kernel_rfl)) ?_
    refine sx_rd 51 (.bool false) (by rfl) (by kernel_rfl) ?_
    refine sx_want (by rfl) ?_
    refine sx_rd 52 (.slice A_114 t_23.length c_115) (by rfl) (by kernel_rfl) ?_
    refine sx_want (by rfl) ?_
    refine sx_rd 53 (.slice A_89 t_14.length c_90) (by rfl) (by kernel_rfl) ?_
    refine sx_want (by rfl) ?_
    refine sx_call 54 (by rfl) (by kernel_rfl) ((laws_eqStringS.calls _ A_114 c_115 t_23 A_89 c_90 t_14 _ _ (row_C (hp.at_ 6 _ (by rfl))) (row_len (hp.at_ 6 _ (by rfl))).2 (row_C (hp.at_ 8 _ (by rfl))) (row_len (hp.at_ 8 _ (by rfl))).2 hv_44).mono ?_)
    rintro _ W_149 ⟨rfl, hb⟩
    refine ⟨_, rfl, ?_⟩
    replace hp := hp.below hb.below
    clear hb
    refine sx_want (by rfl) ?_
    refine sx_rd 55 (.bool false) (by rfl) (bv (show (!t_45) = false from by rw [hc_46]; rfl) (by kernel_rfl)) ?_
    refine sx_rd 56 (.bool false) (by rfl) (by kernel_rfl) ?_
    refine sx_rd 57 (.bool false) (by rfl) (by kernel_rfl) ?_
    refine sx_want (by rfl) ?_
    refine sx_rd 58 (.bool t_24) (by rfl) (by kernel_rfl) ?_
    refine sx_want (by rfl) ?_
    refine sx_rd 59 (.bool t_15) (by rfl) (by kernel_rfl) ?_
    refine sx_want (by rfl) ?_
    refine sx_rd 60 (.bool false) (by rfl) (bv (Bool.eq_false_iff.mpr hc_28) (by kernel_rfl)) ?_
    refine sx_rd 61 (.bool false) (by rfl) (by kernel_rfl) ?_
    refine sx_nil ?_
    refine ex_then_n ?_
    refine sx_else false (by rfl) rfl ?_
    refine wp_skip ?_
    refine ex_then_n ?_
    refine wp_seq ?_
    refine sx_region ?_
    refine sx_rd 10 (.int .i64 1) (by rfl) (by kernel_rfl) ?_
    refine sx_nil ?_
    refine ex_then_n ?_
    refine wp_seq ?_
    refine sx_region ?_
    refine sx_rd 62 (.slice A_114 t_23.length c_115) (by rfl) (by kernel_rfl) ?_
    refine sx_rd 63 (.int .i64 1) (by rfl) (by kernel_rfl) ?_
    refine sx_call 64 (by rfl) (by kernel_rfl) ((laws_markStringS.calls _ F_116 (.slice A_114 t_23.length c_115) t_23 1 _ _ w _ (hc2 _ (hp.tail.tail.tail.tail.tail.tail.tail.tail.tail.tail.tail.tail.tail)) (row_R (hp.at_ 6 _ (by rfl))) hv_47).mono ?_)
    rintro _ W_154 ⟨rfl, hR_150, hB_151, hK_152⟩
    refine ⟨_, rfl, ?_⟩
    have hp := (hp.take [6, 0, 1, 2, 3, 4, 5, 7, 8, 9, 10, 11, 12] 13 (by decide) (by simp))
    obtain ⟨F_153, hp⟩ : ∃ F_153, Hp w (row Kd.string 9 w.heap.size (.slice A_114 t_23.length c_115) t_49 F_153 :: row k59 59 w.heap.size (.slice A_99 t_40.length c_100) t_40 F_142 :: row k59 59 w.heap.size (.slice A_102 t_41.length c_103) t_41 F_143 :: row (Kd.int .i64) 3 w.heap.size (.slice A_105 t_42.length c_106) t_42 F_144 :: row k59 59 w.heap.size (.slice A_126 t_30.length c_127) t_30 F_128 :: row k59 59 w.heap.size (.slice A_129 t_31.length c_130) t_31 F_131 :: row (Kd.int .i64) 3 w.heap.size (.slice A_132 t_32.length c_133) t_32 F_134 :: blk g_109 #[.slice A_99 t_40.length c_100, .slice A_102 t_41.length c_103, .slice A_105 t_42.length c_106, .int .i64 t_20, .int .i64 t_21] 29 :: row Kd.string 9 w.heap.size (.slice A_89 t_14.length c_90) t_14 F_91 :: row k59 59 w.heap.size (.slice A_77 t_8.length c_78) t_8 F_79 :: row k59 59 w.heap.size (.slice A_80 t_9.length c_81) t_9 F_82 :: row (Kd.int .i64) 3 w.heap.size (.slice A_83 t_10.length c_84) t_10 F_85 :: blk g_3 #[.slice A0_0 l0_0.length c0_0, .slice A0_1 l0_1.length c0_1, .slice A0_2 l0_2.length c0_2, .int .i64 a0_3, .int .i64 a0_4] 25 :: cs) _ := ⟨_, Hp.marked1 hp hB_151 hK_152 rfl hR_150⟩
    obtain ⟨hn_155, -⟩ := row_len (hp.at_ 0 _ (by rfl))
    rw [hn_155] at hp
    try rw [hn_155]
    refine sx_rd 10 (.int .i64 t_48) (by rfl) (by kernel_rfl) ?_
    refine sx_nil ?_
    refine ex_then_n ?_
    refine wp_seq ?_
    refine sx_region ?_
    refine sx_rd 11 (.int .i64 1) (by rfl) (by kernel_rfl) ?_
    refine sx_nil ?_
    refine ex_then_n ?_
    refine wp_seq ?_
    refine sx_region ?_
    refine sx_rd 65 (.slice A_114 t_49.length c_115) (by rfl) (by kernel_rfl) ?_
    refine sx_rd 66 (.int .i64 1) (by rfl) (by kernel_rfl) ?_
    refine sx_call 67 (by rfl) (by kernel_rfl) ((laws_heldStringS.calls _ A_114 c_115 t_49 1 _ _ (row_C (hp.at_ 0 _ (by rfl))) (row_len (hp.at_ 0 _ (by rfl))).2 hv_50).mono ?_)
    rintro _ W_156 ⟨rfl, hb⟩
    refine ⟨_, rfl, ?_⟩
    replace hp := hp.below hb
    clear hb
    refine sx_rd 11 (.int .i64 t_51) (by rfl) (by kernel_rfl) ?_
    refine sx_nil ?_
    refine ex_then_n ?_
    refine wp_seq ?_
    refine wp_seq ?_
    refine sx_region ?_
    refine sx_rd 68 (.int .i64 t_51) (by rfl) (by kernel_rfl) ?_
    refine sx_rd 69 (.bool (decide (t_51 < 0))) (by rfl) (by kernel_rfl) ?_
    refine sx_nil ?_
    refine ex_then_n ?_
    refine sx_else (decide (t_51 < 0)) (by rfl) (decide_eq_false hc_52) ?_
    refine wp_skip ?_
    refine ex_then_n ?_
    refine wp_seq ?_
    refine wp_seq ?_
    refine sx_region ?_
    refine sx_rd 70 (.int .i64 t_51) (by rfl) (by kernel_rfl) ?_
    refine sx_rd 71 (.int .i64 t_48) (by rfl) (by kernel_rfl) ?_
    refine sx_rd 72 (.bool (t_51 != t_48)) (by rfl) (by kernel_rfl) ?_
    refine sx_nil ?_
    refine ex_then_n ?_
    refine sx_else (t_51 != t_48) (by rfl) (bne_eq_false_iff_eq.mpr hc_53) ?_
    refine wp_skip ?_
    refine ex_then_n ?_
    refine wp_seq ?_
    refine sx_region ?_
    refine sx_rd 74 (.agg #[.slice A0_0 l0_0.length c0_0, .slice A0_1 l0_1.length c0_1, .slice A0_2 l0_2.length c0_2, .int .i64 a0_3, .int .i64 a0_4]) (by rfl) (ldn (t := 25) (p := (.tmp 1)) (by rfl) (by rfl) (by kernel_rfl) (by kernel_rfl) (by kernel_rfl) (hp.at_ 12 _ (by rfl))) ?_
    refine sx_call 75 (by rfl) (by kernel_rfl) ((laws_toGame.calls _ A0_0 c0_0 l0_0 A0_1 c0_1 l0_1 A0_2 c0_2 l0_2 a0_3 a0_4 _ _ _ _ _ _ (hC0_0 _ hp.tail.tail.tail.tail.tail.tail.tail.tail.tail.tail.tail.tail.tail) hc0_0 (hC0_1 _ hp.tail.tail.tail.tail.tail.tail.tail.tail.tail.tail.tail.tail.tail) hc0_1 (hC0_2 _ hp.tail.tail.tail.tail.tail.tail.tail.tail.tail.tail.tail.tail.tail) hc0_2 hv_54).mono ?_)
    rintro _ W_172 ⟨v_160, v_161, v_162, rfl, hR_157, hR_158, hR_159, hb⟩
    refine ⟨_, rfl, ?_⟩
    obtain ⟨A_163, c_164, rfl, hcc_c_164, _⟩ := Kd.R_reads hR_157
    obtain ⟨A_166, c_167, rfl, hcc_c_167, _⟩ := Kd.R_reads hR_158
    obtain ⟨A_169, c_170, rfl, hcc_c_170, _⟩ := Kd.R_reads hR_159
    obtain ⟨F_165, F_168, F_171, hp⟩ : ∃ F_165 F_168 F_171, Hp w (row k59 59 w.heap.size (.slice A_163 t_55.length c_164) t_55 F_165 :: row k59 59 w.heap.size (.slice A_166 t_56.length c_167) t_56 F_168 :: row (Kd.int .i64) 3 w.heap.size (.slice A_169 t_57.length c_170) t_57 F_171 :: row Kd.string 9 w.heap.size (.slice A_114 t_49.length c_115) t_49 F_153 :: row k59 59 w.heap.size (.slice A_99 t_40.length c_100) t_40 F_142 :: row k59 59 w.heap.size (.slice A_102 t_41.length c_103) t_41 F_143 :: row (Kd.int .i64) 3 w.heap.size (.slice A_105 t_42.length c_106) t_42 F_144 :: row k59 59 w.heap.size (.slice A_126 t_30.length c_127) t_30 F_128 :: row k59 59 w.heap.size (.slice A_129 t_31.length c_130) t_31 F_131 :: row (Kd.int .i64) 3 w.heap.size (.slice A_132 t_32.length c_133) t_32 F_134 :: blk g_109 #[.slice A_99 t_40.length c_100, .slice A_102 t_41.length c_103, .slice A_105 t_42.length c_106, .int .i64 t_20, .int .i64 t_21] 29 :: row Kd.string 9 w.heap.size (.slice A_89 t_14.length c_90) t_14 F_91 :: row k59 59 w.heap.size (.slice A_77 t_8.length c_78) t_8 F_79 :: row k59 59 w.heap.size (.slice A_80 t_9.length c_81) t_9 F_82 :: row (Kd.int .i64) 3 w.heap.size (.slice A_83 t_10.length c_84) t_10 F_85 :: blk g_3 #[.slice A0_0 l0_0.length c0_0, .slice A0_1 l0_1.length c0_1, .slice A0_2 l0_2.length c0_2, .int .i64 a0_3, .int .i64 a0_4] 25 :: cs) _ := ⟨_, _, _, Hp.made3 hp hb rfl rfl rfl hR_157 hR_158 hR_159 (ok_apart hR_157 (fun k hk => hk)) (typed_apart hR_157 hR_159 (by decide)) (typed_apart hR_158 hR_159 (by decide))⟩
    refine sx_call 76 (by rfl) (by kernel_rfl) ((impl_HeavyLine.calls A_163 c_164 t_55 A_166 c_167 t_56 A_169 c_170 t_57 t_58 t_59 _ _ _ (row_C (hp.at_ 0 _ (by rfl))) (row_len (hp.at_ 0 _ (by rfl))).2 (row_C (hp.at_ 1 _ (by rfl))) (row_len (hp.at_ 1 _ (by rfl))).2 (row_C (hp.at_ 2 _ (by rfl))) (row_len (hp.at_ 2 _ (by rfl))).2 hv_60).mono ?_)
    rintro _ W_178 ⟨v_174, rfl, hR_173, hb⟩
    refine ⟨_, rfl, ?_⟩
    obtain ⟨A_175, c_176, rfl, hcc_c_176, _⟩ := Kd.R_reads hR_173
    obtain ⟨F_177, hp⟩ : ∃ F, Hp w (row Kd.string 9 w.heap.size (.slice A_175 t_61.length c_176) t_61 F :: row k59 59 w.heap.size (.slice A_163 t_55.length c_164) t_55 F_165 :: row k59 59 w.heap.size (.slice A_166 t_56.length c_167) t_56 F_168 :: row (Kd.int .i64) 3 w.heap.size (.slice A_169 t_57.length c_170) t_57 F_171 :: row Kd.string 9 w.heap.size (.slice A_114 t_49.length c_115) t_49 F_153 :: row k59 59 w.heap.size (.slice A_99 t_40.length c_100) t_40 F_142 :: row k59 59 w.heap.size (.slice A_102 t_41.length c_103) t_41 F_143 :: row (Kd.int .i64) 3 w.heap.size (.slice A_105 t_42.length c_106) t_42 F_144 :: row k59 59 w.heap.size (.slice A_126 t_30.length c_127) t_30 F_128 :: row k59 59 w.heap.size (.slice A_129 t_31.length c_130) t_31 F_131 :: row (Kd.int .i64) 3 w.heap.size (.slice A_132 t_32.length c_133) t_32 F_134 :: blk g_109 #[.slice A_99 t_40.length c_100, .slice A_102 t_41.length c_103, .slice A_105 t_42.length c_106, .int .i64 t_20, .int .i64 t_21] 29 :: row Kd.string 9 w.heap.size (.slice A_89 t_14.length c_90) t_14 F_91 :: row k59 59 w.heap.size (.slice A_77 t_8.length c_78) t_8 F_79 :: row k59 59 w.heap.size (.slice A_80 t_9.length c_81) t_9 F_82 :: row (Kd.int .i64) 3 w.heap.size (.slice A_83 t_10.length c_84) t_10 F_85 :: blk g_3 #[.slice A0_0 l0_0.length c0_0, .slice A0_1 l0_1.length c0_1, .slice A0_2 l0_2.length c0_2, .int .i64 a0_3, .int .i64 a0_4] 25 :: cs) _ := ⟨_, Hp.made hp hb hR_173⟩
    refine sx_rd 73 (.tuple #[.slice A_175 t_61.length c_176, .bool t_62]) (by rfl) (by kernel_rfl) ?_
    refine sx_rd 77 (.slice A_175 t_61.length c_176) (by rfl) (by kernel_rfl) ?_
    refine sx_rd 78 (.bool t_62) (by rfl) (by kernel_rfl) ?_
    refine sx_rd 12 (.slice A_175 t_61.length c_176) (by rfl) (by kernel_rfl) ?_
    refine sx_rd 13 (.bool t_62) (by rfl) (by kernel_rfl) ?_
    refine sx_nil ?_
    refine ex_then_n ?_
    refine wp_seq ?_
    refine wp_seq ?_
    refine sx_region ?_
    refine sx_rd 79 (.slice A_175 t_61.length c_176) (by rfl) (by kernel_rfl) ?_
    refine sx_rd 80 (.slice A_89 t_14.length c_90) (by rfl) (by kernel_rfl) ?_
    refine sx_call 81 (by rfl) (by kernel_rfl) ((laws_eqStringS.calls _ A_175 c_176 t_61 A_89 c_90 t_14 _ _ (row_C (hp.at_ 0 _ (by rfl))) (row_len (hp.at_ 0 _ (by rfl))).2 (row_C (hp.at_ 12 _ (by rfl))) (row_len (hp.at_ 12 _ (by rfl))).2 hv_63).mono ?_)
    rintro _ W_179 ⟨rfl, hb⟩
    refine ⟨_, rfl, ?_⟩
    replace hp := hp.below hb.below
    clear hb
    refine sx_rd 82 (.bool false) (by rfl) (bv (show (!t_64) = false from by rw [hc_65]; rfl) (by kernel_rfl)) ?_
    refine sx_rd 83 (.bool false) (by rfl) (by kernel_rfl) ?_
    refine sx_want (by rfl) ?_
    refine sx_rd 84 (.bool t_62) (by rfl) (by kernel_rfl) ?_
    refine sx_want (by rfl) ?_
    refine sx_rd 85 (.bool t_15) (by rfl) (by kernel_rfl) ?_
    refine sx_want (by rfl) ?_
    refine sx_rd 86 (.bool (t_62 != t_15)) (by rfl) (by kernel_rfl) ?_
    refine sx_rd 87 (.bool (t_62 != t_15)) (by rfl) (by kernel_rfl) ?_
    refine sx_nil ?_
    refine ex_then_n ?_
    refine sx_else (t_62 != t_15) (by rfl) (Bool.eq_false_iff.mpr hc_66) ?_
    refine wp_skip ?_
    refine ex_then_n ?_
    refine wp_seq ?_
    refine sx_region ?_
    refine sx_rd 11 (.int .i64 1) (by rfl) (by kernel_rfl) ?_
    refine sx_nil ?_
    refine ex_then_n ?_
    refine wp_seq ?_
    refine sx_region ?_
    refine sx_rd 88 (.slice A_114 t_49.length c_115) (by rfl) (by kernel_rfl) ?_
    refine sx_rd 89 (.int .i64 1) (by rfl) (by kernel_rfl) ?_
    refine sx_call 90 (by rfl) (by kernel_rfl) ((laws_heldStringS.calls _ A_114 c_115 t_49 1 _ _ (row_C (hp.at_ 4 _ (by rfl))) (row_len (hp.at_ 4 _ (by rfl))).2 hv_67).mono ?_)
    rintro _ W_180 ⟨rfl, hb⟩
    refine ⟨_, rfl, ?_⟩
    replace hp := hp.below hb
    clear hb
    refine sx_rd 11 (.int .i64 t_68) (by rfl) (by kernel_rfl) ?_
    refine sx_nil ?_
    refine ex_then_n ?_
    refine wp_seq ?_
    refine wp_seq ?_
    refine sx_region ?_
    refine sx_rd 91 (.int .i64 t_68) (by rfl) (by kernel_rfl) ?_
    refine sx_rd 92 (.bool (decide (t_68 < 0))) (by rfl) (by kernel_rfl) ?_
    refine sx_nil ?_
    refine ex_then_n ?_
    refine sx_else (decide (t_68 < 0)) (by rfl) (decide_eq_false hc_69) ?_
    refine wp_skip ?_
    refine ex_then_n ?_
    refine wp_seq ?_
    refine wp_seq ?_
    refine sx_region ?_
    refine sx_rd 93 (.int .i64 t_68) (by rfl) (by kernel_rfl) ?_
    refine sx_rd 94 (.int .i64 t_48) (by rfl) (by kernel_rfl) ?_
    refine sx_rd 95 (.bool (t_68 != t_48)) (by rfl) (by kernel_rfl) ?_
    refine sx_nil ?_
    refine ex_then_n ?_
    refine sx_else (t_68 != t_48) (by rfl) (bne_eq_false_iff_eq.mpr hc_70) ?_
    refine wp_skip ?_
    refine ex_then_n ?_
    refine wp_seq ?_
    refine sx_region ?_
    refine sx_rd 2 (.bool true) (by rfl) (by kernel_rfl) ?_
    refine sx_nil ?_
    refine ex_then_n ?_
    refine wp_ret ?_
    refine sx_end (.bool true) (res1 2 (by rfl)) ?_
    obtain rfl := Option.some.inj h
    exact ⟨rfl, hc2 _ (hp.tail.tail.tail.tail.tail.tail.tail.tail.tail.tail.tail.tail.tail.tail.tail.tail.tail)⟩
end
end Go.Proofs.YtkjaahmlnbgnjaaGreat.Hd
