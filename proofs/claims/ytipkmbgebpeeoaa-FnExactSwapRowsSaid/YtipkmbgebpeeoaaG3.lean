-- Printed by hprint.py and laid together by pack.py (this session's programs over the kit's print program). Lean checks it.
import Derived.Test.YtipkmbgebpeeoaaMSx5
import Derived.Test.YtipkmbgebpeeoaaMSxL
import Derived.Test.YtipkmbgebpeeoaaMSxN
import Derived.Test.YtipkmbgebpeeoaaG0
import Derived.Test.YtipkmbgebpeeoaaG2
import Derived.Test.YtipkmbgebpeeoaaMMarkIntSS
import Derived.Test.YtipkmbgebpeeoaaMSwapR
namespace Go.Proofs.Ytipkmbgebpeeoaa.Hd
section
open Go.RowKit Go.Proofs.YtipkmbgebpeeoaaW.PrintWords Go.Proofs.YtipkmbgebpeeoaaW.PrintLast Go.Proofs.YtipkmbgebpeeoaaW.PrintMore
attribute [local go_sem] max2_int min2_int max_two min_two max_three min_three max_four min_four   -- for this text's walks alone
set_option linter.unusedVariables false
set_option linter.unusedSimpArgs false

def laws_FnExactSwapRows.f (k : Nat) (l0 : List (List Int)) (a1 : Int) (a2 : Int) : Option (Bool) := (laws_szIntSS.f k l0 1048576).bind fun t233 => (if t233 < 0 then (some true) else ((laws_toIntSS.f k l0).bind fun t234 => ((spec_SwapRows.f k t234 a1 a2).bind fun bt237 => ((laws_toIntSS.f k l0).bind fun t241 => ((impl_SwapRows.f t241 a1 a2).bind fun bt244 => ((laws_eqIntSS.f k bt244.1 bt237.1).bind fun t248 => (if t248 = true then (if (bt244.2 != bt237.2) = true then (none) else ((laws_toIntSS.f k l0).bind fun t249 => ((laws_eqIntSS.f k t241 t249).bind fun t252 => (if t252 = true then ((laws_markIntSS.f k t241 1).bind fun bt253 => (if bt253.1 < 0 then (none) else ((laws_eqIntSS.f k bt244.1 bt237.1).bind fun t255 => (if t255 = true then ((laws_markIntSS.f k bt244.1 1).bind fun bt256 => ((laws_heldIntSS.f k bt256.2 1).bind fun t258 => (if t258 < 0 then (none) else (if t258 = bt256.1 then ((laws_toIntSS.f k l0).bind fun t259 => ((impl_SwapRows.f t259 a1 a2).bind fun bt262 => ((laws_eqIntSS.f k bt262.1 bt237.1).bind fun t266 => (if t266 = true then (if (bt262.2 != bt237.2) = true then (none) else ((laws_heldIntSS.f k bt256.2 1).bind fun t267 => (if t267 < 0 then (none) else (if t267 = bt256.1 then (some true) else (none))))) else (none))))) else (none))))) else (none))))) else (none))))) else (none))))))))
set_option maxRecDepth 100000 in
set_option maxHeartbeats 40000000 in
theorem laws_FnExactSwapRows.calls (k : Nat) (A0 : Option Addr) (c0 : Nat) (l0 : List (List Int)) (a1 : Int) (a2 : Int) (r : Bool) (w : World) (hr0 : Kd.C (Kd.slice 3 (Kd.int .i64)) w A0 l0.length l0) (hc0 : l0.length ≤ c0) (h : laws_FnExactSwapRows.f k l0 a1 a2 = some r) :
    Calls Try.prog 3 #[.slice A0 l0.length c0, .int .i64 a1, .int .i64 a2] w fun e w' => e = .returned (.bool r) ∧ Below w.heap.size w w' := by
  obtain ⟨cs, hcs⟩ : ∃ cs, cs = [old w w.heap.size] := ⟨_, rfl⟩
  have hp : Hp w cs w := by rw [hcs]; exact Hp.old_start w
  have hc2 : ∀ W, Hp w cs W → Below w.heap.size w W := fun W h => by rw [hcs] at h; exact h.since 0 _ rfl
  have hC0 : ∀ W, Hp w cs W → Kd.C (Kd.slice 3 (Kd.int .i64)) W A0 l0.length l0 := fun W h => Kd.C_below hr0 (hc2 W h)
  clear hcs
  unfold laws_FnExactSwapRows.f at h
  obtain ⟨t_2, hv_1, h⟩ := Option.bind_eq_some_iff.mp h
  try dsimp only at h
  refine sx_enter (N := 106) (l := [.slice A0 l0.length c0, .int .i64 a1, .int .i64 a2]) Try.func3 rfl rfl rfl ?_
  refine wp_seq ?_
  refine sx_region ?_
  refine sx_rd 6 (.bool false) (by rfl) (by kernel_rfl) ?_
  refine sx_nil ?_
  refine ex_then_n ?_
  refine wp_seq ?_
  refine sx_region ?_
  refine sx_rd 7 (.int .i64 1048576) (by rfl) (by kernel_rfl) ?_
  refine sx_nil ?_
  refine ex_then_n ?_
  refine wp_seq ?_
  refine sx_region ?_
  refine sx_rd 18 (.slice A0 l0.length c0) (by rfl) (by kernel_rfl) ?_
  refine sx_rd 19 (.int .i64 1048576) (by rfl) (by kernel_rfl) ?_
  refine sx_call 20 (by rfl) (by kernel_rfl) ((laws_szIntSS.calls _ A0 c0 l0 1048576 _ _ (hC0 _ hp) hc0 hv_1).mono ?_)
  rintro _ W_3 ⟨rfl, hb⟩
  refine ⟨_, rfl, ?_⟩
  replace hp := hp.below hb.below
  clear hb
  refine sx_rd 7 (.int .i64 t_2) (by rfl) (by kernel_rfl) ?_
  refine sx_nil ?_
  refine ex_then_n ?_
  refine wp_seq ?_
  refine wp_seq ?_
  refine sx_region ?_
  refine sx_rd 21 (.int .i64 t_2) (by rfl) (by kernel_rfl) ?_
  refine sx_rd 22 (.bool (decide (t_2 < 0))) (by rfl) (by kernel_rfl) ?_
  refine sx_nil ?_
  refine ex_then_n ?_
  by_cases hc_4 : t_2 < 0
  ·
    rw [if_pos hc_4] at h
    refine sx_then (decide (t_2 < 0)) (by rfl) (decide_eq_true hc_4) ?_
    refine wp_seq ?_
    refine sx_region ?_
    refine sx_rd 6 (.bool true) (by rfl) (by kernel_rfl) ?_
    refine sx_nil ?_
    refine ex_then_n ?_
    refine wp_ret ?_
    refine ex_then_r ?_
    refine sx_end (.bool true) (res1 6 (by rfl)) ?_
    obtain rfl := Option.some.inj h
    exact ⟨rfl, hc2 _ (hp)⟩
  ·
    rw [if_neg hc_4] at h
    obtain ⟨t_6, hv_5, h⟩ := Option.bind_eq_some_iff.mp h
    try dsimp only at h
    obtain ⟨⟨t_8, t_9⟩, hv_7, h⟩ := Option.bind_eq_some_iff.mp h
    try dsimp only at h
    obtain ⟨t_11, hv_10, h⟩ := Option.bind_eq_some_iff.mp h
    try dsimp only at h
    obtain ⟨⟨t_13, t_14⟩, hv_12, h⟩ := Option.bind_eq_some_iff.mp h
    try dsimp only at h
    obtain ⟨t_16, hv_15, h⟩ := Option.bind_eq_some_iff.mp h
    try dsimp only at h
    by_cases hc_17 : t_16 = true
    case neg => rw [if_neg hc_17] at h; cases h
    rw [if_pos hc_17] at h
    by_cases hc_18 : (t_14 != t_9) = true
    case pos => rw [if_pos hc_18] at h; cases h
    rw [if_neg hc_18] at h
    obtain ⟨t_20, hv_19, h⟩ := Option.bind_eq_some_iff.mp h
    try dsimp only at h
    obtain ⟨t_22, hv_21, h⟩ := Option.bind_eq_some_iff.mp h
    try dsimp only at h
    by_cases hc_23 : t_22 = true
    case neg => rw [if_neg hc_23] at h; cases h
    rw [if_pos hc_23] at h
    obtain ⟨⟨t_25, t_26⟩, hv_24, h⟩ := Option.bind_eq_some_iff.mp h
    try dsimp only at h
    by_cases hc_27 : t_25 < 0
    case pos => rw [if_pos hc_27] at h; cases h
    rw [if_neg hc_27] at h
    obtain ⟨t_29, hv_28, h⟩ := Option.bind_eq_some_iff.mp h
    try dsimp only at h
    by_cases hc_30 : t_29 = true
    case neg => rw [if_neg hc_30] at h; cases h
    rw [if_pos hc_30] at h
    obtain ⟨⟨t_32, t_33⟩, hv_31, h⟩ := Option.bind_eq_some_iff.mp h
    try dsimp only at h
    obtain ⟨t_35, hv_34, h⟩ := Option.bind_eq_some_iff.mp h
    try dsimp only at h
    by_cases hc_36 : t_35 < 0
    case pos => rw [if_pos hc_36] at h; cases h
    rw [if_neg hc_36] at h
    by_cases hc_37 : t_35 = t_32
    case neg => rw [if_neg hc_37] at h; cases h
    rw [if_pos hc_37] at h
    obtain ⟨t_39, hv_38, h⟩ := Option.bind_eq_some_iff.mp h
    try dsimp only at h
    obtain ⟨⟨t_41, t_42⟩, hv_40, h⟩ := Option.bind_eq_some_iff.mp h
    try dsimp only at h
    obtain ⟨t_44, hv_43, h⟩ := Option.bind_eq_some_iff.mp h
    try dsimp only at h
    by_cases hc_45 : t_44 = true
    case neg => rw [if_neg hc_45] at h; cases h
    rw [if_pos hc_45] at h
    by_cases hc_46 : (t_42 != t_9) = true
    case pos => rw [if_pos hc_46] at h; cases h
    rw [if_neg hc_46] at h
    obtain ⟨t_48, hv_47, h⟩ := Option.bind_eq_some_iff.mp h
    try dsimp only at h
    by_cases hc_49 : t_48 < 0
    case pos => rw [if_pos hc_49] at h; cases h
    rw [if_neg hc_49] at h
    by_cases hc_50 : t_48 = t_32
    case neg => rw [if_neg hc_50] at h; cases h
    rw [if_pos hc_50] at h
    refine sx_else (decide (t_2 < 0)) (by rfl) (decide_eq_false hc_4) ?_
    refine wp_skip ?_
    refine ex_then_n ?_
    refine wp_seq ?_
    refine sx_region ?_
    refine sx_rd 24 (.slice A0 l0.length c0) (by rfl) (by kernel_rfl) ?_
    refine sx_call 25 (by rfl) (by kernel_rfl) ((laws_toIntSS.calls _ A0 c0 l0 _ _ (hC0 _ hp) hc0 hv_5).mono ?_)
    rintro _ W_56 ⟨v_52, rfl, hR_51, hb⟩
    refine ⟨_, rfl, ?_⟩
    obtain ⟨A_53, c_54, rfl, hcc_c_54, _⟩ := Kd.S_reads hR_51
    obtain ⟨F_55, hp⟩ : ∃ F, Hp w (rowS (Kd.slice 3 (Kd.int .i64)) 30 w.heap.size (.slice A_53 t_6.length c_54) t_6 F :: cs) _ := ⟨_, Hp.madeS hp hb hR_51⟩
    refine sx_rd 26 (.int .i64 a1) (by rfl) (by kernel_rfl) ?_
    refine sx_rd 27 (.int .i64 a2) (by rfl) (by kernel_rfl) ?_
    refine sx_call 28 (by rfl) (by kernel_rfl) ((spec_SwapRows.calls _ A_53 c_54 t_6 a1 a2 _ _ _ (rowS_C (hp.at_ 0 _ (by rfl))) (rowS_len (hp.at_ 0 _ (by rfl))).2 hv_7).mono ?_)
    rintro _ W_62 ⟨v_58, rfl, hR_57, hb⟩
    refine ⟨_, rfl, ?_⟩
    obtain ⟨A_59, c_60, rfl, hcc_c_60, _⟩ := Kd.S_reads hR_57
    obtain ⟨F_61, hp⟩ : ∃ F, Hp w (rowS (Kd.slice 3 (Kd.int .i64)) 30 w.heap.size (.slice A_59 t_8.length c_60) t_8 F :: rowS (Kd.slice 3 (Kd.int .i64)) 30 w.heap.size (.slice A_53 t_6.length c_54) t_6 F_55 :: cs) _ := ⟨_, Hp.madeS hp hb hR_57⟩
    refine sx_rd 23 (.tuple #[.slice A_59 t_8.length c_60, .bool t_9]) (by rfl) (by kernel_rfl) ?_
    refine sx_rd 29 (.slice A_59 t_8.length c_60) (by rfl) (by kernel_rfl) ?_
    refine sx_rd 30 (.bool t_9) (by rfl) (by kernel_rfl) ?_
    refine sx_rd 8 (.slice A_59 t_8.length c_60) (by rfl) (by kernel_rfl) ?_
    refine sx_rd 9 (.bool t_9) (by rfl) (by kernel_rfl) ?_
    refine sx_nil ?_
    refine ex_then_n ?_
    refine wp_seq ?_
    refine sx_region ?_
    refine sx_rd 31 (.slice A0 l0.length c0) (by rfl) (by kernel_rfl) ?_
    refine sx_call 32 (by rfl) (by kernel_rfl) ((laws_toIntSS.calls _ A0 c0 l0 _ _ (hC0 _ hp.tail.tail) hc0 hv_10).mono ?_)
    rintro _ W_68 ⟨v_64, rfl, hR_63, hb⟩
    refine ⟨_, rfl, ?_⟩
    obtain ⟨A_65, c_66, rfl, hcc_c_66, _⟩ := Kd.S_reads hR_63
    obtain ⟨F_67, hp⟩ : ∃ F, Hp w (rowS (Kd.slice 3 (Kd.int .i64)) 30 w.heap.size (.slice A_65 t_11.length c_66) t_11 F :: rowS (Kd.slice 3 (Kd.int .i64)) 30 w.heap.size (.slice A_59 t_8.length c_60) t_8 F_61 :: rowS (Kd.slice 3 (Kd.int .i64)) 30 w.heap.size (.slice A_53 t_6.length c_54) t_6 F_55 :: cs) _ := ⟨_, Hp.madeS hp hb hR_63⟩
    refine sx_rd 10 (.slice A_65 t_11.length c_66) (by rfl) (by kernel_rfl) ?_
    refine sx_nil ?_
    refine ex_then_n ?_
    refine wp_seq ?_
    refine sx_region ?_
    refine sx_rd 34 (.slice A_65 t_11.length c_66) (by rfl) (by kernel_rfl) ?_
    refine sx_rd 35 (.int .i64 a1) (by rfl) (by kernel_rfl) ?_
    refine sx_rd 36 (.int .i64 a2) (by rfl) (by kernel_rfl) ?_
    refine sx_call 37 (by rfl) (by kernel_rfl) ((impl_SwapRows.calls A_65 c_66 t_11 a1 a2 _ _ _ (rowS_C (hp.at_ 0 _ (by rfl))) (rowS_len (hp.at_ 0 _ (by rfl))).2 hv_12).mono ?_)
    rintro _ W_74 ⟨v_70, rfl, hR_69, hb⟩
    refine ⟨_, rfl, ?_⟩
    obtain ⟨A_71, c_72, rfl, hcc_c_72, _⟩ := Kd.S_reads hR_69
    obtain ⟨F_73, hp⟩ : ∃ F, Hp w (rowS (Kd.slice 3 (Kd.int .i64)) 30 w.heap.size (.slice A_71 t_13.length c_72) t_13 F :: rowS (Kd.slice 3 (Kd.int .i64)) 30 w.heap.size (.slice A_65 t_11.length c_66) t_11 F_67 :: rowS (Kd.slice 3 (Kd.int .i64)) 30 w.heap.size (.slice A_59 t_8.length c_60) t_8 F_61 :: rowS (Kd.slice 3 (Kd.int .i64)) 30 w.heap.size (.slice A_53 t_6.length c_54) t_6 F_55 :: cs) _ := ⟨_, Hp.madeS hp hb hR_69⟩
    refine sx_rd 33 (.tuple #[.slice A_71 t_13.length c_72, .bool t_14]) (by rfl) (by kernel_rfl) ?_
    refine sx_rd 38 (.slice A_71 t_13.length c_72) (by rfl) (by kernel_rfl) ?_
    refine sx_rd 39 (.bool t_14) (by rfl) (by kernel_rfl) ?_
    refine sx_rd 11 (.slice A_71 t_13.length c_72) (by rfl) (by kernel_rfl) ?_
    refine sx_rd 12 (.bool t_14) (by rfl) (by kernel_rfl) ?_
    refine sx_nil ?_
    refine ex_then_n ?_
    refine wp_seq ?_
    refine wp_seq ?_
    refine sx_region ?_
    refine sx_rd 40 (.slice A_71 t_13.length c_72) (by rfl) (by kernel_rfl) ?_
    refine sx_rd 41 (.slice A_59 t_8.length c_60) (by rfl) (by kernel_rfl) ?_
    refine sx_call 42 (by rfl) (by kernel_rfl) ((laws_eqIntSS.calls _ A_71 c_72 t_13 A_59 c_60 t_8 _ _ (rowS_C (hp.at_ 0 _ (by rfl))) (rowS_len (hp.at_ 0 _ (by rfl))).2 (rowS_C (hp.at_ 2 _ (by rfl))) (rowS_len (hp.at_ 2 _ (by rfl))).2 hv_15).mono ?_)
    rintro _ W_75 ⟨rfl, hb⟩
    refine ⟨_, rfl, ?_⟩
    replace hp := hp.below hb.below
    clear hb
    refine sx_rd 43 (.bool false) (by rfl) (bv (show (!t_16) = false from by rw [hc_17]; rfl) (by kernel_rfl)) ?_
    refine sx_rd 44 (.bool false) (by rfl) (by kernel_rfl) ?_
    refine sx_want (by rfl) ?_
    refine sx_rd 45 (.bool t_14) (by rfl) (by kernel_rfl) ?_
    refine sx_want (by rfl) ?_
    refine sx_rd 46 (.bool t_9) (by rfl) (by kernel_rfl) ?_
    refine sx_want (by rfl) ?_
    refine sx_rd 47 (.bool (t_14 != t_9)) (by rfl) (by kernel_rfl) ?_
    refine sx_rd 48 (.bool (t_14 != t_9)) (by rfl) (by kernel_rfl) ?_
    refine sx_nil ?_
    refine ex_then_n ?_
    refine sx_else (t_14 != t_9) (by rfl) (Bool.eq_false_iff.mpr hc_18) ?_
    refine wp_skip ?_
    refine ex_then_n ?_
    refine wp_seq ?_
    refine wp_seq ?_
    refine sx_region ?_
    refine sx_rd 49 (.slice A_65 t_11.length c_66) (by rfl) (by kernel_rfl) ?_
    refine sx_rd 50 (.slice A0 l0.length c0) (by rfl) (by kernel_rfl) ?_
    refine sx_call 51 (by rfl) (by kernel_rfl) ((laws_toIntSS.calls _ A0 c0 l0 _ _ (hC0 _ hp.tail.tail.tail.tail) hc0 hv_19).mono ?_)
    rintro _ W_81 ⟨v_77, rfl, hR_76, hb⟩
    refine ⟨_, rfl, ?_⟩
    obtain ⟨A_78, c_79, rfl, hcc_c_79, _⟩ := Kd.S_reads hR_76
    obtain ⟨F_80, hp⟩ : ∃ F, Hp w (rowS (Kd.slice 3 (Kd.int .i64)) 30 w.heap.size (.slice A_78 t_20.length c_79) t_20 F :: rowS (Kd.slice 3 (Kd.int .i64)) 30 w.heap.size (.slice A_71 t_13.length c_72) t_13 F_73 :: rowS (Kd.slice 3 (Kd.int .i64)) 30 w.heap.size (.slice A_65 t_11.length c_66) t_11 F_67 :: rowS (Kd.slice 3 (Kd.int .i64)) 30 w.heap.size (.slice A_59 t_8.length c_60) t_8 F_61 :: rowS (Kd.slice 3 (Kd.int .i64)) 30 w.heap.size (.slice A_53 t_6.length c_54) t_6 F_55 :: cs) _ := ⟨_, Hp.madeS hp hb hR_76⟩
    refine sx_call 52 (by rfl) (by kernel_rfl) ((laws_eqIntSS.calls _ A_65 c_66 t_11 A_78 c_79 t_20 _ _ (rowS_C (hp.at_ 2 _ (by rfl))) (rowS_len (hp.at_ 2 _ (by rfl))).2 (rowS_C (hp.at_ 0 _ (by rfl))) (rowS_len (hp.at_ 0 _ (by rfl))).2 hv_21).mono ?_)
    rintro _ W_82 ⟨rfl, hb⟩
    refine ⟨_, rfl, ?_⟩
    replace hp := hp.below hb.below
    clear hb
    refine sx_rd 53 (.bool (!t_22)) (by rfl) (by kernel_rfl) ?_
    refine sx_nil ?_
    refine ex_then_n ?_
    refine sx_else (!t_22) (by rfl) (show (!t_22) = false from by rw [hc_23]; rfl) ?_
    refine wp_skip ?_
    refine ex_then_n ?_
    refine wp_seq ?_
    refine sx_region ?_
    refine sx_rd 13 (.int .i64 1) (by rfl) (by kernel_rfl) ?_
    refine sx_nil ?_
    refine ex_then_n ?_
    refine wp_seq ?_
    refine sx_region ?_
    refine sx_rd 54 (.slice A_65 t_11.length c_66) (by rfl) (by kernel_rfl) ?_
    refine sx_rd 55 (.int .i64 1) (by rfl) (by kernel_rfl) ?_
    refine sx_call 56 (by rfl) (by kernel_rfl) ((laws_markIntSS.calls _ F_67 (.slice A_65 t_11.length c_66) t_11 1 _ _ w _ (hc2 _ (hp.tail.tail.tail.tail.tail)) (rowS_S (hp.at_ 2 _ (by rfl))) hv_24).mono ?_)
    rintro _ W_87 ⟨rfl, hR_83, hB_84, hK_85⟩
    refine ⟨_, rfl, ?_⟩
    have hp := (hp.take [2, 0, 1, 3, 4] 5 (by decide) (by simp))
    obtain ⟨F_86, hp⟩ : ∃ F_86, Hp w (rowS (Kd.slice 3 (Kd.int .i64)) 30 w.heap.size (.slice A_65 t_11.length c_66) t_26 F_86 :: rowS (Kd.slice 3 (Kd.int .i64)) 30 w.heap.size (.slice A_78 t_20.length c_79) t_20 F_80 :: rowS (Kd.slice 3 (Kd.int .i64)) 30 w.heap.size (.slice A_71 t_13.length c_72) t_13 F_73 :: rowS (Kd.slice 3 (Kd.int .i64)) 30 w.heap.size (.slice A_59 t_8.length c_60) t_8 F_61 :: rowS (Kd.slice 3 (Kd.int .i64)) 30 w.heap.size (.slice A_53 t_6.length c_54) t_6 F_55 :: cs) _ := ⟨_, Hp.markedS hp hB_84 hK_85 hR_83⟩
    obtain ⟨hn_88, -⟩ := rowS_len (hp.at_ 0 _ (by rfl))
    rw [hn_88] at hp
    try rw [hn_88]
    refine sx_rd 13 (.int .i64 t_25) (by rfl) (by kernel_rfl) ?_
    refine sx_nil ?_
    refine ex_then_n ?_
    refine wp_seq ?_
    refine wp_seq ?_
    refine sx_region ?_
    refine sx_rd 57 (.int .i64 t_25) (by rfl) (by kernel_rfl) ?_
    refine sx_rd 58 (.bool false) (by rfl) (bv (decide_eq_false hc_27) (by kernel_rfl)) ?_
    refine sx_rd 59 (.bool false) (by rfl) (by kernel_rfl) ?_
    refine sx_want (by rfl) ?_
    refine sx_rd 60 (.slice A_71 t_13.length c_72) (by rfl) (by kernel_rfl) ?_
    refine sx_want (by rfl) ?_
    refine sx_rd 61 (.slice A_59 t_8.length c_60) (by rfl) (by kernel_rfl) ?_
    refine sx_want (by rfl) ?_
    refine sx_call 62 (by rfl) (by kernel_rfl) ((laws_eqIntSS.calls _ A_71 c_72 t_13 A_59 c_60 t_8 _ _ (rowS_C (hp.at_ 2 _ (by rfl))) (rowS_len (hp.at_ 2 _ (by rfl))).2 (rowS_C (hp.at_ 3 _ (by rfl))) (rowS_len (hp.at_ 3 _ (by rfl))).2 hv_28).mono ?_)
    rintro _ W_89 ⟨rfl, hb⟩
    refine ⟨_, rfl, ?_⟩
    replace hp := hp.below hb.below
    clear hb
    refine sx_want (by rfl) ?_
    refine sx_rd 63 (.bool false) (by rfl) (bv (show (!t_29) = false from by rw [hc_30]; rfl) (by kernel_rfl)) ?_
    refine sx_rd 64 (.bool false) (by rfl) (by kernel_rfl) ?_
    refine sx_rd 65 (.bool false) (by rfl) (by kernel_rfl) ?_
    refine sx_want (by rfl) ?_
    refine sx_rd 66 (.bool t_14) (by rfl) (by kernel_rfl) ?_
    refine sx_want (by rfl) ?_
    refine sx_rd 67 (.bool t_9) (by rfl) (by kernel_rfl) ?_
    refine sx_want (by rfl) ?_
    refine sx_rd 68 (.bool false) (by rfl) (bv (Bool.eq_false_iff.mpr hc_18) (by kernel_rfl)) ?_
    refine sx_rd 69 (.bool false) (by rfl) (by kernel_rfl) ?_
    refine sx_nil ?_
    refine ex_then_n ?_
    refine sx_else false (by rfl) rfl ?_
    refine wp_skip ?_
    refine ex_then_n ?_
    refine wp_seq ?_
    refine sx_region ?_
    refine sx_rd 14 (.int .i64 1) (by rfl) (by kernel_rfl) ?_
    refine sx_nil ?_
    refine ex_then_n ?_
    refine wp_seq ?_
    refine sx_region ?_
    refine sx_rd 70 (.slice A_71 t_13.length c_72) (by rfl) (by kernel_rfl) ?_
    refine sx_rd 71 (.int .i64 1) (by rfl) (by kernel_rfl) ?_
    refine sx_call 72 (by rfl) (by kernel_rfl) ((laws_markIntSS.calls _ F_73 (.slice A_71 t_13.length c_72) t_13 1 _ _ w _ (hc2 _ (hp.tail.tail.tail.tail.tail)) (rowS_S (hp.at_ 2 _ (by rfl))) hv_31).mono ?_)
    rintro _ W_94 ⟨rfl, hR_90, hB_91, hK_92⟩
    refine ⟨_, rfl, ?_⟩
    have hp := (hp.take [2, 0, 1, 3, 4] 5 (by decide) (by simp))
    obtain ⟨F_93, hp⟩ : ∃ F_93, Hp w (rowS (Kd.slice 3 (Kd.int .i64)) 30 w.heap.size (.slice A_71 t_13.length c_72) t_33 F_93 :: rowS (Kd.slice 3 (Kd.int .i64)) 30 w.heap.size (.slice A_65 t_26.length c_66) t_26 F_86 :: rowS (Kd.slice 3 (Kd.int .i64)) 30 w.heap.size (.slice A_78 t_20.length c_79) t_20 F_80 :: rowS (Kd.slice 3 (Kd.int .i64)) 30 w.heap.size (.slice A_59 t_8.length c_60) t_8 F_61 :: rowS (Kd.slice 3 (Kd.int .i64)) 30 w.heap.size (.slice A_53 t_6.length c_54) t_6 F_55 :: cs) _ := ⟨_, Hp.markedS hp hB_91 hK_92 hR_90⟩
    obtain ⟨hn_95, -⟩ := rowS_len (hp.at_ 0 _ (by rfl))
    rw [hn_95] at hp
    try rw [hn_95]
    refine sx_rd 14 (.int .i64 t_32) (by rfl) (by kernel_rfl) ?_
    refine sx_nil ?_
    refine ex_then_n ?_
    refine wp_seq ?_
    refine sx_region ?_
    refine sx_rd 15 (.int .i64 1) (by rfl) (by kernel_rfl) ?_
    refine sx_nil ?_
    refine ex_then_n ?_
    refine wp_seq ?_
    refine sx_region ?_
    refine sx_rd 73 (.slice A_71 t_33.length c_72) (by rfl) (by kernel_rfl) ?_
    refine sx_rd 74 (.int .i64 1) (by rfl) (by kernel_rfl) ?_
    refine sx_call 75 (by rfl) (by kernel_rfl) ((laws_heldIntSS.calls _ A_71 c_72 t_33 1 _ _ (rowS_C (hp.at_ 0 _ (by rfl))) (rowS_len (hp.at_ 0 _ (by rfl))).2 hv_34).mono ?_)
    rintro _ W_96 ⟨rfl, hb⟩
    refine ⟨_, rfl, ?_⟩
    replace hp := hp.below hb.below
    clear hb
    refine sx_rd 15 (.int .i64 t_35) (by rfl) (by kernel_rfl) ?_
    refine sx_nil ?_
    refine ex_then_n ?_
    refine wp_seq ?_
    refine wp_seq ?_
    refine sx_region ?_
    refine sx_rd 76 (.int .i64 t_35) (by rfl) (by kernel_rfl) ?_
    refine sx_rd 77 (.bool (decide (t_35 < 0))) (by rfl) (by kernel_rfl) ?_
    refine sx_nil ?_
    refine ex_then_n ?_
    refine sx_else (decide (t_35 < 0)) (by rfl) (decide_eq_false hc_36) ?_
    refine wp_skip ?_
    refine ex_then_n ?_
    refine wp_seq ?_
    refine wp_seq ?_
    refine sx_region ?_
    refine sx_rd 78 (.int .i64 t_35) (by rfl) (by kernel_rfl) ?_
    refine sx_rd 79 (.int .i64 t_32) (by rfl) (by kernel_rfl) ?_
    refine sx_rd 80 (.bool (t_35 != t_32)) (by rfl) (by kernel_rfl) ?_
    refine sx_nil ?_
    refine ex_then_n ?_
    refine sx_else (t_35 != t_32) (by rfl) (bne_eq_false_iff_eq.mpr hc_37) ?_
    refine wp_skip ?_
    refine ex_then_n ?_
    refine wp_seq ?_
    refine sx_region ?_
    refine sx_rd 82 (.slice A0 l0.length c0) (by rfl) (by kernel_rfl) ?_
    refine sx_call 83 (by rfl) (by kernel_rfl) ((laws_toIntSS.calls _ A0 c0 l0 _ _ (hC0 _ hp.tail.tail.tail.tail.tail) hc0 hv_38).mono ?_)
    rintro _ W_102 ⟨v_98, rfl, hR_97, hb⟩
    refine ⟨_, rfl, ?_⟩
    obtain ⟨A_99, c_100, rfl, hcc_c_100, _⟩ := Kd.S_reads hR_97
    obtain ⟨F_101, hp⟩ : ∃ F, Hp w (rowS (Kd.slice 3 (Kd.int .i64)) 30 w.heap.size (.slice A_99 t_39.length c_100) t_39 F :: rowS (Kd.slice 3 (Kd.int .i64)) 30 w.heap.size (.slice A_71 t_33.length c_72) t_33 F_93 :: rowS (Kd.slice 3 (Kd.int .i64)) 30 w.heap.size (.slice A_65 t_26.length c_66) t_26 F_86 :: rowS (Kd.slice 3 (Kd.int .i64)) 30 w.heap.size (.slice A_78 t_20.length c_79) t_20 F_80 :: rowS (Kd.slice 3 (Kd.int .i64)) 30 w.heap.size (.slice A_59 t_8.length c_60) t_8 F_61 :: rowS (Kd.slice 3 (Kd.int .i64)) 30 w.heap.size (.slice A_53 t_6.length c_54) t_6 F_55 :: cs) _ := ⟨_, Hp.madeS hp hb hR_97⟩
    refine sx_rd 84 (.int .i64 a1) (by rfl) (by kernel_rfl) ?_
    refine sx_rd 85 (.int .i64 a2) (by rfl) (by kernel_rfl) ?_
    refine sx_call 86 (by rfl) (by kernel_rfl) ((impl_SwapRows.calls A_99 c_100 t_39 a1 a2 _ _ _ (rowS_C (hp.at_ 0 _ (by rfl))) (rowS_len (hp.at_ 0 _ (by rfl))).2 hv_40).mono ?_)
    rintro _ W_108 ⟨v_104, rfl, hR_103, hb⟩
    refine ⟨_, rfl, ?_⟩
    obtain ⟨A_105, c_106, rfl, hcc_c_106, _⟩ := Kd.S_reads hR_103
    obtain ⟨F_107, hp⟩ : ∃ F, Hp w (rowS (Kd.slice 3 (Kd.int .i64)) 30 w.heap.size (.slice A_105 t_41.length c_106) t_41 F :: rowS (Kd.slice 3 (Kd.int .i64)) 30 w.heap.size (.slice A_99 t_39.length c_100) t_39 F_101 :: rowS (Kd.slice 3 (Kd.int .i64)) 30 w.heap.size (.slice A_71 t_33.length c_72) t_33 F_93 :: rowS (Kd.slice 3 (Kd.int .i64)) 30 w.heap.size (.slice A_65 t_26.length c_66) t_26 F_86 :: rowS (Kd.slice 3 (Kd.int .i64)) 30 w.heap.size (.slice A_78 t_20.length c_79) t_20 F_80 :: rowS (Kd.slice 3 (Kd.int .i64)) 30 w.heap.size (.slice A_59 t_8.length c_60) t_8 F_61 :: rowS (Kd.slice 3 (Kd.int .i64)) 30 w.heap.size (.slice A_53 t_6.length c_54) t_6 F_55 :: cs) _ := ⟨_, Hp.madeS hp hb hR_103⟩
    refine sx_rd 81 (.tuple #[.slice A_105 t_41.length c_106, .bool t_42]) (by rfl) (by kernel_rfl) ?_
    refine sx_rd 87 (.slice A_105 t_41.length c_106) (by rfl) (by kernel_rfl) ?_
    refine sx_rd 88 (.bool t_42) (by rfl) (by kernel_rfl) ?_
    refine sx_rd 16 (.slice A_105 t_41.length c_106) (by rfl) (by kernel_rfl) ?_
    refine sx_rd 17 (.bool t_42) (by rfl) (by kernel_rfl) ?_
    refine sx_nil ?_
    refine ex_then_n ?_
    refine wp_seq ?_
    refine wp_seq ?_
    refine sx_region ?_
    refine sx_rd 89 (.slice A_105 t_41.length c_106) (by rfl) (by kernel_rfl) ?_
    refine sx_rd 90 (.slice A_59 t_8.length c_60) (by rfl) (by kernel_rfl) ?_
    refine sx_call 91 (by rfl) (by kernel_rfl) ((laws_eqIntSS.calls _ A_105 c_106 t_41 A_59 c_60 t_8 _ _ (rowS_C (hp.at_ 0 _ (by rfl))) (rowS_len (hp.at_ 0 _ (by rfl))).2 (rowS_C (hp.at_ 5 _ (by rfl))) (rowS_len (hp.at_ 5 _ (by rfl))).2 hv_43).mono ?_)
    rintro _ W_109 ⟨rfl, hb⟩
    refine ⟨_, rfl, ?_⟩
    replace hp := hp.below hb.below
    clear hb
    refine sx_rd 92 (.bool false) (by rfl) (bv (show (!t_44) = false from by rw [hc_45]; rfl) (by kernel_rfl)) ?_
    refine sx_rd 93 (.bool false) (by rfl) (by kernel_rfl) ?_
    refine sx_want (by rfl) ?_
    refine sx_rd 94 (.bool t_42) (by rfl) (by kernel_rfl) ?_
    refine sx_want (by rfl) ?_
    refine sx_rd 95 (.bool t_9) (by rfl) (by kernel_rfl) ?_
    refine sx_want (by rfl) ?_
    refine sx_rd 96 (.bool (t_42 != t_9)) (by rfl) (by kernel_rfl) ?_
    refine sx_rd 97 (.bool (t_42 != t_9)) (by rfl) (by kernel_rfl) ?_
    refine sx_nil ?_
    refine ex_then_n ?_
    refine sx_else (t_42 != t_9) (by rfl) (Bool.eq_false_iff.mpr hc_46) ?_
    refine wp_skip ?_
    refine ex_then_n ?_
    refine wp_seq ?_
    refine sx_region ?_
    refine sx_rd 15 (.int .i64 1) (by rfl) (by kernel_rfl) ?_
    refine sx_nil ?_
    refine ex_then_n ?_
    refine wp_seq ?_
    refine sx_region ?_
    refine sx_rd 98 (.slice A_71 t_33.length c_72) (by rfl) (by kernel_rfl) ?_
    refine sx_rd 99 (.int .i64 1) (by rfl) (by kernel_rfl) ?_
    refine sx_call 100 (by rfl) (by kernel_rfl) ((laws_heldIntSS.calls _ A_71 c_72 t_33 1 _ _ (rowS_C (hp.at_ 2 _ (by rfl))) (rowS_len (hp.at_ 2 _ (by rfl))).2 hv_47).mono ?_)
    rintro _ W_110 ⟨rfl, hb⟩
    refine ⟨_, rfl, ?_⟩
    replace hp := hp.below hb.below
    clear hb
    refine sx_rd 15 (.int .i64 t_48) (by rfl) (by kernel_rfl) ?_
    refine sx_nil ?_
    refine ex_then_n ?_
    refine wp_seq ?_
    refine wp_seq ?_
    refine sx_region ?_
    refine sx_rd 101 (.int .i64 t_48) (by rfl) (by kernel_rfl) ?_
    refine sx_rd 102 (.bool (decide (t_48 < 0))) (by rfl) (by kernel_rfl) ?_
    refine sx_nil ?_
    refine ex_then_n ?_
    refine sx_else (decide (t_48 < 0)) (by rfl) (decide_eq_false hc_49) ?_
    refine wp_skip ?_
    refine ex_then_n ?_
    refine wp_seq ?_
    refine wp_seq ?_
    refine sx_region ?_
    refine sx_rd 103 (.int .i64 t_48) (by rfl) (by kernel_rfl) ?_
    refine sx_rd 104 (.int .i64 t_32) (by rfl) (by kernel_rfl) ?_
    refine sx_rd 105 (.bool (t_48 != t_32)) (by rfl) (by kernel_rfl) ?_
    refine sx_nil ?_
    refine ex_then_n ?_
    refine sx_else (t_48 != t_32) (by rfl) (bne_eq_false_iff_eq.mpr hc_50) ?_
    refine wp_skip ?_
    refine ex_then_n ?_
    refine wp_seq ?_
    refine sx_region ?_
    refine sx_rd 6 (.bool true) (by rfl) (by kernel_rfl) ?_
    refine sx_nil ?_
    refine ex_then_n ?_
    refine wp_ret ?_
    refine sx_end (.bool true) (res1 6 (by rfl)) ?_
    obtain rfl := Option.some.inj h
    exact ⟨rfl, hc2 _ (hp.tail.tail.tail.tail.tail.tail.tail)⟩
end
end Go.Proofs.Ytipkmbgebpeeoaa.Hd
