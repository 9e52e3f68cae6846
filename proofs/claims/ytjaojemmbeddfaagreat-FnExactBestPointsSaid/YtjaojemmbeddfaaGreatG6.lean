-- Printed by hprint.py and laid together by pack.py (this session's programs over the kit's print program). Lean checks it.
import Derived.Test.YtjaojemmbeddfaaGreatMSx5
import Derived.Test.YtjaojemmbeddfaaGreatMSxL
import Derived.Test.YtjaojemmbeddfaaGreatG0
import Derived.Test.YtjaojemmbeddfaaGreatG2
import Derived.Test.YtjaojemmbeddfaaGreatG3
import Derived.Test.YtjaojemmbeddfaaGreatG5
import Derived.Test.YtjaojemmbeddfaaGreatMBestPoints
namespace Go.Proofs.YtjaojemmbeddfaaGreat.Hd
section
open Go.RowKit Go.Proofs.YtjaojemmbeddfaaGreatW.PrintWords Go.Proofs.YtjaojemmbeddfaaGreatW.PrintLast Go.Proofs.YtjaojemmbeddfaaGreatW.PrintMore
attribute [local go_sem] max2_int min2_int max_two min_two max_three min_three max_four min_four   -- for this text's walks alone
set_option linter.unusedVariables false
set_option linter.unusedSimpArgs false

def laws_FnExactBestPoints.f (k : Nat) (l0_0 : List (S_LTile)) (l0_1 : List (S_LTile)) (l0_2 : List Int) (a0_3 : Int) (a0_4 : Int) : Option (Bool):=(laws_szGame.f l0_0 l0_1 l0_2 a0_3 a0_4 1048576).bind fun t530 => (if t530 < 0 then (some true) else ((laws_toGame.f k l0_0 l0_1 l0_2 a0_3 a0_4).bind fun bt531 => ((spec_BestPoints.f k bt531.1 bt531.2.1 bt531.2.2.1 bt531.2.2.2.1 bt531.2.2.2.2).bind fun bt542 => ((laws_toGame.f k l0_0 l0_1 l0_2 a0_3 a0_4).bind fun bt544 => ((impl_BestPoints.f bt544.1 bt544.2.1 bt544.2.2.1 bt544.2.2.2.1 bt544.2.2.2.2).bind fun bt556 => (if bt556.1 = bt542.1 then (if (bt556.2 != bt542.2) = true then (none) else ((laws_toGame.f k l0_0 l0_1 l0_2 a0_3 a0_4).bind fun bt558 => ((laws_eqGame.f k bt544.1 bt544.2.1 bt544.2.2.1 bt544.2.2.2.1 bt544.2.2.2.2 bt558.1 bt558.2.1 bt558.2.2.1 bt558.2.2.2.1 bt558.2.2.2.2).bind fun t569 => (if t569 = true then (some true) else (none))))) else (none)))))))
set_option maxRecDepth 100000 in
set_option maxHeartbeats 40000000 in
theorem laws_FnExactBestPoints.calls (k : Nat) (A0_0 : Option Addr) (c0_0 : Nat) (l0_0 : List (S_LTile)) (A0_1 : Option Addr) (c0_1 : Nat) (l0_1 : List (S_LTile)) (A0_2 : Option Addr) (c0_2 : Nat) (l0_2 : List Int) (a0_3 : Int) (a0_4 : Int) (r : Bool) (w : World) (hr0_0 : Kd.C k59 w A0_0 l0_0.length l0_0) (hc0_0 : l0_0.length ≤ c0_0) (hr0_1 : Kd.C k59 w A0_1 l0_1.length l0_1) (hc0_1 : l0_1.length ≤ c0_1) (hr0_2 : Kd.C (Kd.int .i64) w A0_2 l0_2.length l0_2) (hc0_2 : l0_2.length ≤ c0_2) (h : laws_FnExactBestPoints.f k l0_0 l0_1 l0_2 a0_3 a0_4 = some r) :
    Calls Tryz.prog 5 #[.agg #[.slice A0_0 l0_0.length c0_0,.slice A0_1 l0_1.length c0_1,.slice A0_2 l0_2.length c0_2,.int .i64 a0_3,.int .i64 a0_4]] w fun e w' => e = .returned (.bool r) ∧ Below w.heap.size w w':=by
  obtain ⟨cs,hcs⟩ : ∃ cs,cs = [old w w.heap.size]:=⟨_,rfl⟩
  have hp : Hp w cs w:=by rw [hcs];exact Hp.old_start w
  have hc2 : ∀ W,Hp w cs W → Below w.heap.size w W:=fun W h => by rw [hcs] at h;exact h.since 0 _ rfl
  have hC0_0 : ∀ W,Hp w cs W → Kd.C k59 W A0_0 l0_0.length l0_0:=fun W h => Kd.C_below hr0_0 (hc2 W h)
  have hC0_1 : ∀ W,Hp w cs W → Kd.C k59 W A0_1 l0_1.length l0_1:=fun W h => Kd.C_below hr0_1 (hc2 W h)
  have hC0_2 : ∀ W,Hp w cs W → Kd.C (Kd.int .i64) W A0_2 l0_2.length l0_2:=fun W h => Kd.C_below hr0_2 (hc2 W h)
  clear hcs
  unfold laws_FnExactBestPoints.f at h
  obtain ⟨t_2,hv_1,h⟩:=Option.bind_eq_some_iff.mp h
  try dsimp only at h
  refine sx_enter (N:=40) (l:=[.agg #[.slice A0_0 l0_0.length c0_0,.slice A0_1 l0_1.length c0_1,.slice A0_2 l0_2.length c0_2,.int .i64 a0_3,.int .i64 a0_4]]) Tryz.func5 rfl rfl rfl ?_
  refine wp_seq ?_
  refine sx_region ?_
  refine sx_box 1 hp #[.slice A0_0 l0_0.length c0_0,.slice A0_1 l0_1.length c0_1,.slice A0_2 l0_2.length c0_2,.int .i64 a0_3,.int .i64 a0_4] 25 (by rfl) (fun W => by kernel_rfl) ?_
  intro g_3 W_4 hp
  refine sx_rd 2 (.bool false) (by rfl) (by kernel_rfl) ?_
  refine sx_nil ?_
  refine ex_then_n ?_
  refine wp_seq ?_
  refine sx_region ?_
  refine sx_rd 3 (.int .i64 1048576) (by rfl) (by kernel_rfl) ?_
  refine sx_nil ?_
  refine ex_then_n ?_
  refine wp_seq ?_
  refine sx_region ?_
  refine sx_rd 9 (.agg #[.slice A0_0 l0_0.length c0_0,.slice A0_1 l0_1.length c0_1,.slice A0_2 l0_2.length c0_2,.int .i64 a0_3,.int .i64 a0_4]) (by rfl) (ldn (t:=25) (p:=(.tmp 1)) (by rfl) (by rfl) (by kernel_rfl) (by kernel_rfl) (by kernel_rfl) (hp.at_ 0 _ (by rfl))) ?_
  refine sx_rd 10 (.int .i64 1048576) (by rfl) (by kernel_rfl) ?_
  refine sx_call 11 (by rfl) (by kernel_rfl) ((laws_szGame.calls A0_0 c0_0 l0_0 A0_1 c0_1 l0_1 A0_2 c0_2 l0_2 a0_3 a0_4 1048576 _ _ (hC0_0 _ hp.tail) hc0_0 (hC0_1 _ hp.tail) hc0_1 (hC0_2 _ hp.tail) hc0_2 hv_1).mono ?_)
  rintro _ W_5 ⟨rfl,hb⟩
  refine ⟨_,rfl,?_⟩
  replace hp:=hp.below hb
  clear hb
  refine sx_rd 3 (.int .i64 t_2) (by rfl) (by kernel_rfl) ?_
  refine sx_nil ?_
  refine ex_then_n ?_
  refine wp_seq ?_
  refine wp_seq ?_
  refine sx_region ?_
  refine sx_rd 12 (.int .i64 t_2) (by rfl) (by kernel_rfl) ?_
  refine sx_rd 13 (.bool (decide (t_2 < 0))) (by rfl) (by kernel_rfl) ?_
  refine sx_nil ?_
  refine ex_then_n ?_
  by_cases hc_6 : t_2 < 0
  ·
    rw [if_pos hc_6] at h
    refine sx_then (decide (t_2 < 0)) (by rfl) (decide_eq_true hc_6) ?_
    refine wp_seq ?_
    refine sx_region ?_
    refine sx_rd 2 (.bool true) (by rfl) (by kernel_rfl) ?_
    refine sx_nil ?_
    refine ex_then_n ?_
    refine wp_ret ?_
    refine ex_then_r ?_
    refine sx_end (.bool true) (res1 2 (by rfl)) ?_
    obtain rfl:=Option.some.inj h
    exact ⟨rfl,hc2 _ (hp.tail)⟩
  ·
    rw [if_neg hc_6] at h
    obtain ⟨⟨t_8,t_9,t_10,t_11,t_12⟩,hv_7,h⟩:=Option.bind_eq_some_iff.mp h
    try dsimp only at h
    obtain ⟨⟨t_14,t_15⟩,hv_13,h⟩:=Option.bind_eq_some_iff.mp h
    try dsimp only at h
    obtain ⟨⟨t_17,t_18,t_19,t_20,t_21⟩,hv_16,h⟩:=Option.bind_eq_some_iff.mp h
    try dsimp only at h
    obtain ⟨⟨t_23,t_24⟩,hv_22,h⟩:=Option.bind_eq_some_iff.mp h
    try dsimp only at h
    by_cases hc_25 : t_23 = t_14
    case neg => rw [if_neg hc_25] at h;cases h
    rw [if_pos hc_25] at h
    by_cases hc_26 : (t_24 != t_15) = true
    case pos => rw [if_pos hc_26] at h;cases h
    rw [if_neg hc_26] at h
    obtain ⟨⟨t_28,t_29,t_30,t_31,t_32⟩,hv_27,h⟩:=Option.bind_eq_some_iff.mp h
    try dsimp only at h
    obtain ⟨t_34,hv_33,h⟩:=Option.bind_eq_some_iff.mp h
    try dsimp only at h
    by_cases hc_35 : t_34 = true
    case neg => rw [if_neg hc_35] at h;cases h
    rw [if_pos hc_35] at h
    refine sx_else (decide (t_2 < 0)) (by rfl) (decide_eq_false hc_6) ?_
    refine wp_skip ?_
    refine ex_then_n ?_
    refine wp_seq ?_
    refine sx_region ?_
    refine sx_rd 15 (.agg #[.slice A0_0 l0_0.length c0_0,.slice A0_1 l0_1.length c0_1,.slice A0_2 l0_2.length c0_2,.int .i64 a0_3,.int .i64 a0_4]) (by rfl) (ldn (t:=25) (p:=(.tmp 1)) (by rfl) (by rfl) (by kernel_rfl) (by kernel_rfl) (by kernel_rfl) (hp.at_ 0 _ (by rfl))) ?_
    refine sx_call 16 (by rfl) (by kernel_rfl) ((laws_toGame.calls _ A0_0 c0_0 l0_0 A0_1 c0_1 l0_1 A0_2 c0_2 l0_2 a0_3 a0_4 _ _ _ _ _ _ (hC0_0 _ hp.tail) hc0_0 (hC0_1 _ hp.tail) hc0_1 (hC0_2 _ hp.tail) hc0_2 hv_7).mono ?_)
    rintro _ W_51 ⟨v_39,v_40,v_41,rfl,hR_36,hR_37,hR_38,hb⟩
    refine ⟨_,rfl,?_⟩
    obtain ⟨A_42,c_43,rfl,hcc_c_43,_⟩:=Kd.R_reads hR_36
    obtain ⟨A_45,c_46,rfl,hcc_c_46,_⟩:=Kd.R_reads hR_37
    obtain ⟨A_48,c_49,rfl,hcc_c_49,_⟩:=Kd.R_reads hR_38
    obtain ⟨F_44,F_47,F_50,hp⟩ : ∃ F_44 F_47 F_50,Hp w (row k53 53 w.heap.size (.slice A_42 t_8.length c_43) t_8 F_44 :: row k53 53 w.heap.size (.slice A_45 t_9.length c_46) t_9 F_47 :: row (Kd.int .i64) 3 w.heap.size (.slice A_48 t_10.length c_49) t_10 F_50 :: blk g_3 #[.slice A0_0 l0_0.length c0_0,.slice A0_1 l0_1.length c0_1,.slice A0_2 l0_2.length c0_2,.int .i64 a0_3,.int .i64 a0_4] 25 :: cs) _:=⟨_,_,_,Hp.made3 hp hb rfl rfl rfl hR_36 hR_37 hR_38 (ok_apart hR_36 (fun k hk => hk)) (typed_apart hR_36 hR_38 (by decide)) (typed_apart hR_37 hR_38 (by decide))⟩
    refine sx_call 17 (by rfl) (by kernel_rfl) ((spec_BestPoints.calls _ A_42 c_43 t_8 A_45 c_46 t_9 A_48 c_49 t_10 t_11 t_12 _ _ _ (row_C (hp.at_ 0 _ (by rfl))) (row_len (hp.at_ 0 _ (by rfl))).2 (row_C (hp.at_ 1 _ (by rfl))) (row_len (hp.at_ 1 _ (by rfl))).2 (row_C (hp.at_ 2 _ (by rfl))) (row_len (hp.at_ 2 _ (by rfl))).2 hv_13).mono ?_)
    rintro _ W_52 ⟨rfl,hb⟩
    refine ⟨_,rfl,?_⟩
    replace hp:=hp.below hb
    clear hb
    refine sx_rd 14 (.tuple #[.int .i64 t_14,.bool t_15]) (by rfl) (by kernel_rfl) ?_
    refine sx_rd 18 (.int .i64 t_14) (by rfl) (by kernel_rfl) ?_
    refine sx_rd 19 (.bool t_15) (by rfl) (by kernel_rfl) ?_
    refine sx_rd 4 (.int .i64 t_14) (by rfl) (by kernel_rfl) ?_
    refine sx_rd 5 (.bool t_15) (by rfl) (by kernel_rfl) ?_
    refine sx_nil ?_
    refine ex_then_n ?_
    refine wp_seq ?_
    refine sx_region ?_
    refine sx_rd 20 (.agg #[.slice A0_0 l0_0.length c0_0,.slice A0_1 l0_1.length c0_1,.slice A0_2 l0_2.length c0_2,.int .i64 a0_3,.int .i64 a0_4]) (by rfl) (ldn (t:=25) (p:=(.tmp 1)) (by rfl) (by rfl) (by kernel_rfl) (by kernel_rfl) (by kernel_rfl) (hp.at_ 3 _ (by rfl))) ?_
    refine sx_call 21 (by rfl) (by kernel_rfl) ((laws_toGame.calls _ A0_0 c0_0 l0_0 A0_1 c0_1 l0_1 A0_2 c0_2 l0_2 a0_3 a0_4 _ _ _ _ _ _ (hC0_0 _ hp.tail.tail.tail.tail) hc0_0 (hC0_1 _ hp.tail.tail.tail.tail) hc0_1 (hC0_2 _ hp.tail.tail.tail.tail) hc0_2 hv_16).mono ?_)
    rintro _ W_68 ⟨v_56,v_57,v_58,rfl,hR_53,hR_54,hR_55,hb⟩
    refine ⟨_,rfl,?_⟩
    obtain ⟨A_59,c_60,rfl,hcc_c_60,_⟩:=Kd.R_reads hR_53
    obtain ⟨A_62,c_63,rfl,hcc_c_63,_⟩:=Kd.R_reads hR_54
    obtain ⟨A_65,c_66,rfl,hcc_c_66,_⟩:=Kd.R_reads hR_55
    obtain ⟨F_61,F_64,F_67,hp⟩ : ∃ F_61 F_64 F_67,Hp w (row k53 53 w.heap.size (.slice A_59 t_17.length c_60) t_17 F_61 :: row k53 53 w.heap.size (.slice A_62 t_18.length c_63) t_18 F_64 :: row (Kd.int .i64) 3 w.heap.size (.slice A_65 t_19.length c_66) t_19 F_67 :: row k53 53 w.heap.size (.slice A_42 t_8.length c_43) t_8 F_44 :: row k53 53 w.heap.size (.slice A_45 t_9.length c_46) t_9 F_47 :: row (Kd.int .i64) 3 w.heap.size (.slice A_48 t_10.length c_49) t_10 F_50 :: blk g_3 #[.slice A0_0 l0_0.length c0_0,.slice A0_1 l0_1.length c0_1,.slice A0_2 l0_2.length c0_2,.int .i64 a0_3,.int .i64 a0_4] 25 :: cs) _:=⟨_,_,_,Hp.made3 hp hb rfl rfl rfl hR_53 hR_54 hR_55 (ok_apart hR_53 (fun k hk => hk)) (typed_apart hR_53 hR_55 (by decide)) (typed_apart hR_54 hR_55 (by decide))⟩
    refine sx_box 6 hp #[.slice none 0 0,.slice none 0 0,.slice none 0 0,.int .i64 0,.int .i64 0] 31 (by rfl) (fun W => by kernel_rfl) ?_
    intro g_69 W_70 hp
    refine sx_store (t:=31) (p:=(.tmp 6)) (x:=(.tmp 21)) (by rfl) (by rfl) 0 (by rfl) 0 [.slice A_59 t_17.length c_60,.slice A_62 t_18.length c_63,.slice A_65 t_19.length c_66,.int .i64 t_20,.int .i64 t_21] (by rfl) (by rfl) (by kernel_rfl) (by simp [Value.oneCell']) (by show 5 ≤ 5;omega) #[.slice A_59 t_17.length c_60,.slice A_62 t_18.length c_63,.slice A_65 t_19.length c_66,.int .i64 t_20,.int .i64 t_21] (by rfl) hp ?_
    intro W_71 hp;simp only [List.set_cons_succ,List.set_cons_zero] at hp
    refine sx_nil ?_
    refine ex_then_n ?_
    refine wp_seq ?_
    refine sx_region ?_
    refine sx_rd 23 (.agg #[.slice A_59 t_17.length c_60,.slice A_62 t_18.length c_63,.slice A_65 t_19.length c_66,.int .i64 t_20,.int .i64 t_21]) (by rfl) (ldn (t:=31) (p:=(.tmp 6)) (by rfl) (by rfl) (by kernel_rfl) (by kernel_rfl) (by kernel_rfl) (hp.at_ 0 _ (by rfl))) ?_
    refine sx_call 24 (by rfl) (by kernel_rfl) ((impl_BestPoints.calls A_59 c_60 t_17 A_62 c_63 t_18 A_65 c_66 t_19 t_20 t_21 _ _ _ (row_C (hp.at_ 1 _ (by rfl))) (row_len (hp.at_ 1 _ (by rfl))).2 (row_C (hp.at_ 2 _ (by rfl))) (row_len (hp.at_ 2 _ (by rfl))).2 (row_C (hp.at_ 3 _ (by rfl))) (row_len (hp.at_ 3 _ (by rfl))).2 hv_22).mono ?_)
    rintro _ W_72 ⟨rfl,hb⟩
    refine ⟨_,rfl,?_⟩
    replace hp:=hp.below hb
    clear hb
    refine sx_rd 22 (.tuple #[.int .i64 t_23,.bool t_24]) (by rfl) (by kernel_rfl) ?_
    refine sx_rd 25 (.int .i64 t_23) (by rfl) (by kernel_rfl) ?_
    refine sx_rd 26 (.bool t_24) (by rfl) (by kernel_rfl) ?_
    refine sx_rd 7 (.int .i64 t_23) (by rfl) (by kernel_rfl) ?_
    refine sx_rd 8 (.bool t_24) (by rfl) (by kernel_rfl) ?_
    refine sx_nil ?_
    refine ex_then_n ?_
    refine wp_seq ?_
    refine wp_seq ?_
    refine sx_region ?_
    refine sx_rd 27 (.int .i64 t_23) (by rfl) (by kernel_rfl) ?_
    refine sx_rd 28 (.int .i64 t_14) (by rfl) (by kernel_rfl) ?_
    refine sx_rd 29 (.bool false) (by rfl) (bv (bne_eq_false_iff_eq.mpr hc_25) (by kernel_rfl)) ?_
    refine sx_rd 30 (.bool false) (by rfl) (by kernel_rfl) ?_
    refine sx_want (by rfl) ?_
    refine sx_rd 31 (.bool t_24) (by rfl) (by kernel_rfl) ?_
    refine sx_want (by rfl) ?_
    refine sx_rd 32 (.bool t_15) (by rfl) (by kernel_rfl) ?_
    refine sx_want (by rfl) ?_
    refine sx_rd 33 (.bool (t_24 != t_15)) (by rfl) (by kernel_rfl) ?_
    refine sx_rd 34 (.bool (t_24 != t_15)) (by rfl) (by kernel_rfl) ?_
    refine sx_nil ?_
    refine ex_then_n ?_
    refine sx_else (t_24 != t_15) (by rfl) (Bool.eq_false_iff.mpr hc_26) ?_
    refine wp_skip ?_
    refine ex_then_n ?_
    refine wp_seq ?_
    refine wp_seq ?_
    refine sx_drawT [] (.rd 0 (.rd 1 (.alt 2 (.alt 3 (.rd 4 (.fin)) .non) .non))) 5 (C:=Hp w (blk g_69 #[.slice A_59 t_17.length c_60,.slice A_62 t_18.length c_63,.slice A_65 t_19.length c_66,.int .i64 t_20,.int .i64 t_21] 31 :: row k53 53 w.heap.size (.slice A_59 t_17.length c_60) t_17 F_61 :: row k53 53 w.heap.size (.slice A_62 t_18.length c_63) t_18 F_64 :: row (Kd.int .i64) 3 w.heap.size (.slice A_65 t_19.length c_66) t_19 F_67 :: row k53 53 w.heap.size (.slice A_42 t_8.length c_43) t_8 F_44 :: row k53 53 w.heap.size (.slice A_45 t_9.length c_46) t_9 F_47 :: row (Kd.int .i64) 3 w.heap.size (.slice A_48 t_10.length c_49) t_10 F_50 :: blk g_3 #[.slice A0_0 l0_0.length c0_0,.slice A0_1 l0_1.length c0_1,.slice A0_2 l0_2.length c0_2,.int .i64 a0_3,.int .i64 a0_4] 25 :: cs)) (by kernel_rfl) (by kernel_rfl) (fun d _ _ _ _ h => by cases d <;> exact h) (fun W h => h.drew) hp ?_
    refine preI_nil ?_
    intro W_73 hp
    refine treeI_rd rfl ?_
    refine sxq_val 35 (.agg #[.slice A_59 t_17.length c_60,.slice A_62 t_18.length c_63,.slice A_65 t_19.length c_66,.int .i64 t_20,.int .i64 t_21]) (by rfl) (fun W hp => (ldn (t:=31) (p:=(.tmp 6)) (by rfl) (by rfl) (by kernel_rfl) (by kernel_rfl) (by kernel_rfl) (hp.at_ 0 _ (by rfl)))) ?_
    refine sxq_nil ?_
    refine treeI_rd rfl ?_
    refine sxq_val 36 (.agg #[.slice A0_0 l0_0.length c0_0,.slice A0_1 l0_1.length c0_1,.slice A0_2 l0_2.length c0_2,.int .i64 a0_3,.int .i64 a0_4]) (by rfl) (fun W hp => (ldn (t:=25) (p:=(.tmp 1)) (by rfl) (by rfl) (by kernel_rfl) (by kernel_rfl) (by kernel_rfl) (hp.at_ 7 _ (by rfl)))) ?_
    refine sxq_nil ?_
    refine treeI_ev rfl ?_
    refine sx_call 37 (by rfl) (by kernel_rfl) ((laws_toGame.calls _ A0_0 c0_0 l0_0 A0_1 c0_1 l0_1 A0_2 c0_2 l0_2 a0_3 a0_4 _ _ _ _ _ _ (hC0_0 _ hp.tail.tail.tail.tail.tail.tail.tail.tail) hc0_0 (hC0_1 _ hp.tail.tail.tail.tail.tail.tail.tail.tail) hc0_1 (hC0_2 _ hp.tail.tail.tail.tail.tail.tail.tail.tail) hc0_2 hv_27).mono ?_)
    rintro _ W_89 ⟨v_77,v_78,v_79,rfl,hR_74,hR_75,hR_76,hb⟩
    refine ⟨_,rfl,?_⟩
    obtain ⟨A_80,c_81,rfl,hcc_c_81,_⟩:=Kd.R_reads hR_74
    obtain ⟨A_83,c_84,rfl,hcc_c_84,_⟩:=Kd.R_reads hR_75
    obtain ⟨A_86,c_87,rfl,hcc_c_87,_⟩:=Kd.R_reads hR_76
    obtain ⟨F_82,F_85,F_88,hp⟩ : ∃ F_82 F_85 F_88,Hp w (row k53 53 w.heap.size (.slice A_80 t_28.length c_81) t_28 F_82 :: row k53 53 w.heap.size (.slice A_83 t_29.length c_84) t_29 F_85 :: row (Kd.int .i64) 3 w.heap.size (.slice A_86 t_30.length c_87) t_30 F_88 :: blk g_69 #[.slice A_59 t_17.length c_60,.slice A_62 t_18.length c_63,.slice A_65 t_19.length c_66,.int .i64 t_20,.int .i64 t_21] 31 :: row k53 53 w.heap.size (.slice A_59 t_17.length c_60) t_17 F_61 :: row k53 53 w.heap.size (.slice A_62 t_18.length c_63) t_18 F_64 :: row (Kd.int .i64) 3 w.heap.size (.slice A_65 t_19.length c_66) t_19 F_67 :: row k53 53 w.heap.size (.slice A_42 t_8.length c_43) t_8 F_44 :: row k53 53 w.heap.size (.slice A_45 t_9.length c_46) t_9 F_47 :: row (Kd.int .i64) 3 w.heap.size (.slice A_48 t_10.length c_49) t_10 F_50 :: blk g_3 #[.slice A0_0 l0_0.length c0_0,.slice A0_1 l0_1.length c0_1,.slice A0_2 l0_2.length c0_2,.int .i64 a0_3,.int .i64 a0_4] 25 :: cs) _:=⟨_,_,_,Hp.made3 hp hb rfl rfl rfl hR_74 hR_75 hR_76 (ok_apart hR_74 (fun k hk => hk)) (typed_apart hR_74 hR_76 (by decide)) (typed_apart hR_75 hR_76 (by decide))⟩
    refine step_fin hp.tail.tail.tail ?_
    refine treeI_ev rfl ?_
    refine sx_call 38 (by rfl) (by kernel_rfl) ((laws_eqGame.calls _ A_59 c_60 t_17 A_62 c_63 t_18 A_65 c_66 t_19 t_20 t_21 A_80 c_81 t_28 A_83 c_84 t_29 A_86 c_87 t_30 t_31 t_32 _ _ (row_C (hp.at_ 4 _ (by rfl))) (row_len (hp.at_ 4 _ (by rfl))).2 (row_C (hp.at_ 5 _ (by rfl))) (row_len (hp.at_ 5 _ (by rfl))).2 (row_C (hp.at_ 6 _ (by rfl))) (row_len (hp.at_ 6 _ (by rfl))).2 (row_C (hp.at_ 0 _ (by rfl))) (row_len (hp.at_ 0 _ (by rfl))).2 (row_C (hp.at_ 1 _ (by rfl))) (row_len (hp.at_ 1 _ (by rfl))).2 (row_C (hp.at_ 2 _ (by rfl))) (row_len (hp.at_ 2 _ (by rfl))).2 hv_33).mono ?_)
    rintro _ W_90 ⟨rfl,hb⟩
    refine ⟨_,rfl,?_⟩
    replace hp:=hp.below hb
    clear hb
    refine step_fin hp.tail.tail.tail ?_
    refine treeI_rd rfl ?_
    refine sxq_val 39 (.bool (!t_34)) (by rfl) (fun W hp => (by kernel_rfl)) ?_
    refine sxq_nil ?_
    refine treeI_fin ?_
    refine sx_nil ?_
    refine ex_then_n ?_
    refine sx_else (!t_34) (by rfl) (show (!t_34) = false from by rw [hc_35];rfl) ?_
    refine wp_skip ?_
    refine ex_then_n ?_
    refine wp_seq ?_
    refine sx_region ?_
    refine sx_rd 2 (.bool true) (by rfl) (by kernel_rfl) ?_
    refine sx_nil ?_
    refine ex_then_n ?_
    refine wp_ret ?_
    refine sx_end (.bool true) (res1 2 (by rfl)) ?_
    obtain rfl:=Option.some.inj h
    exact ⟨rfl,hc2 _ (hp.tail.tail.tail.tail.tail.tail.tail.tail.tail.tail.tail)⟩
end
end Go.Proofs.YtjaojemmbeddfaaGreat.Hd
