-- Printed by hprint.py and laid together by pack.py (this session's programs over the kit's print program). Lean checks it.
import Derived.Test.YtbkaedmabdgdhaaG0
import Derived.Test.YtbkaedmabdgdhaaMMgX
import Derived.Test.YtbkaedmabdgdhaaMSx5
import Derived.Test.YtbkaedmabdgdhaaMSxL
import Derived.Test.YtbkaedmabdgdhaaMSxN
import Derived.Test.YtbkaedmabdgdhaaG2
import Derived.Test.YtbkaedmabdgdhaaMMarkIntSS
import Derived.Test.YtbkaedmabdgdhaaMMgD
namespace Go.Proofs.Ytbkaedmabdgdhaa.Hd
section
open Go.RowKit Go.Proofs.YtbkaedmabdgdhaaW.PrintWords Go.Proofs.YtbkaedmabdgdhaaW.PrintLast Go.Proofs.YtbkaedmabdgdhaaW.PrintMore
attribute [local go_sem] max2_int min2_int max_two min_two max_three min_three max_four min_four   -- for this text's walks alone
set_option linter.unusedVariables false
set_option linter.unusedSimpArgs false

end
section
open Go.RowKit Go.Proofs.YtbkaedmabdgdhaaW.PrintWords Go.Proofs.YtbkaedmabdgdhaaW.PrintLast Go.Proofs.YtbkaedmabdgdhaaW.PrintMore
attribute [local go_sem] max2_int min2_int max_two min_two max_three min_three max_four min_four   -- for this text's walks alone
set_option linter.unusedVariables false
set_option linter.unusedSimpArgs false

def impl_FirstMagic.f (l0 : List (S_Tile)) (a1 : Int) : Option ((List (List Int)) × Bool) := (impl_magic.f l0 a1).bind fun bt229 => (some (bt229.1, decide (bt229.2.1 > 0)))
set_option maxHeartbeats 8000000 in
set_option maxRecDepth 100000 in
theorem impl_FirstMagic.calls (A0 : Option Addr) (c0 : Nat) (l0 : List (S_Tile)) (a1 : Int) (r1 : List (List Int)) (r2 : Bool) (w : World) (hr0 : Kd.C k50 w A0 l0.length l0) (hc0 : l0.length ≤ c0) (h : impl_FirstMagic.f l0 a1 = some (r1, r2)) :
    Calls Try.prog 14 #[.slice A0 l0.length c0, .int .i64 a1] w fun e w' => ∃ v0_ : Value, e = .returned (.tuple #[v0_, .bool r2]) ∧ Kd.S (Kd.slice 3 (Kd.int .i64)) 39 w' w.heap.size (fun _ => True) v0_ r1 ∧ Below w.heap.size w w' := by
  have HR0 := Aside0.mk hr0
  have HC0 := Aside0.mk hc0
  clear hr0 hc0
  have HB := Aside0.mk (Below.refl w.heap.size w)
  have H : ((impl_magic.f l0 a1).bind fun bt229 => (some (bt229.1, decide (bt229.2.1 > 0)))) = some (r1, r2) := h
  clear h
  replace H := Option.bind_eq_some_iff.mp H
  obtain ⟨⟨t229, t230, t231⟩, A30, H⟩ := H
  replace H : (some (t229, decide (t230 > 0))) = some (r1, r2) := H
  have A3 := Aside0.mk A30
  clear A30
  simp only [Option.some.injEq, Prod.mk.injEq] at H
  obtain ⟨rfl, rfl⟩ := H
  go_enter Try.func14, Try.ntmps14
  go_wp2_with (first | ((with_reducible refine gate_callee (f := 30) rfl ?_); refine goesL_ (some 12) rfl rfl Try.func30 (by kernel_rfl) rfl #[.slice A0 l0.length c0, .int .i64 a1] rfl (by (try simp only [List.map_toArray, List.map_cons, List.map_nil]); first | done | rfl | (simp only [List.length_drop, List.length_take]; rfl)) ?_; (with_reducible refine (impl_magic.calls _ _ l0 a1 t229 t230 t231 _ ?side1 ?side2 A3.out).mono ?_); (case side1 => repeat (first | exact HR0.out | (with_reducible refine Kd.C_alloc ?_ _) | (with_reducible refine Kd.C_drewN ?_ _) | (with_reducible refine Kd.C_drew ?_))); (case side2 => exact HC0.out); rintro e w4 ⟨v232, rfl, ho0, hb⟩; refine ⟨_, rfl, ?_⟩; have n0_ := Aside0.mk (Kd.S_lower ho0 (below_size (by repeat (first | (with_reducible first | exact HB.out | apply below_alloc | apply pw_below_drewN | apply below_drew1) | exact HB.out)))); have n1_ := Aside0.mk (below_step (by repeat (first | (with_reducible first | exact HB.out | apply below_alloc | apply pw_below_drewN | apply below_drew1) | exact HB.out)) hb); clear HB; have HO233 := n0_; have HB := n1_; clear n0_ n1_; (try clear hb); (try clear hb2); (try clear hk); (try clear hi); (try clear ho0)))
  go_ret2
  exact ⟨_, by first | rfl | (simp [errW_none, errW_some] <;> rfl) | (simp [*, errW_none, errW_some] <;> rfl), by (with_reducible repeat (first | apply Kd.S_alloc | apply Kd.S_drewN | apply Kd.S_drew)); exact HO233.out, by repeat (first | (with_reducible first | exact HB.out | apply below_alloc | apply pw_below_drewN | apply below_drew1) | exact HB.out)⟩

end
section
open Go.RowKit Go.Proofs.YtbkaedmabdgdhaaW.PrintWords Go.Proofs.YtbkaedmabdgdhaaW.PrintLast Go.Proofs.YtbkaedmabdgdhaaW.PrintMore
attribute [local go_sem] max2_int min2_int max_two min_two max_three min_three max_four min_four   -- for this text's walks alone
set_option linter.unusedVariables false
set_option linter.unusedSimpArgs false

def laws_FnExactFirstMagic.f (k : Nat) (l0 : List (S_LTile)) (a1 : Int) : Option (Bool) := (laws_szTileS.f l0 1048576).bind fun t245 => (if t245 < 0 then (some true) else ((laws_toTileS.f k l0).bind fun t246 => ((spec_FirstMagic.f t246 a1).bind fun bt249 => ((laws_toTileS.f k l0).bind fun t253 => ((impl_FirstMagic.f t253 a1).bind fun bt256 => ((laws_eqIntSS.f k bt256.1 bt249.1).bind fun t260 => (if t260 = true then (if (bt256.2 != bt249.2) = true then (none) else ((laws_toTileS.f k l0).bind fun t261 => ((laws_eqTileS.f k t253 t261).bind fun t264 => (if t264 = true then ((laws_markTileS.f k t253 1).bind fun bt265 => (if bt265.1 < 0 then (none) else ((laws_eqIntSS.f k bt256.1 bt249.1).bind fun t267 => (if t267 = true then ((laws_markIntSS.f k bt256.1 1).bind fun bt268 => ((laws_heldIntSS.f k bt268.2 1).bind fun t270 => (if t270 < 0 then (none) else (if t270 = bt268.1 then ((laws_toTileS.f k l0).bind fun t271 => ((impl_FirstMagic.f t271 a1).bind fun bt274 => ((laws_eqIntSS.f k bt274.1 bt249.1).bind fun t278 => (if t278 = true then (if (bt274.2 != bt249.2) = true then (none) else ((laws_heldIntSS.f k bt268.2 1).bind fun t279 => (if t279 < 0 then (none) else (if t279 = bt268.1 then (some true) else (none))))) else (none))))) else (none))))) else (none))))) else (none))))) else (none))))))))
set_option maxRecDepth 100000 in
set_option maxHeartbeats 40000000 in
theorem laws_FnExactFirstMagic.calls (k : Nat) (A0 : Option Addr) (c0 : Nat) (l0 : List (S_LTile)) (a1 : Int) (r : Bool) (w : World) (hr0 : Kd.C k52 w A0 l0.length l0) (hc0 : l0.length ≤ c0) (h : laws_FnExactFirstMagic.f k l0 a1 = some r) :
    Calls Try.prog 4 #[.slice A0 l0.length c0, .int .i64 a1] w fun e w' => e = .returned (.bool r) ∧ Below w.heap.size w w' := by
  obtain ⟨cs, hcs⟩ : ∃ cs, cs = [old w w.heap.size] := ⟨_, rfl⟩
  have hp : Hp w cs w := by rw [hcs]; exact Hp.old_start w
  have hc2 : ∀ W, Hp w cs W → Below w.heap.size w W := fun W h => by rw [hcs] at h; exact h.since 0 _ rfl
  have hC0 : ∀ W, Hp w cs W → Kd.C k52 W A0 l0.length l0 := fun W h => Kd.C_below hr0 (hc2 W h)
  clear hcs
  unfold laws_FnExactFirstMagic.f at h
  obtain ⟨t_2, hv_1, h⟩ := Option.bind_eq_some_iff.mp h
  try dsimp only at h
  refine sx_enter (N := 101) (l := [.slice A0 l0.length c0, .int .i64 a1]) Try.func4 rfl rfl rfl ?_
  refine wp_seq ?_
  refine sx_region ?_
  refine sx_rd 4 (.bool false) (by rfl) (by kernel_rfl) ?_
  refine sx_nil ?_
  refine ex_then_n ?_
  refine wp_seq ?_
  refine sx_region ?_
  refine sx_rd 5 (.int .i64 1048576) (by rfl) (by kernel_rfl) ?_
  refine sx_nil ?_
  refine ex_then_n ?_
  refine wp_seq ?_
  refine sx_region ?_
  refine sx_rd 16 (.slice A0 l0.length c0) (by rfl) (by kernel_rfl) ?_
  refine sx_rd 17 (.int .i64 1048576) (by rfl) (by kernel_rfl) ?_
  refine sx_call 18 (by rfl) (by kernel_rfl) ((laws_szTileS.calls A0 c0 l0 1048576 _ _ (hC0 _ hp) hc0 hv_1).mono ?_)
  rintro _ W_3 ⟨rfl, hb⟩
  refine ⟨_, rfl, ?_⟩
  replace hp := hp.below hb.below
  clear hb
  refine sx_rd 5 (.int .i64 t_2) (by rfl) (by kernel_rfl) ?_
  refine sx_nil ?_
  refine ex_then_n ?_
  refine wp_seq ?_
  refine wp_seq ?_
  refine sx_region ?_
  refine sx_rd 19 (.int .i64 t_2) (by rfl) (by kernel_rfl) ?_
  refine sx_rd 20 (.bool (decide (t_2 < 0))) (by rfl) (by kernel_rfl) ?_
  refine sx_nil ?_
  refine ex_then_n ?_
  by_cases hc_4 : t_2 < 0
  ·
    rw [if_pos hc_4] at h
    refine sx_then (decide (t_2 < 0)) (by rfl) (decide_eq_true hc_4) ?_
    refine wp_seq ?_
    refine sx_region ?_
    refine sx_rd 4 (.bool true) (by rfl) (by kernel_rfl) ?_
    refine sx_nil ?_
    refine ex_then_n ?_
    refine wp_ret ?_
    refine ex_then_r ?_
    refine sx_end (.bool true) (res1 4 (by rfl)) ?_
    obtain rfl := Option.some.inj h
    exact ⟨rfl, hc2 _ (hp)⟩
  ·
    rw [if_neg hc_4] at h
    obtain ⟨t_6, hv_5, h⟩ := Option.bind_eq_some_iff.mp h
    try dsimp only at h
    obtain ⟨⟨t_8, t_9⟩, hv_7, h⟩ := Option.bind_eq_some_iff.mp h
    try dsimp only at h
    obtain ⟨t_11, hv_10, h⟩ := Option.bind_eq_some_iff.mp h
    try dsimp only at h
    obtain ⟨⟨t_13, t_14⟩, hv_12, h⟩ := Option.bind_eq_some_iff.mp h
    try dsimp only at h
    obtain ⟨t_16, hv_15, h⟩ := Option.bind_eq_some_iff.mp h
    try dsimp only at h
    by_cases hc_17 : t_16 = true
    case neg => rw [if_neg hc_17] at h; cases h
    rw [if_pos hc_17] at h
    by_cases hc_18 : (t_14 != t_9) = true
    case pos => rw [if_pos hc_18] at h; cases h
    rw [if_neg hc_18] at h
    obtain ⟨t_20, hv_19, h⟩ := Option.bind_eq_some_iff.mp h
    try dsimp only at h
    obtain ⟨t_22, hv_21, h⟩ := Option.bind_eq_some_iff.mp h
    try dsimp only at h
    by_cases hc_23 : t_22 = true
    case neg => rw [if_neg hc_23] at h; cases h
    rw [if_pos hc_23] at h
    obtain ⟨⟨t_25, t_26⟩, hv_24, h⟩ := Option.bind_eq_some_iff.mp h
    try dsimp only at h
    by_cases hc_27 : t_25 < 0
    case pos => rw [if_pos hc_27] at h; cases h
    rw [if_neg hc_27] at h
    obtain ⟨t_29, hv_28, h⟩ := Option.bind_eq_some_iff.mp h
    try dsimp only at h
    by_cases hc_30 : t_29 = true
    case neg => rw [if_neg hc_30] at h; cases h
    rw [if_pos hc_30] at h
    obtain ⟨⟨t_32, t_33⟩, hv_31, h⟩ := Option.bind_eq_some_iff.mp h
    try dsimp only at h
    obtain ⟨t_35, hv_34, h⟩ := Option.bind_eq_some_iff.mp h
    try dsimp only at h
    by_cases hc_36 : t_35 < 0
    case pos => rw [if_pos hc_36] at h; cases h
    rw [if_neg hc_36] at h
    by_cases hc_37 : t_35 = t_32
    case neg => rw [if_neg hc_37] at h; cases h
    rw [if_pos hc_37] at h
    obtain ⟨t_39, hv_38, h⟩ := Option.bind_eq_some_iff.mp h
    try dsimp only at h
    obtain ⟨⟨t_41, t_42⟩, hv_40, h⟩ := Option.bind_eq_some_iff.mp h
    try dsimp only at h
    obtain ⟨t_44, hv_43, h⟩ := Option.bind_eq_some_iff.mp h
    try dsimp only at h
    by_cases hc_45 : t_44 = true
    case neg => rw [if_neg hc_45] at h; cases h
    rw [if_pos hc_45] at h
    by_cases hc_46 : (t_42 != t_9) = true
    case pos => rw [if_pos hc_46] at h; cases h
    rw [if_neg hc_46] at h
    obtain ⟨t_48, hv_47, h⟩ := Option.bind_eq_some_iff.mp h
    try dsimp only at h
    by_cases hc_49 : t_48 < 0
    case pos => rw [if_pos hc_49] at h; cases h
    rw [if_neg hc_49] at h
    by_cases hc_50 : t_48 = t_32
    case neg => rw [if_neg hc_50] at h; cases h
    rw [if_pos hc_50] at h
    refine sx_else (decide (t_2 < 0)) (by rfl) (decide_eq_false hc_4) ?_
    refine wp_skip ?_
    refine ex_then_n ?_
    refine wp_seq ?_
    refine sx_region ?_
    refine sx_rd 22 (.slice A0 l0.length c0) (by rfl) (by kernel_rfl) ?_
    refine sx_call 23 (by rfl) (by kernel_rfl) ((laws_toTileS.calls _ A0 c0 l0 _ _ (hC0 _ hp) hc0 hv_5).mono ?_)
    rintro _ W_56 ⟨v_52, rfl, hR_51, hb⟩
    refine ⟨_, rfl, ?_⟩
    obtain ⟨A_53, c_54, rfl, hcc_c_54, _⟩ := Kd.R_reads hR_51
    obtain ⟨F_55, hp⟩ : ∃ F, Hp w (row k50 50 w.heap.size (.slice A_53 t_6.length c_54) t_6 F :: cs) _ := ⟨_, Hp.made hp hb hR_51⟩
    refine sx_rd 24 (.int .i64 a1) (by rfl) (by kernel_rfl) ?_
    refine sx_call 25 (by rfl) (by kernel_rfl) ((spec_FirstMagic.calls A_53 c_54 t_6 a1 _ _ _ (row_C (hp.at_ 0 _ (by rfl))) (row_len (hp.at_ 0 _ (by rfl))).2 hv_7).mono ?_)
    rintro _ W_62 ⟨v_58, rfl, hR_57, hb⟩
    refine ⟨_, rfl, ?_⟩
    obtain ⟨A_59, c_60, rfl, hcc_c_60, _⟩ := Kd.S_reads hR_57
    obtain ⟨F_61, hp⟩ : ∃ F, Hp w (rowS (Kd.slice 3 (Kd.int .i64)) 39 w.heap.size (.slice A_59 t_8.length c_60) t_8 F :: row k50 50 w.heap.size (.slice A_53 t_6.length c_54) t_6 F_55 :: cs) _ := ⟨_, Hp.madeS hp hb hR_57⟩
    refine sx_rd 21 (.tuple #[.slice A_59 t_8.length c_60, .bool t_9]) (by rfl) (by kernel_rfl) ?_
    refine sx_rd 26 (.slice A_59 t_8.length c_60) (by rfl) (by kernel_rfl) ?_
    refine sx_rd 27 (.bool t_9) (by rfl) (by kernel_rfl) ?_
    refine sx_rd 6 (.slice A_59 t_8.length c_60) (by rfl) (by kernel_rfl) ?_
    refine sx_rd 7 (.bool t_9) (by rfl) (by kernel_rfl) ?_
    refine sx_nil ?_
    refine ex_then_n ?_
    refine wp_seq ?_
    refine sx_region ?_
    refine sx_rd 28 (.slice A0 l0.length c0) (by rfl) (by kernel_rfl) ?_
    refine sx_call 29 (by rfl) (by kernel_rfl) ((laws_toTileS.calls _ A0 c0 l0 _ _ (hC0 _ hp.tail.tail) hc0 hv_10).mono ?_)
    rintro _ W_68 ⟨v_64, rfl, hR_63, hb⟩
    refine ⟨_, rfl, ?_⟩
    obtain ⟨A_65, c_66, rfl, hcc_c_66, _⟩ := Kd.R_reads hR_63
    obtain ⟨F_67, hp⟩ : ∃ F, Hp w (row k50 50 w.heap.size (.slice A_65 t_11.length c_66) t_11 F :: rowS (Kd.slice 3 (Kd.int .i64)) 39 w.heap.size (.slice A_59 t_8.length c_60) t_8 F_61 :: row k50 50 w.heap.size (.slice A_53 t_6.length c_54) t_6 F_55 :: cs) _ := ⟨_, Hp.made hp hb hR_63⟩
    refine sx_rd 8 (.slice A_65 t_11.length c_66) (by rfl) (by kernel_rfl) ?_
    refine sx_nil ?_
    refine ex_then_n ?_
    refine wp_seq ?_
    refine sx_region ?_
    refine sx_rd 31 (.slice A_65 t_11.length c_66) (by rfl) (by kernel_rfl) ?_
    refine sx_rd 32 (.int .i64 a1) (by rfl) (by kernel_rfl) ?_
    refine sx_call 33 (by rfl) (by kernel_rfl) ((impl_FirstMagic.calls A_65 c_66 t_11 a1 _ _ _ (row_C (hp.at_ 0 _ (by rfl))) (row_len (hp.at_ 0 _ (by rfl))).2 hv_12).mono ?_)
    rintro _ W_74 ⟨v_70, rfl, hR_69, hb⟩
    refine ⟨_, rfl, ?_⟩
    obtain ⟨A_71, c_72, rfl, hcc_c_72, _⟩ := Kd.S_reads hR_69
    obtain ⟨F_73, hp⟩ : ∃ F, Hp w (rowS (Kd.slice 3 (Kd.int .i64)) 39 w.heap.size (.slice A_71 t_13.length c_72) t_13 F :: row k50 50 w.heap.size (.slice A_65 t_11.length c_66) t_11 F_67 :: rowS (Kd.slice 3 (Kd.int .i64)) 39 w.heap.size (.slice A_59 t_8.length c_60) t_8 F_61 :: row k50 50 w.heap.size (.slice A_53 t_6.length c_54) t_6 F_55 :: cs) _ := ⟨_, Hp.madeS hp hb hR_69⟩
    refine sx_rd 30 (.tuple #[.slice A_71 t_13.length c_72, .bool t_14]) (by rfl) (by kernel_rfl) ?_
    refine sx_rd 34 (.slice A_71 t_13.length c_72) (by rfl) (by kernel_rfl) ?_
    refine sx_rd 35 (.bool t_14) (by rfl) (by kernel_rfl) ?_
    refine sx_rd 9 (.slice A_71 t_13.length c_72) (by rfl) (by kernel_rfl) ?_
    refine sx_rd 10 (.bool t_14) (by rfl) (by kernel_rfl) ?_
    refine sx_nil ?_
    refine ex_then_n ?_
    refine wp_seq ?_
    refine wp_seq ?_
    refine sx_region ?_
    refine sx_rd 36 (.slice A_71 t_13.length c_72) (by rfl) (by kernel_rfl) ?_
    refine sx_rd 37 (.slice A_59 t_8.length c_60) (by rfl) (by kernel_rfl) ?_
    refine sx_call 38 (by rfl) (by kernel_rfl) ((laws_eqIntSS.calls _ A_71 c_72 t_13 A_59 c_60 t_8 _ _ (rowS_C (hp.at_ 0 _ (by rfl))) (rowS_len (hp.at_ 0 _ (by rfl))).2 (rowS_C (hp.at_ 2 _ (by rfl))) (rowS_len (hp.at_ 2 _ (by rfl))).2 hv_15).mono ?_)
    rintro _ W_75 ⟨rfl, hb⟩
    refine ⟨_, rfl, ?_⟩
    replace hp := hp.below hb.below
    clear hb
    refine sx_rd 39 (.bool false) (by rfl) (bv (show (!t_16) = false from by rw [hc_17]; rfl) (by kernel_rfl)) ?_
    refine sx_rd 40 (.bool false) (by rfl) (by kernel_rfl) ?_
    refine sx_want (by rfl) ?_
    refine sx_rd 41 (.bool t_14) (by rfl) (by kernel_rfl) ?_
    refine sx_want (by rfl) ?_
    refine sx_rd 42 (.bool t_9) (by rfl) (by kernel_rfl) ?_
    refine sx_want (by rfl) ?_
    refine sx_rd 43 (.bool (t_14 != t_9)) (by rfl) (by kernel_rfl) ?_
    refine sx_rd 44 (.bool (t_14 != t_9)) (by rfl) (by kernel_rfl) ?_
    refine sx_nil ?_
    refine ex_then_n ?_
    refine sx_else (t_14 != t_9) (by rfl) (Bool.eq_false_iff.mpr hc_18) ?_
    refine wp_skip ?_
    refine ex_then_n ?_
    refine wp_seq ?_
    refine wp_seq ?_
    refine sx_region ?_
    refine sx_rd 45 (.slice A_65 t_11.length c_66) (by rfl) (by kernel_rfl) ?_
    refine sx_rd 46 (.slice A0 l0.length c0) (by rfl) (by kernel_rfl) ?_
    refine sx_call 47 (by rfl) (by kernel_rfl) ((laws_toTileS.calls _ A0 c0 l0 _ _ (hC0 _ hp.tail.tail.tail.tail) hc0 hv_19).mono ?_)
    rintro _ W_81 ⟨v_77, rfl, hR_76, hb⟩
    refine ⟨_, rfl, ?_⟩
    obtain ⟨A_78, c_79, rfl, hcc_c_79, _⟩ := Kd.R_reads hR_76
    obtain ⟨F_80, hp⟩ : ∃ F, Hp w (row k50 50 w.heap.size (.slice A_78 t_20.length c_79) t_20 F :: rowS (Kd.slice 3 (Kd.int .i64)) 39 w.heap.size (.slice A_71 t_13.length c_72) t_13 F_73 :: row k50 50 w.heap.size (.slice A_65 t_11.length c_66) t_11 F_67 :: rowS (Kd.slice 3 (Kd.int .i64)) 39 w.heap.size (.slice A_59 t_8.length c_60) t_8 F_61 :: row k50 50 w.heap.size (.slice A_53 t_6.length c_54) t_6 F_55 :: cs) _ := ⟨_, Hp.made hp hb hR_76⟩
    refine sx_call 48 (by rfl) (by kernel_rfl) ((laws_eqTileS.calls _ A_65 c_66 t_11 A_78 c_79 t_20 _ _ (row_C (hp.at_ 2 _ (by rfl))) (row_len (hp.at_ 2 _ (by rfl))).2 (row_C (hp.at_ 0 _ (by rfl))) (row_len (hp.at_ 0 _ (by rfl))).2 hv_21).mono ?_)
    rintro _ W_82 ⟨rfl, hb⟩
    refine ⟨_, rfl, ?_⟩
    replace hp := hp.below hb
    clear hb
    refine sx_rd 49 (.bool (!t_22)) (by rfl) (by kernel_rfl) ?_
    refine sx_nil ?_
    refine ex_then_n ?_
    refine sx_else (!t_22) (by rfl) (show (!t_22) = false from by rw [hc_23]; rfl) ?_
    refine wp_skip ?_
    refine ex_then_n ?_
    refine wp_seq ?_
    refine sx_region ?_
    refine sx_rd 11 (.int .i64 1) (by rfl) (by kernel_rfl) ?_
    refine sx_nil ?_
    refine ex_then_n ?_
    refine wp_seq ?_
    refine sx_region ?_
    refine sx_rd 50 (.slice A_65 t_11.length c_66) (by rfl) (by kernel_rfl) ?_
    refine sx_rd 51 (.int .i64 1) (by rfl) (by kernel_rfl) ?_
    refine sx_call 52 (by rfl) (by kernel_rfl) ((laws_markTileS.calls _ F_67 (.slice A_65 t_11.length c_66) t_11 1 _ _ w _ (hc2 _ (hp.tail.tail.tail.tail.tail)) (row_R (hp.at_ 2 _ (by rfl))) hv_24).mono ?_)
    rintro _ W_87 ⟨rfl, hR_83, hB_84, hK_85⟩
    refine ⟨_, rfl, ?_⟩
    have hp := (hp.take [2, 0, 1, 3, 4] 5 (by decide) (by simp))
    obtain ⟨F_86, hp⟩ : ∃ F_86, Hp w (row k50 50 w.heap.size (.slice A_65 t_11.length c_66) t_26 F_86 :: row k50 50 w.heap.size (.slice A_78 t_20.length c_79) t_20 F_80 :: rowS (Kd.slice 3 (Kd.int .i64)) 39 w.heap.size (.slice A_71 t_13.length c_72) t_13 F_73 :: rowS (Kd.slice 3 (Kd.int .i64)) 39 w.heap.size (.slice A_59 t_8.length c_60) t_8 F_61 :: row k50 50 w.heap.size (.slice A_53 t_6.length c_54) t_6 F_55 :: cs) _ := ⟨_, Hp.marked1 hp hB_84 hK_85 rfl hR_83⟩
    obtain ⟨hn_88, -⟩ := row_len (hp.at_ 0 _ (by rfl))
    rw [hn_88] at hp
    try rw [hn_88]
    refine sx_rd 11 (.int .i64 t_25) (by rfl) (by kernel_rfl) ?_
    refine sx_nil ?_
    refine ex_then_n ?_
    refine wp_seq ?_
    refine wp_seq ?_
    refine sx_region ?_
    refine sx_rd 53 (.int .i64 t_25) (by rfl) (by kernel_rfl) ?_
    refine sx_rd 54 (.bool false) (by rfl) (bv (decide_eq_false hc_27) (by kernel_rfl)) ?_
    refine sx_rd 55 (.bool false) (by rfl) (by kernel_rfl) ?_
    refine sx_want (by rfl) ?_
    refine sx_rd 56 (.slice A_71 t_13.length c_72) (by rfl) (by kernel_rfl) ?_
    refine sx_want (by rfl) ?_
    refine sx_rd 57 (.slice A_59 t_8.length c_60) (by rfl) (by kernel_rfl) ?_
    refine sx_want (by rfl) ?_
    refine sx_call 58 (by rfl) (by kernel_rfl) ((laws_eqIntSS.calls _ A_71 c_72 t_13 A_59 c_60 t_8 _ _ (rowS_C (hp.at_ 2 _ (by rfl))) (rowS_len (hp.at_ 2 _ (by rfl))).2 (rowS_C (hp.at_ 3 _ (by rfl))) (rowS_len (hp.at_ 3 _ (by rfl))).2 hv_28).mono ?_)
    rintro _ W_89 ⟨rfl, hb⟩
    refine ⟨_, rfl, ?_⟩
    replace hp := hp.below hb.below
    clear hb
    refine sx_want (by rfl) ?_
    refine sx_rd 59 (.bool false) (by rfl) (bv (show (!t_29) = false from by rw [hc_30]; rfl) (by kernel_rfl)) ?_
    refine sx_rd 60 (.bool false) (by rfl) (by kernel_rfl) ?_
    refine sx_rd 61 (.bool false) (by rfl) (by kernel_rfl) ?_
    refine sx_want (by rfl) ?_
    refine sx_rd 62 (.bool t_14) (by rfl) (by kernel_rfl) ?_
    refine sx_want (by rfl) ?_
    refine sx_rd 63 (.bool t_9) (by rfl) (by kernel_rfl) ?_
    refine sx_want (by rfl) ?_
    refine sx_rd 64 (.bool false) (by rfl) (bv (Bool.eq_false_iff.mpr hc_18) (by kernel_rfl)) ?_
    refine sx_rd 65 (.bool false) (by rfl) (by kernel_rfl) ?_
    refine sx_nil ?_
    refine ex_then_n ?_
    refine sx_else false (by rfl) rfl ?_
    refine wp_skip ?_
    refine ex_then_n ?_
    refine wp_seq ?_
    refine sx_region ?_
    refine sx_rd 12 (.int .i64 1) (by rfl) (by kernel_rfl) ?_
    refine sx_nil ?_
    refine ex_then_n ?_
    refine wp_seq ?_
    refine sx_region ?_
    refine sx_rd 66 (.slice A_71 t_13.length c_72) (by rfl) (by kernel_rfl) ?_
    refine sx_rd 67 (.int .i64 1) (by rfl) (by kernel_rfl) ?_
    refine sx_call 68 (by rfl) (by kernel_rfl) ((laws_markIntSS.calls _ F_73 (.slice A_71 t_13.length c_72) t_13 1 _ _ w _ (hc2 _ (hp.tail.tail.tail.tail.tail)) (rowS_S (hp.at_ 2 _ (by rfl))) hv_31).mono ?_)
    rintro _ W_94 ⟨rfl, hR_90, hB_91, hK_92⟩
    refine ⟨_, rfl, ?_⟩
    have hp := (hp.take [2, 0, 1, 3, 4] 5 (by decide) (by simp))
    obtain ⟨F_93, hp⟩ : ∃ F_93, Hp w (rowS (Kd.slice 3 (Kd.int .i64)) 39 w.heap.size (.slice A_71 t_13.length c_72) t_33 F_93 :: row k50 50 w.heap.size (.slice A_65 t_26.length c_66) t_26 F_86 :: row k50 50 w.heap.size (.slice A_78 t_20.length c_79) t_20 F_80 :: rowS (Kd.slice 3 (Kd.int .i64)) 39 w.heap.size (.slice A_59 t_8.length c_60) t_8 F_61 :: row k50 50 w.heap.size (.slice A_53 t_6.length c_54) t_6 F_55 :: cs) _ := ⟨_, Hp.markedS hp hB_91 hK_92 hR_90⟩
    obtain ⟨hn_95, -⟩ := rowS_len (hp.at_ 0 _ (by rfl))
    rw [hn_95] at hp
    try rw [hn_95]
    refine sx_rd 12 (.int .i64 t_32) (by rfl) (by kernel_rfl) ?_
    refine sx_nil ?_
    refine ex_then_n ?_
    refine wp_seq ?_
    refine sx_region ?_
    refine sx_rd 13 (.int .i64 1) (by rfl) (by kernel_rfl) ?_
    refine sx_nil ?_
    refine ex_then_n ?_
    refine wp_seq ?_
    refine sx_region ?_
    refine sx_rd 69 (.slice A_71 t_33.length c_72) (by rfl) (by kernel_rfl) ?_
    refine sx_rd 70 (.int .i64 1) (by rfl) (by kernel_rfl) ?_
    refine sx_call 71 (by rfl) (by kernel_rfl) ((laws_heldIntSS.calls _ A_71 c_72 t_33 1 _ _ (rowS_C (hp.at_ 0 _ (by rfl))) (rowS_len (hp.at_ 0 _ (by rfl))).2 hv_34).mono ?_)
    rintro _ W_96 ⟨rfl, hb⟩
    refine ⟨_, rfl, ?_⟩
    replace hp := hp.below hb.below
    clear hb
    refine sx_rd 13 (.int .i64 t_35) (by rfl) (by kernel_rfl) ?_
    refine sx_nil ?_
    refine ex_then_n ?_
    refine wp_seq ?_
    refine wp_seq ?_
    refine sx_region ?_
    refine sx_rd 72 (.int .i64 t_35) (by rfl) (by kernel_rfl) ?_
    refine sx_rd 73 (.bool (decide (t_35 < 0))) (by rfl) (by kernel_rfl) ?_
    refine sx_nil ?_
    refine ex_then_n ?_
    refine sx_else (decide (t_35 < 0)) (by rfl) (decide_eq_false hc_36) ?_
    refine wp_skip ?_
    refine ex_then_n ?_
    refine wp_seq ?_
    refine wp_seq ?_
    refine sx_region ?_
    refine sx_rd 74 (.int .i64 t_35) (by rfl) (by kernel_rfl) ?_
    refine sx_rd 75 (.int .i64 t_32) (by rfl) (by kernel_rfl) ?_
    refine sx_rd 76 (.bool (t_35 != t_32)) (by rfl) (by kernel_rfl) ?_
    refine sx_nil ?_
    refine ex_then_n ?_
    refine sx_else (t_35 != t_32) (by rfl) (bne_eq_false_iff_eq.mpr hc_37) ?_
    refine wp_skip ?_
    refine ex_then_n ?_
    refine wp_seq ?_
    refine sx_region ?_
    refine sx_rd 78 (.slice A0 l0.length c0) (by rfl) (by kernel_rfl) ?_
    refine sx_call 79 (by rfl) (by kernel_rfl) ((laws_toTileS.calls _ A0 c0 l0 _ _ (hC0 _ hp.tail.tail.tail.tail.tail) hc0 hv_38).mono ?_)
    rintro _ W_102 ⟨v_98, rfl, hR_97, hb⟩
    refine ⟨_, rfl, ?_⟩
    obtain ⟨A_99, c_100, rfl, hcc_c_100, _⟩ := Kd.R_reads hR_97
    obtain ⟨F_101, hp⟩ : ∃ F, Hp w (row k50 50 w.heap.size (.slice A_99 t_39.length c_100) t_39 F :: rowS (Kd.slice 3 (Kd.int .i64)) 39 w.heap.size (.slice A_71 t_33.length c_72) t_33 F_93 :: row k50 50 w.heap.size (.slice A_65 t_26.length c_66) t_26 F_86 :: row k50 50 w.heap.size (.slice A_78 t_20.length c_79) t_20 F_80 :: rowS (Kd.slice 3 (Kd.int .i64)) 39 w.heap.size (.slice A_59 t_8.length c_60) t_8 F_61 :: row k50 50 w.heap.size (.slice A_53 t_6.length c_54) t_6 F_55 :: cs) _ := ⟨_, Hp.made hp hb hR_97⟩
    refine sx_rd 80 (.int .i64 a1) (by rfl) (by kernel_rfl) ?_
    refine sx_call 81 (by rfl) (by kernel_rfl) ((impl_FirstMagic.calls A_99 c_100 t_39 a1 _ _ _ (row_C (hp.at_ 0 _ (by rfl))) (row_len (hp.at_ 0 _ (by rfl))).2 hv_40).mono ?_)
    rintro _ W_108 ⟨v_104, rfl, hR_103, hb⟩
    refine ⟨_, rfl, ?_⟩
    obtain ⟨A_105, c_106, rfl, hcc_c_106, _⟩ := Kd.S_reads hR_103
    obtain ⟨F_107, hp⟩ : ∃ F, Hp w (rowS (Kd.slice 3 (Kd.int .i64)) 39 w.heap.size (.slice A_105 t_41.length c_106) t_41 F :: row k50 50 w.heap.size (.slice A_99 t_39.length c_100) t_39 F_101 :: rowS (Kd.slice 3 (Kd.int .i64)) 39 w.heap.size (.slice A_71 t_33.length c_72) t_33 F_93 :: row k50 50 w.heap.size (.slice A_65 t_26.length c_66) t_26 F_86 :: row k50 50 w.heap.size (.slice A_78 t_20.length c_79) t_20 F_80 :: rowS (Kd.slice 3 (Kd.int .i64)) 39 w.heap.size (.slice A_59 t_8.length c_60) t_8 F_61 :: row k50 50 w.heap.size (.slice A_53 t_6.length c_54) t_6 F_55 :: cs) _ := ⟨_, Hp.madeS hp hb hR_103⟩
    refine sx_rd 77 (.tuple #[.slice A_105 t_41.length c_106, .bool t_42]) (by rfl) (by kernel_rfl) ?_
    refine sx_rd 82 (.slice A_105 t_41.length c_106) (by rfl) (by kernel_rfl) ?_
    refine sx_rd 83 (.bool t_42) (by rfl) (by kernel_rfl) ?_
    refine sx_rd 14 (.slice A_105 t_41.length c_106) (by rfl) (by kernel_rfl) ?_
    refine sx_rd 15 (.bool t_42) (by rfl) (by kernel_rfl) ?_
    refine sx_nil ?_
    refine ex_then_n ?_
    refine wp_seq ?_
    refine wp_seq ?_
    refine sx_region ?_
    refine sx_rd 84 (.slice A_105 t_41.length c_106) (by rfl) (by kernel_rfl) ?_
    refine sx_rd 85 (.slice A_59 t_8.length c_60) (by rfl) (by kernel_rfl) ?_
    refine sx_call 86 (by rfl) (by kernel_rfl) ((laws_eqIntSS.calls _ A_105 c_106 t_41 A_59 c_60 t_8 _ _ (rowS_C (hp.at_ 0 _ (by rfl))) (rowS_len (hp.at_ 0 _ (by rfl))).2 (rowS_C (hp.at_ 5 _ (by rfl))) (rowS_len (hp.at_ 5 _ (by rfl))).2 hv_43).mono ?_)
    rintro _ W_109 ⟨rfl, hb⟩
    refine ⟨_, rfl, ?_⟩
    replace hp := hp.below hb.below
    clear hb
    refine sx_rd 87 (.bool false) (by rfl) (bv (show (!t_44) = false from by rw [hc_45]; rfl) (by kernel_rfl)) ?_
    refine sx_rd 88 (.bool false) (by rfl) (by kernel_rfl) ?_
    refine sx_want (by rfl) ?_
    refine sx_rd 89 (.bool t_42) (by rfl) (by kernel_rfl) ?_
    refine sx_want (by rfl) ?_
    refine sx_rd 90 (.bool t_9) (by rfl) (by kernel_rfl) ?_
    refine sx_want (by rfl) ?_
    refine sx_rd 91 (.bool (t_42 != t_9)) (by rfl) (by kernel_rfl) ?_
    refine sx_rd 92 (.bool (t_42 != t_9)) (by rfl) (by kernel_rfl) ?_
    refine sx_nil ?_
    refine ex_then_n ?_
    refine sx_else (t_42 != t_9) (by rfl) (Bool.eq_false_iff.mpr hc_46) ?_
    refine wp_skip ?_
    refine ex_then_n ?_
    refine wp_seq ?_
    refine sx_region ?_
    refine sx_rd 13 (.int .i64 1) (by rfl) (by kernel_rfl) ?_
    refine sx_nil ?_
    refine ex_then_n ?_
    refine wp_seq ?_
    refine sx_region ?_
    refine sx_rd 93 (.slice A_71 t_33.length c_72) (by rfl) (by kernel_rfl) ?_
    refine sx_rd 94 (.int .i64 1) (by rfl) (by kernel_rfl) ?_
    refine sx_call 95 (by rfl) (by kernel_rfl) ((laws_heldIntSS.calls _ A_71 c_72 t_33 1 _ _ (rowS_C (hp.at_ 2 _ (by rfl))) (rowS_len (hp.at_ 2 _ (by rfl))).2 hv_47).mono ?_)
    rintro _ W_110 ⟨rfl, hb⟩
    refine ⟨_, rfl, ?_⟩
    replace hp := hp.below hb.below
    clear hb
    refine sx_rd 13 (.int .i64 t_48) (by rfl) (by kernel_rfl) ?_
    refine sx_nil ?_
    refine ex_then_n ?_
    refine wp_seq ?_
    refine wp_seq ?_
    refine sx_region ?_
    refine sx_rd 96 (.int .i64 t_48) (by rfl) (by kernel_rfl) ?_
    refine sx_rd 97 (.bool (decide (t_48 < 0))) (by rfl) (by kernel_rfl) ?_
    refine sx_nil ?_
    refine ex_then_n ?_
    refine sx_else (decide (t_48 < 0)) (by rfl) (decide_eq_false hc_49) ?_
    refine wp_skip ?_
    refine ex_then_n ?_
    refine wp_seq ?_
    refine wp_seq ?_
    refine sx_region ?_
    refine sx_rd 98 (.int .i64 t_48) (by rfl) (by kernel_rfl) ?_
    refine sx_rd 99 (.int .i64 t_32) (by rfl) (by kernel_rfl) ?_
    refine sx_rd 100 (.bool (t_48 != t_32)) (by rfl) (by kernel_rfl) ?_
    refine sx_nil ?_
    refine ex_then_n ?_
    refine sx_else (t_48 != t_32) (by rfl) (bne_eq_false_iff_eq.mpr hc_50) ?_
    refine wp_skip ?_
    refine ex_then_n ?_
    refine wp_seq ?_
    refine sx_region ?_
    refine sx_rd 4 (.bool true) (by rfl) (by kernel_rfl) ?_
    refine sx_nil ?_
    refine ex_then_n ?_
    refine wp_ret ?_
    refine sx_end (.bool true) (res1 4 (by rfl)) ?_
    obtain rfl := Option.some.inj h
    exact ⟨rfl, hc2 _ (hp.tail.tail.tail.tail.tail.tail.tail)⟩
end
end Go.Proofs.Ytbkaedmabdgdhaa.Hd
