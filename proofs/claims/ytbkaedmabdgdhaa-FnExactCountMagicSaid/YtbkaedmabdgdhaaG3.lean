-- Printed by hprint.py and laid together by pack.py (this session's programs over the kit's print program). Lean checks it.
import Derived.Test.YtbkaedmabdgdhaaG0
import Derived.Test.YtbkaedmabdgdhaaMMgX
import Derived.Test.YtbkaedmabdgdhaaMSx5
import Derived.Test.YtbkaedmabdgdhaaMSxL
import Derived.Test.YtbkaedmabdgdhaaG2
import Derived.Test.YtbkaedmabdgdhaaMMgC
namespace Go.Proofs.Ytbkaedmabdgdhaa.Hd
section
open Go.RowKit Go.Proofs.YtbkaedmabdgdhaaW.PrintWords Go.Proofs.YtbkaedmabdgdhaaW.PrintLast Go.Proofs.YtbkaedmabdgdhaaW.PrintMore
attribute [local go_sem] max2_int min2_int max_two min_two max_three min_three max_four min_four   -- for this text's walks alone
set_option linter.unusedVariables false
set_option linter.unusedSimpArgs false

def impl_CountMagic.f (l0 : List (S_Tile)) (a1 : Int) : Option (Int × Bool) := (impl_magic.f l0 a1).bind fun bt204 => (some (bt204.2.1, bt204.2.2))
set_option maxHeartbeats 8000000 in
set_option maxRecDepth 100000 in
theorem impl_CountMagic.calls (A0 : Option Addr) (c0 : Nat) (l0 : List (S_Tile)) (a1 : Int) (r1 : Int) (r2 : Bool) (w : World) (hr0 : Kd.C k50 w A0 l0.length l0) (hc0 : l0.length ≤ c0) (h : impl_CountMagic.f l0 a1 = some (r1, r2)) :
    Calls Try.prog 11 #[.slice A0 l0.length c0, .int .i64 a1] w fun e w' => e = .returned (.tuple #[.int .i64 r1, .bool r2]) ∧ Below w.heap.size w w' := by
  have HR0 := Aside0.mk hr0
  have HC0 := Aside0.mk hc0
  clear hr0 hc0
  have HB := Aside0.mk (Below.refl w.heap.size w)
  have H : ((impl_magic.f l0 a1).bind fun bt204 => (some (bt204.2.1, bt204.2.2))) = some (r1, r2) := h
  clear h
  replace H := Option.bind_eq_some_iff.mp H
  obtain ⟨⟨t204, t205, t206⟩, A30, H⟩ := H
  replace H : (some (t205, t206)) = some (r1, r2) := H
  have A3 := Aside0.mk A30
  clear A30
  simp only [Option.some.injEq, Prod.mk.injEq] at H
  obtain ⟨rfl, rfl⟩ := H
  go_enter Try.func11, Try.ntmps11
  go_wp2_with (first | ((with_reducible refine gate_callee (f := 30) rfl ?_); refine goesL_ (some 12) rfl rfl Try.func30 (by kernel_rfl) rfl #[.slice A0 l0.length c0, .int .i64 a1] rfl (by (try simp only [List.map_toArray, List.map_cons, List.map_nil]); first | done | rfl | (simp only [List.length_drop, List.length_take]; rfl)) ?_; (with_reducible refine (impl_magic.calls _ _ l0 a1 t204 t205 t206 _ ?side1 ?side2 A3.out).mono ?_); (case side1 => repeat (first | exact HR0.out | (with_reducible refine Kd.C_alloc ?_ _) | (with_reducible refine Kd.C_drewN ?_ _) | (with_reducible refine Kd.C_drew ?_))); (case side2 => exact HC0.out); rintro e w4 ⟨v207, rfl, ho0, hb⟩; refine ⟨_, rfl, ?_⟩; have n0_ := Aside0.mk (Kd.S_lower ho0 (below_size (by repeat (first | (with_reducible first | exact HB.out | apply below_alloc | apply pw_below_drewN | apply below_drew1) | exact HB.out)))); have n1_ := Aside0.mk (below_step (by repeat (first | (with_reducible first | exact HB.out | apply below_alloc | apply pw_below_drewN | apply below_drew1) | exact HB.out)) hb); clear HB; have HO208 := n0_; have HB := n1_; clear n0_ n1_; (try clear hb); (try clear hb2); (try clear hk); (try clear hi); (try clear ho0)))
  go_ret2
  exact ⟨by first | rfl | (simp [errW_none, errW_some] <;> rfl) | (simp [*, errW_none, errW_some] <;> rfl), by repeat (first | (with_reducible first | exact HB.out | apply below_alloc | apply pw_below_drewN | apply below_drew1) | exact HB.out)⟩

end
section
open Go.RowKit Go.Proofs.YtbkaedmabdgdhaaW.PrintWords Go.Proofs.YtbkaedmabdgdhaaW.PrintLast Go.Proofs.YtbkaedmabdgdhaaW.PrintMore
attribute [local go_sem] max2_int min2_int max_two min_two max_three min_three max_four min_four   -- for this text's walks alone
set_option linter.unusedVariables false
set_option linter.unusedSimpArgs false

def laws_FnExactCountMagic.f (k : Nat) (l0 : List (S_LTile)) (a1 : Int) : Option (Bool) := (laws_szTileS.f l0 1048576).bind fun t214 => (if t214 < 0 then (some true) else ((laws_toTileS.f k l0).bind fun t215 => ((spec_CountMagic.f t215 a1).bind fun bt218 => ((laws_toTileS.f k l0).bind fun t220 => ((impl_CountMagic.f t220 a1).bind fun bt223 => (if bt223.1 = bt218.1 then (if (bt223.2 != bt218.2) = true then (none) else ((laws_toTileS.f k l0).bind fun t225 => ((laws_eqTileS.f k t220 t225).bind fun t228 => (if t228 = true then (some true) else (none))))) else (none)))))))
set_option maxRecDepth 100000 in
set_option maxHeartbeats 40000000 in
theorem laws_FnExactCountMagic.calls (k : Nat) (A0 : Option Addr) (c0 : Nat) (l0 : List (S_LTile)) (a1 : Int) (r : Bool) (w : World) (hr0 : Kd.C k52 w A0 l0.length l0) (hc0 : l0.length ≤ c0) (h : laws_FnExactCountMagic.f k l0 a1 = some r) :
    Calls Try.prog 3 #[.slice A0 l0.length c0, .int .i64 a1] w fun e w' => e = .returned (.bool r) ∧ Below w.heap.size w w' := by
  obtain ⟨cs, hcs⟩ : ∃ cs, cs = [old w w.heap.size] := ⟨_, rfl⟩
  have hp : Hp w cs w := by rw [hcs]; exact Hp.old_start w
  have hc2 : ∀ W, Hp w cs W → Below w.heap.size w W := fun W h => by rw [hcs] at h; exact h.since 0 _ rfl
  have hC0 : ∀ W, Hp w cs W → Kd.C k52 W A0 l0.length l0 := fun W h => Kd.C_below hr0 (hc2 W h)
  clear hcs
  unfold laws_FnExactCountMagic.f at h
  obtain ⟨t_2, hv_1, h⟩ := Option.bind_eq_some_iff.mp h
  try dsimp only at h
  refine sx_enter (N := 44) (l := [.slice A0 l0.length c0, .int .i64 a1]) Try.func3 rfl rfl rfl ?_
  refine wp_seq ?_
  refine sx_region ?_
  refine sx_rd 4 (.bool false) (by rfl) (by kernel_rfl) ?_
  refine sx_nil ?_
  refine ex_then_n ?_
  refine wp_seq ?_
  refine sx_region ?_
  refine sx_rd 5 (.int .i64 1048576) (by rfl) (by kernel_rfl) ?_
  refine sx_nil ?_
  refine ex_then_n ?_
  refine wp_seq ?_
  refine sx_region ?_
  refine sx_rd 11 (.slice A0 l0.length c0) (by rfl) (by kernel_rfl) ?_
  refine sx_rd 12 (.int .i64 1048576) (by rfl) (by kernel_rfl) ?_
  refine sx_call 13 (by rfl) (by kernel_rfl) ((laws_szTileS.calls A0 c0 l0 1048576 _ _ (hC0 _ hp) hc0 hv_1).mono ?_)
  rintro _ W_3 ⟨rfl, hb⟩
  refine ⟨_, rfl, ?_⟩
  replace hp := hp.below hb.below
  clear hb
  refine sx_rd 5 (.int .i64 t_2) (by rfl) (by kernel_rfl) ?_
  refine sx_nil ?_
  refine ex_then_n ?_
  refine wp_seq ?_
  refine wp_seq ?_
  refine sx_region ?_
  refine sx_rd 14 (.int .i64 t_2) (by rfl) (by kernel_rfl) ?_
  refine sx_rd 15 (.bool (decide (t_2 < 0))) (by rfl) (by kernel_rfl) ?_
  refine sx_nil ?_
  refine ex_then_n ?_
  by_cases hc_4 : t_2 < 0
  ·
    rw [if_pos hc_4] at h
    refine sx_then (decide (t_2 < 0)) (by rfl) (decide_eq_true hc_4) ?_
    refine wp_seq ?_
    refine sx_region ?_
    refine sx_rd 4 (.bool true) (by rfl) (by kernel_rfl) ?_
    refine sx_nil ?_
    refine ex_then_n ?_
    refine wp_ret ?_
    refine ex_then_r ?_
    refine sx_end (.bool true) (res1 4 (by rfl)) ?_
    obtain rfl := Option.some.inj h
    exact ⟨rfl, hc2 _ (hp)⟩
  ·
    rw [if_neg hc_4] at h
    obtain ⟨t_6, hv_5, h⟩ := Option.bind_eq_some_iff.mp h
    try dsimp only at h
    obtain ⟨⟨t_8, t_9⟩, hv_7, h⟩ := Option.bind_eq_some_iff.mp h
    try dsimp only at h
    obtain ⟨t_11, hv_10, h⟩ := Option.bind_eq_some_iff.mp h
    try dsimp only at h
    obtain ⟨⟨t_13, t_14⟩, hv_12, h⟩ := Option.bind_eq_some_iff.mp h
    try dsimp only at h
    by_cases hc_15 : t_13 = t_8
    case neg => rw [if_neg hc_15] at h; cases h
    rw [if_pos hc_15] at h
    by_cases hc_16 : (t_14 != t_9) = true
    case pos => rw [if_pos hc_16] at h; cases h
    rw [if_neg hc_16] at h
    obtain ⟨t_18, hv_17, h⟩ := Option.bind_eq_some_iff.mp h
    try dsimp only at h
    obtain ⟨t_20, hv_19, h⟩ := Option.bind_eq_some_iff.mp h
    try dsimp only at h
    by_cases hc_21 : t_20 = true
    case neg => rw [if_neg hc_21] at h; cases h
    rw [if_pos hc_21] at h
    refine sx_else (decide (t_2 < 0)) (by rfl) (decide_eq_false hc_4) ?_
    refine wp_skip ?_
    refine ex_then_n ?_
    refine wp_seq ?_
    refine sx_region ?_
    refine sx_rd 17 (.slice A0 l0.length c0) (by rfl) (by kernel_rfl) ?_
    refine sx_call 18 (by rfl) (by kernel_rfl) ((laws_toTileS.calls _ A0 c0 l0 _ _ (hC0 _ hp) hc0 hv_5).mono ?_)
    rintro _ W_27 ⟨v_23, rfl, hR_22, hb⟩
    refine ⟨_, rfl, ?_⟩
    obtain ⟨A_24, c_25, rfl, hcc_c_25, _⟩ := Kd.R_reads hR_22
    obtain ⟨F_26, hp⟩ : ∃ F, Hp w (row k50 50 w.heap.size (.slice A_24 t_6.length c_25) t_6 F :: cs) _ := ⟨_, Hp.made hp hb hR_22⟩
    refine sx_rd 19 (.int .i64 a1) (by rfl) (by kernel_rfl) ?_
    refine sx_call 20 (by rfl) (by kernel_rfl) ((spec_CountMagic.calls A_24 c_25 t_6 a1 _ _ _ (row_C (hp.at_ 0 _ (by rfl))) (row_len (hp.at_ 0 _ (by rfl))).2 hv_7).mono ?_)
    rintro _ W_28 ⟨rfl, hb⟩
    refine ⟨_, rfl, ?_⟩
    replace hp := hp.below hb
    clear hb
    refine sx_rd 16 (.tuple #[.int .i64 t_8, .bool t_9]) (by rfl) (by kernel_rfl) ?_
    refine sx_rd 21 (.int .i64 t_8) (by rfl) (by kernel_rfl) ?_
    refine sx_rd 22 (.bool t_9) (by rfl) (by kernel_rfl) ?_
    refine sx_rd 6 (.int .i64 t_8) (by rfl) (by kernel_rfl) ?_
    refine sx_rd 7 (.bool t_9) (by rfl) (by kernel_rfl) ?_
    refine sx_nil ?_
    refine ex_then_n ?_
    refine wp_seq ?_
    refine sx_region ?_
    refine sx_rd 23 (.slice A0 l0.length c0) (by rfl) (by kernel_rfl) ?_
    refine sx_call 24 (by rfl) (by kernel_rfl) ((laws_toTileS.calls _ A0 c0 l0 _ _ (hC0 _ hp.tail) hc0 hv_10).mono ?_)
    rintro _ W_34 ⟨v_30, rfl, hR_29, hb⟩
    refine ⟨_, rfl, ?_⟩
    obtain ⟨A_31, c_32, rfl, hcc_c_32, _⟩ := Kd.R_reads hR_29
    obtain ⟨F_33, hp⟩ : ∃ F, Hp w (row k50 50 w.heap.size (.slice A_31 t_11.length c_32) t_11 F :: row k50 50 w.heap.size (.slice A_24 t_6.length c_25) t_6 F_26 :: cs) _ := ⟨_, Hp.made hp hb hR_29⟩
    refine sx_rd 8 (.slice A_31 t_11.length c_32) (by rfl) (by kernel_rfl) ?_
    refine sx_nil ?_
    refine ex_then_n ?_
    refine wp_seq ?_
    refine sx_region ?_
    refine sx_rd 26 (.slice A_31 t_11.length c_32) (by rfl) (by kernel_rfl) ?_
    refine sx_rd 27 (.int .i64 a1) (by rfl) (by kernel_rfl) ?_
    refine sx_call 28 (by rfl) (by kernel_rfl) ((impl_CountMagic.calls A_31 c_32 t_11 a1 _ _ _ (row_C (hp.at_ 0 _ (by rfl))) (row_len (hp.at_ 0 _ (by rfl))).2 hv_12).mono ?_)
    rintro _ W_35 ⟨rfl, hb⟩
    refine ⟨_, rfl, ?_⟩
    replace hp := hp.below hb
    clear hb
    refine sx_rd 25 (.tuple #[.int .i64 t_13, .bool t_14]) (by rfl) (by kernel_rfl) ?_
    refine sx_rd 29 (.int .i64 t_13) (by rfl) (by kernel_rfl) ?_
    refine sx_rd 30 (.bool t_14) (by rfl) (by kernel_rfl) ?_
    refine sx_rd 9 (.int .i64 t_13) (by rfl) (by kernel_rfl) ?_
    refine sx_rd 10 (.bool t_14) (by rfl) (by kernel_rfl) ?_
    refine sx_nil ?_
    refine ex_then_n ?_
    refine wp_seq ?_
    refine wp_seq ?_
    refine sx_region ?_
    refine sx_rd 31 (.int .i64 t_13) (by rfl) (by kernel_rfl) ?_
    refine sx_rd 32 (.int .i64 t_8) (by rfl) (by kernel_rfl) ?_
    refine sx_rd 33 (.bool false) (by rfl) (bv (bne_eq_false_iff_eq.mpr hc_15) (by kernel_rfl)) ?_
    refine sx_rd 34 (.bool false) (by rfl) (by kernel_rfl) ?_
    refine sx_want (by rfl) ?_
    refine sx_rd 35 (.bool t_14) (by rfl) (by kernel_rfl) ?_
    refine sx_want (by rfl) ?_
    refine sx_rd 36 (.bool t_9) (by rfl) (by kernel_rfl) ?_
    refine sx_want (by rfl) ?_
    refine sx_rd 37 (.bool (t_14 != t_9)) (by rfl) (by kernel_rfl) ?_
    refine sx_rd 38 (.bool (t_14 != t_9)) (by rfl) (by kernel_rfl) ?_
    refine sx_nil ?_
    refine ex_then_n ?_
    refine sx_else (t_14 != t_9) (by rfl) (Bool.eq_false_iff.mpr hc_16) ?_
    refine wp_skip ?_
    refine ex_then_n ?_
    refine wp_seq ?_
    refine wp_seq ?_
    refine sx_region ?_
    refine sx_rd 39 (.slice A_31 t_11.length c_32) (by rfl) (by kernel_rfl) ?_
    refine sx_rd 40 (.slice A0 l0.length c0) (by rfl) (by kernel_rfl) ?_
    refine sx_call 41 (by rfl) (by kernel_rfl) ((laws_toTileS.calls _ A0 c0 l0 _ _ (hC0 _ hp.tail.tail) hc0 hv_17).mono ?_)
    rintro _ W_41 ⟨v_37, rfl, hR_36, hb⟩
    refine ⟨_, rfl, ?_⟩
    obtain ⟨A_38, c_39, rfl, hcc_c_39, _⟩ := Kd.R_reads hR_36
    obtain ⟨F_40, hp⟩ : ∃ F, Hp w (row k50 50 w.heap.size (.slice A_38 t_18.length c_39) t_18 F :: row k50 50 w.heap.size (.slice A_31 t_11.length c_32) t_11 F_33 :: row k50 50 w.heap.size (.slice A_24 t_6.length c_25) t_6 F_26 :: cs) _ := ⟨_, Hp.made hp hb hR_36⟩
    refine sx_call 42 (by rfl) (by kernel_rfl) ((laws_eqTileS.calls _ A_31 c_32 t_11 A_38 c_39 t_18 _ _ (row_C (hp.at_ 1 _ (by rfl))) (row_len (hp.at_ 1 _ (by rfl))).2 (row_C (hp.at_ 0 _ (by rfl))) (row_len (hp.at_ 0 _ (by rfl))).2 hv_19).mono ?_)
    rintro _ W_42 ⟨rfl, hb⟩
    refine ⟨_, rfl, ?_⟩
    replace hp := hp.below hb
    clear hb
    refine sx_rd 43 (.bool (!t_20)) (by rfl) (by kernel_rfl) ?_
    refine sx_nil ?_
    refine ex_then_n ?_
    refine sx_else (!t_20) (by rfl) (show (!t_20) = false from by rw [hc_21]; rfl) ?_
    refine wp_skip ?_
    refine ex_then_n ?_
    refine wp_seq ?_
    refine sx_region ?_
    refine sx_rd 4 (.bool true) (by rfl) (by kernel_rfl) ?_
    refine sx_nil ?_
    refine ex_then_n ?_
    refine wp_ret ?_
    refine sx_end (.bool true) (res1 4 (by rfl)) ?_
    obtain rfl := Option.some.inj h
    exact ⟨rfl, hc2 _ (hp.tail.tail.tail)⟩
end
section
open Go.RowKit Go.Proofs.YtbkaedmabdgdhaaW.PrintWords Go.Proofs.YtbkaedmabdgdhaaW.PrintLast Go.Proofs.YtbkaedmabdgdhaaW.PrintMore
attribute [local go_sem] max2_int min2_int max_two min_two max_three min_three max_four min_four   -- for this text's walks alone
set_option linter.unusedVariables false
set_option linter.unusedSimpArgs false

end
end Go.Proofs.Ytbkaedmabdgdhaa.Hd
