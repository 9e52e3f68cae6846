-- Printed by hprint.py and laid together by pack.py (this session's programs over the kit's print program). Lean checks it.
import Derived.Test.YtkjaahmlnbgnjaaGreatMSx5
import Derived.Test.YtkjaahmlnbgnjaaGreatMSxL
import Derived.Test.YtkjaahmlnbgnjaaGreatG0
import Derived.Test.YtkjaahmlnbgnjaaGreatMPlMake
import Derived.Test.YtkjaahmlnbgnjaaGreatMPlMoves
import Derived.Test.YtkjaahmlnbgnjaaGreatMPlText
namespace Go.Proofs.YtkjaahmlnbgnjaaGreat.Hd
section
open Go.RowKit Go.Proofs.YtkjaahmlnbgnjaaGreatW.PrintWords Go.Proofs.YtkjaahmlnbgnjaaGreatW.PrintLast Go.Proofs.YtkjaahmlnbgnjaaGreatW.PrintMore
attribute [local go_sem] max2_int min2_int max_two min_two max_three min_three max_four min_four   -- for this text's walks alone
set_option linter.unusedVariables false
set_option linter.unusedSimpArgs false

def spec_plFind.l0 : Nat → ByteArray → List (S_plLay) → Int → Int → List (S_Tile) → List (S_Tile) → List Int → Int → Int → Option ((List (S_Tile)) × (List (S_Tile)) × List Int × Int × Int × Bool)
  | 0, _, _, _, _, _, _, _, _, _ => none
  | k + 1, x1, x9, x10, x11, x217000, x217001, x217002, x217003, x217004 => if x11 < x10 then (if 0 ≤ x11 then (if x11 < (x9.length : Int) then ((spec_plText.f ((rd_plLay x9 x11).f0.f0) ((rd_plLay x9 x11).f0.f1) ((rd_plLay x9 x11).f1) ((rd_plLay x9 x11).f2)).bind fun t223 => (if t223.toList = x1.toList then ((spec_plMake.f x217000 x217001 x217002 x217003 x217004 ((rd_plLay x9 x11).f0.f0) ((rd_plLay x9 x11).f0.f1) ((rd_plLay x9 x11).f1) ((rd_plLay x9 x11).f2)).bind fun bt224 => (some (bt224.1, bt224.2.1, bt224.2.2.1, bt224.2.2.2.1, bt224.2.2.2.2, true))) else (spec_plFind.l0 k x1 x9 x10 (wrap64 (x11 + 1)) x217000 x217001 x217002 x217003 x217004))) else (none)) else (none)) else (some (([] : List (S_Tile)), ([] : List (S_Tile)), ([] : List Int), 0, 0, false))
def spec_plFind.f (k : Nat) (l0_0 : List (S_Tile)) (l0_1 : List (S_Tile)) (l0_2 : List Int) (a0_3 : Int) (a0_4 : Int) (a1 : ByteArray) : Option ((List (S_Tile)) × (List (S_Tile)) × List Int × Int × Int × Bool) := (spec_plMoves.f l0_0 l0_1 l0_2 a0_3 a0_4).bind fun t218 => (spec_plFind.l0 k a1 t218 (t218.length : Int) 0 l0_0 l0_1 l0_2 a0_3 a0_4)
set_option maxRecDepth 100000 in
set_option maxHeartbeats 40000000 in
theorem spec_plFind.calls (k : Nat) (A0_0 : Option Addr) (c0_0 : Nat) (l0_0 : List (S_Tile)) (A0_1 : Option Addr) (c0_1 : Nat) (l0_1 : List (S_Tile)) (A0_2 : Option Addr) (c0_2 : Nat) (l0_2 : List Int) (a0_3 : Int) (a0_4 : Int) (a1 : ByteArray) (r1 : List (S_Tile)) (r2 : List (S_Tile)) (r3 : List Int) (r4 : Int) (r5 : Int) (r6 : Bool) (w : World) (hr0_0 : Kd.C k59 w A0_0 l0_0.length l0_0) (hc0_0 : l0_0.length ≤ c0_0) (hr0_1 : Kd.C k59 w A0_1 l0_1.length l0_1) (hc0_1 : l0_1.length ≤ c0_1) (hr0_2 : Kd.C (Kd.int .i64) w A0_2 l0_2.length l0_2) (hc0_2 : l0_2.length ≤ c0_2) (h : spec_plFind.f k l0_0 l0_1 l0_2 a0_3 a0_4 a1 = some (r1, r2, r3, r4, r5, r6)) :
    Calls Tryz.prog 25 #[.agg #[.slice A0_0 l0_0.length c0_0, .slice A0_1 l0_1.length c0_1, .slice A0_2 l0_2.length c0_2, .int .i64 a0_3, .int .i64 a0_4], .string a1] w fun e w' => ∃ v0_ v1_ v2_ : Value, e = .returned (.tuple #[.agg #[v0_, v1_, v2_, .int .i64 r4, .int .i64 r5], .bool r6]) ∧ Kd.R k59 59 w' w.heap.size (fun k_ => some k_ ≠ (v1_ : Value).ownBlock) v0_ r1 ∧ Kd.R k59 59 w' w.heap.size (fun k_ => some k_ ≠ (v0_ : Value).ownBlock) v1_ r2 ∧ Kd.R (Kd.int .i64) 3 w' w.heap.size (fun _ => True) v2_ r3 ∧ Below w.heap.size w w' := by
  obtain ⟨cs, hcs⟩ : ∃ cs, cs = [old w w.heap.size] := ⟨_, rfl⟩
  have hp : Hp w cs w := by rw [hcs]; exact Hp.old_start w
  have hc2 : ∀ W, Hp w cs W → Below w.heap.size w W := fun W h => by rw [hcs] at h; exact h.since 0 _ rfl
  have hC0_0 : ∀ W, Hp w cs W → Kd.C k59 W A0_0 l0_0.length l0_0 := fun W h => Kd.C_below hr0_0 (hc2 W h)
  have hC0_1 : ∀ W, Hp w cs W → Kd.C k59 W A0_1 l0_1.length l0_1 := fun W h => Kd.C_below hr0_1 (hc2 W h)
  have hC0_2 : ∀ W, Hp w cs W → Kd.C (Kd.int .i64) W A0_2 l0_2.length l0_2 := fun W h => Kd.C_below hr0_2 (hc2 W h)
  clear hcs
  unfold spec_plFind.f at h
  obtain ⟨t_2, hv_1, h⟩ := Option.bind_eq_some_iff.mp h
  try dsimp only at h
  refine sx_enter (N := 24) (l := [.agg #[.slice A0_0 l0_0.length c0_0, .slice A0_1 l0_1.length c0_1, .slice A0_2 l0_2.length c0_2, .int .i64 a0_3, .int .i64 a0_4], .string a1]) Tryz.func25 rfl rfl rfl ?_
  refine wp_seq ?_
  refine sx_region ?_
  refine sx_box 2 hp #[.slice A0_0 l0_0.length c0_0, .slice A0_1 l0_1.length c0_1, .slice A0_2 l0_2.length c0_2, .int .i64 a0_3, .int .i64 a0_4] 29 (by rfl) (fun W => by kernel_rfl) ?_
  intro g_3 W_4 hp
  refine sx_box 4 hp #[.slice none 0 0, .slice none 0 0, .slice none 0 0, .int .i64 0, .int .i64 0] 29 (by rfl) (fun W => by kernel_rfl) ?_
  intro g_5 W_6 hp
  refine sx_rd 5 (.bool false) (by rfl) (by kernel_rfl) ?_
  refine sx_nil ?_
  refine ex_then_n ?_
  refine wp_seq ?_
  refine wp_seq ?_
  refine sx_region ?_
  refine sx_rd 8 (.agg #[.slice A0_0 l0_0.length c0_0, .slice A0_1 l0_1.length c0_1, .slice A0_2 l0_2.length c0_2, .int .i64 a0_3, .int .i64 a0_4]) (by rfl) (ldn (t := 29) (p := (.tmp 2)) (by rfl) (by rfl) (by kernel_rfl) (by kernel_rfl) (by kernel_rfl) (hp.at_ 1 _ (by rfl))) ?_
  refine sx_call 9 (by rfl) (by kernel_rfl) ((spec_plMoves.calls A0_0 c0_0 l0_0 A0_1 c0_1 l0_1 A0_2 c0_2 l0_2 a0_3 a0_4 _ _ (hC0_0 _ hp.tail.tail) hc0_0 (hC0_1 _ hp.tail.tail) hc0_1 (hC0_2 _ hp.tail.tail) hc0_2 hv_1).mono ?_)
  rintro _ W_12 ⟨v_8, rfl, hR_7, hb⟩
  refine ⟨_, rfl, ?_⟩
  obtain ⟨A_9, c_10, rfl, hcc_c_10, _⟩ := Kd.R_reads hR_7
  obtain ⟨F_11, hp⟩ : ∃ F, Hp w (row k61 61 w.heap.size (.slice A_9 t_2.length c_10) t_2 F :: blk g_5 #[.slice none 0 0, .slice none 0 0, .slice none 0 0, .int .i64 0, .int .i64 0] 29 :: blk g_3 #[.slice A0_0 l0_0.length c0_0, .slice A0_1 l0_1.length c0_1, .slice A0_2 l0_2.length c0_2, .int .i64 a0_3, .int .i64 a0_4] 29 :: cs) _ := ⟨_, Hp.made hp hb hR_7⟩
  refine sx_rd 10 (.int .i64 (t_2.length : Int)) (by rfl) (by kernel_rfl) ?_
  refine sx_rd 11 (.int .i64 0) (by rfl) (by kernel_rfl) ?_
  refine sx_nil ?_
  refine ex_then_n ?_
  refine wp_block ?_
  refine wp_loop_ghost (fun n a W => ∃ (r_ : List (Nat × Value)) (k_14 : Nat) (x_13 : Int)  , n = k_14 + 1 ∧ a = fr 24 ([(1, .string a1), (2, .pointer (some ⟨g_3, 0, none⟩)), (4, .pointer (some ⟨g_5, 0, none⟩)), (9, .slice A_9 t_2.length c_10), (10, .int .i64 (t_2.length : Int)), (11, .int .i64 x_13)] ++ r_) ∧ Hp w (row k61 61 w.heap.size (.slice A_9 t_2.length c_10) t_2 F_11 :: blk g_5 #[.slice none 0 0, .slice none 0 0, .slice none 0 0, .int .i64 0, .int .i64 0] 29 :: blk g_3 #[.slice A0_0 l0_0.length c0_0, .slice A0_1 l0_1.length c0_1, .slice A0_2 l0_2.length c0_2, .int .i64 a0_3, .int .i64 a0_4] 29 :: cs) W ∧ (spec_plFind.l0 k_14 a1 t_2 (t_2.length : Int) x_13 l0_0 l0_1 l0_2 a0_3 a0_4 = some (r1, r2, r3, r4, r5, r6)) ∧ (k_14 ≤ k)) _ ⟨_, k, 0, rfl, fr_front [(1, .string a1), (2, .pointer (some ⟨g_3, 0, none⟩)), (4, .pointer (some ⟨g_5, 0, none⟩)), (9, .slice A_9 t_2.length c_10), (10, .int .i64 (t_2.length : Int)), (11, .int .i64 0)] ⟨rfl, rfl, rfl, rfl, rfl, rfl, trivial⟩, (hp.take [0, 1, 2] 3 (by decide) (by simp)), h, (Nat.le_refl _)⟩ ?_
  rintro _ _ W_16 ⟨r_, k_14, x_13, rfl, rfl, hp, h, hk_15⟩
  rcases k_14 with _ | k_14
  · simp [spec_plFind.l0] at h
  simp only [spec_plFind.l0] at h
  refine wp_seq ?_
  refine sx_region ?_
  refine sx_rd 12 (.bool (decide (x_13 < (t_2.length : Int)))) (by rfl) (by kernel_rfl) ?_
  refine sx_nil ?_
  refine ex_then_n ?_
  refine wp_seq ?_
  by_cases hc_17 : x_13 < (t_2.length : Int)
  ·
    rw [if_pos hc_17] at h
    by_cases hc_18 : 0 ≤ x_13
    case neg => rw [if_neg hc_18] at h; cases h
    rw [if_pos hc_18] at h
    by_cases hc_19 : x_13 < (t_2.length : Int)
    case neg => rw [if_neg hc_19] at h; cases h
    rw [if_pos hc_19] at h
    obtain ⟨t_21, hv_20, h⟩ := Option.bind_eq_some_iff.mp h
    try dsimp only at h
    refine sx_then (decide (x_13 < (t_2.length : Int))) (by rfl) (decide_eq_true hc_17) ?_
    refine wp_skip ?_
    refine ex_then_n ?_
    refine wp_seq ?_
    refine wp_block ?_
    refine wp_seq ?_
    refine sx_region ?_
    refine sx_rd 13 (.pointer (some (adr A_9 x_13 4))) (by rfl) (ix_run (d := k61) (row_C (hp.at_ 0 _ (by rfl))) (t := 56) (by rfl) (by rfl) (by rfl) Tryz.underlying56 (by kernel_rfl) (by omega) (by omega)) ?_
    refine sx_rd 14 (.agg #[.int .i64 ((rd_plLay t_2 x_13).f0.f0), .int .i64 ((rd_plLay t_2 x_13).f0.f1), .bool ((rd_plLay t_2 x_13).f1), .bool ((rd_plLay t_2 x_13).f2)]) (by rfl) (el_run (d := k61) (row_C (hp.at_ 0 _ (by rfl))) z61 x_13 (by omega) (by omega) (cells := [.int .i64 ((rd_plLay t_2 x_13).f0.f0), .int .i64 ((rd_plLay t_2 x_13).f0.f1), .bool ((rd_plLay t_2 x_13).f1), .bool ((rd_plLay t_2 x_13).f2)]) (fun cs h => k61_open h) 0 [.int .i64 ((rd_plLay t_2 x_13).f0.f0), .int .i64 ((rd_plLay t_2 x_13).f0.f1), .bool ((rd_plLay t_2 x_13).f1), .bool ((rd_plLay t_2 x_13).f2)] (by rfl) (t := 61) (p := (.tmp 13)) (by rfl) (by rfl) (by kernel_rfl) (by kernel_rfl)) ?_
    refine sx_box 7 hp #[.int .i64 0, .int .i64 0, .bool false, .bool false] 61 (by rfl) (fun W => by kernel_rfl) ?_
    intro g_22 W_23 hp
    refine sx_store (t := 61) (p := (.tmp 7)) (x := (.tmp 14)) (by rfl) (by rfl) 0 (by rfl) 0 [.int .i64 ((rd_plLay t_2 x_13).f0.f0), .int .i64 ((rd_plLay t_2 x_13).f0.f1), .bool ((rd_plLay t_2 x_13).f1), .bool ((rd_plLay t_2 x_13).f2)] (by rfl) (by rfl) (by kernel_rfl) (by simp [Value.oneCell']) (by show 4 ≤ 4; omega) #[.int .i64 ((rd_plLay t_2 x_13).f0.f0), .int .i64 ((rd_plLay t_2 x_13).f0.f1), .bool ((rd_plLay t_2 x_13).f1), .bool ((rd_plLay t_2 x_13).f2)] (by rfl) hp ?_
    intro W_24 hp; simp only [List.set_cons_succ, List.set_cons_zero] at hp
    refine sx_nil ?_
    refine ex_then_n ?_
    refine wp_seq ?_
    refine sx_region ?_
    refine sx_rd 15 (.agg #[.int .i64 ((rd_plLay t_2 x_13).f0.f0), .int .i64 ((rd_plLay t_2 x_13).f0.f1), .bool ((rd_plLay t_2 x_13).f1), .bool ((rd_plLay t_2 x_13).f2)]) (by rfl) (ldn (t := 61) (p := (.tmp 7)) (by rfl) (by rfl) (by kernel_rfl) (by kernel_rfl) (by kernel_rfl) (hp.at_ 0 _ (by rfl))) ?_
    refine sx_call 16 (by rfl) (by kernel_rfl) ((spec_plText.calls ((rd_plLay t_2 x_13).f0.f0) ((rd_plLay t_2 x_13).f0.f1) ((rd_plLay t_2 x_13).f1) ((rd_plLay t_2 x_13).f2) _ _ hv_20).mono ?_)
    rintro _ W_25 ⟨rfl, hb⟩
    refine ⟨_, rfl, ?_⟩
    replace hp := hp.below hb
    clear hb
    refine sx_rd 17 (.string a1) (by rfl) (by kernel_rfl) ?_
    refine sx_rd 18 (.bool (t_21.toList == a1.toList)) (by rfl) (by kernel_rfl) ?_
    refine sx_nil ?_
    refine ex_then_n ?_
    by_cases hc_26 : t_21.toList = a1.toList
    ·
      rw [if_pos hc_26] at h
      obtain ⟨⟨t_28, t_29, t_30, t_31, t_32⟩, hv_27, h⟩ := Option.bind_eq_some_iff.mp h
      try dsimp only at h
      refine sx_then (t_21.toList == a1.toList) (by rfl) (beq_iff_eq.mpr hc_26) ?_
      refine wp_seq ?_
      refine sx_region ?_
      refine sx_rd 19 (.agg #[.slice A0_0 l0_0.length c0_0, .slice A0_1 l0_1.length c0_1, .slice A0_2 l0_2.length c0_2, .int .i64 a0_3, .int .i64 a0_4]) (by rfl) (ldn (t := 29) (p := (.tmp 2)) (by rfl) (by rfl) (by kernel_rfl) (by kernel_rfl) (by kernel_rfl) (hp.at_ 3 _ (by rfl))) ?_
      refine sx_rd 20 (.agg #[.int .i64 ((rd_plLay t_2 x_13).f0.f0), .int .i64 ((rd_plLay t_2 x_13).f0.f1), .bool ((rd_plLay t_2 x_13).f1), .bool ((rd_plLay t_2 x_13).f2)]) (by rfl) (ldn (t := 61) (p := (.tmp 7)) (by rfl) (by rfl) (by kernel_rfl) (by kernel_rfl) (by kernel_rfl) (hp.at_ 0 _ (by rfl))) ?_
      refine sx_call 21 (by rfl) (by kernel_rfl) ((spec_plMake.calls A0_0 c0_0 l0_0 A0_1 c0_1 l0_1 A0_2 c0_2 l0_2 a0_3 a0_4 ((rd_plLay t_2 x_13).f0.f0) ((rd_plLay t_2 x_13).f0.f1) ((rd_plLay t_2 x_13).f1) ((rd_plLay t_2 x_13).f2) _ _ _ _ _ _ (hC0_0 _ hp.tail.tail.tail.tail) hc0_0 (hC0_1 _ hp.tail.tail.tail.tail) hc0_1 (hC0_2 _ hp.tail.tail.tail.tail) hc0_2 hv_27).mono ?_)
      rintro _ W_48 ⟨v_36, v_37, v_38, rfl, hR_33, hR_34, hR_35, hb⟩
      refine ⟨_, rfl, ?_⟩
      obtain ⟨A_39, c_40, rfl, hcc_c_40, _⟩ := Kd.R_reads hR_33
      obtain ⟨A_42, c_43, rfl, hcc_c_43, _⟩ := Kd.R_reads hR_34
      obtain ⟨A_45, c_46, rfl, hcc_c_46, _⟩ := Kd.R_reads hR_35
      obtain ⟨F_41, F_44, F_47, hp⟩ : ∃ F_41 F_44 F_47, Hp w (row k59 59 w.heap.size (.slice A_39 t_28.length c_40) t_28 F_41 :: row k59 59 w.heap.size (.slice A_42 t_29.length c_43) t_29 F_44 :: row (Kd.int .i64) 3 w.heap.size (.slice A_45 t_30.length c_46) t_30 F_47 :: blk g_22 #[.int .i64 ((rd_plLay t_2 x_13).f0.f0), .int .i64 ((rd_plLay t_2 x_13).f0.f1), .bool ((rd_plLay t_2 x_13).f1), .bool ((rd_plLay t_2 x_13).f2)] 61 :: row k61 61 w.heap.size (.slice A_9 t_2.length c_10) t_2 F_11 :: blk g_5 #[.slice none 0 0, .slice none 0 0, .slice none 0 0, .int .i64 0, .int .i64 0] 29 :: blk g_3 #[.slice A0_0 l0_0.length c0_0, .slice A0_1 l0_1.length c0_1, .slice A0_2 l0_2.length c0_2, .int .i64 a0_3, .int .i64 a0_4] 29 :: cs) _ := ⟨_, _, _, Hp.made3 hp hb rfl rfl rfl hR_33 hR_34 hR_35 (ok_apart hR_33 (fun k hk => hk)) (typed_apart hR_33 hR_35 (by decide)) (typed_apart hR_34 hR_35 (by decide))⟩
      refine sx_store (t := 29) (p := (.tmp 4)) (x := (.tmp 21)) (by rfl) (by rfl) 5 (by rfl) 0 [.slice A_39 t_28.length c_40, .slice A_42 t_29.length c_43, .slice A_45 t_30.length c_46, .int .i64 t_31, .int .i64 t_32] (by rfl) (by rfl) (by kernel_rfl) (by simp [Value.oneCell']) (by show 5 ≤ 5; omega) #[.slice A_39 t_28.length c_40, .slice A_42 t_29.length c_43, .slice A_45 t_30.length c_46, .int .i64 t_31, .int .i64 t_32] (by rfl) hp ?_
      intro W_49 hp; simp only [List.set_cons_succ, List.set_cons_zero] at hp
      refine sx_rd 5 (.bool true) (by rfl) (by kernel_rfl) ?_
      refine sx_nil ?_
      refine ex_then_n ?_
      refine wp_ret ?_
      refine ex_blk_r (ex_then_r (ex_then_r (ex_blk_r (ex_then_r ?_))))
      refine sx_end (.tuple #[.agg #[.slice A_39 t_28.length c_40, .slice A_42 t_29.length c_43, .slice A_45 t_30.length c_46, .int .i64 t_31, .int .i64 t_32], .bool true]) (rescT (p := 4) (u := 5) (by rfl) (by rfl) (by kernel_rfl) (by kernel_rfl) (hp.at_ 5 _ (by rfl))) ?_
      simp only [Option.some.injEq, Prod.mk.injEq] at h; obtain ⟨rfl, rfl, rfl, rfl, rfl, rfl⟩ := h
      exact ⟨_, _, _, rfl, Kd.R_mono (row_R (hp.at_ 0 _ (by rfl))) (fun k_ hk_ => Hp.apart_rows hp 0 1 (by decide) (by rfl) (by rfl) k_ hk_), Kd.R_mono (row_R (hp.at_ 1 _ (by rfl))) (fun k_ hk_ => Hp.apart_rows hp 1 0 (by decide) (by rfl) (by rfl) k_ hk_), Kd.R_mono (row_R (hp.at_ 2 _ (by rfl))) (fun _ _ => trivial), hc2 _ (hp.tail.tail.tail.tail.tail.tail.tail)⟩
    ·
      rw [if_neg hc_26] at h
      refine sx_else (t_21.toList == a1.toList) (by rfl) (beq_eq_false_iff_ne.mpr hc_26) ?_
      refine wp_skip ?_
      refine ex_blk_n ?_
      refine ex_then_n ?_
      refine sx_region ?_
      refine sx_rd 22 (.int .i64 (wrap64 (x_13 + 1))) (by rfl) (wr_w (by kernel_rfl)) ?_
      refine sx_rd 11 (.int .i64 (wrap64 (x_13 + 1))) (by rfl) (by kernel_rfl) ?_
      refine sx_nil ?_
      refine ex_then_n ?_
      exact ⟨_, (by omega), _, k_14, (wrap64 (x_13 + 1)), rfl, fr_front [(1, .string a1), (2, .pointer (some ⟨g_3, 0, none⟩)), (4, .pointer (some ⟨g_5, 0, none⟩)), (9, .slice A_9 t_2.length c_10), (10, .int .i64 (t_2.length : Int)), (11, .int .i64 (wrap64 (x_13 + 1)))] ⟨rfl, rfl, rfl, rfl, rfl, rfl, trivial⟩, (hp.take [1, 2, 3] 4 (by decide) (by simp)), h, (by omega)⟩
  ·
    rw [if_neg hc_17] at h
    refine sx_else (decide (x_13 < (t_2.length : Int))) (by rfl) (decide_eq_false hc_17) ?_
    refine wp_exit ?_
    refine ex_then_e (ex_then_e (ex_blk_here ?_))
    refine ex_then_n ?_
    refine wp_seq ?_
    refine sx_region ?_
    refine sx_rd 23 (.agg #[.slice none 0 0, .slice none 0 0, .slice none 0 0, .int .i64 0, .int .i64 0]) (by rfl) (by kernel_rfl) ?_
    refine sx_store (t := 29) (p := (.tmp 4)) (x := (.tmp 23)) (by rfl) (by rfl) 1 (by rfl) 0 [.slice none 0 0, .slice none 0 0, .slice none 0 0, .int .i64 0, .int .i64 0] (by rfl) (by rfl) (by kernel_rfl) (by simp [Value.oneCell']) (by show 5 ≤ 5; omega) #[.slice none 0 0, .slice none 0 0, .slice none 0 0, .int .i64 0, .int .i64 0] (by rfl) hp ?_
    intro W_50 hp; simp only [List.set_cons_succ, List.set_cons_zero] at hp
    refine sx_rd 5 (.bool false) (by rfl) (by kernel_rfl) ?_
    refine sx_nil ?_
    refine ex_then_n ?_
    refine wp_ret ?_
    refine sx_end (.tuple #[.agg #[.slice none 0 0, .slice none 0 0, .slice none 0 0, .int .i64 0, .int .i64 0], .bool false]) (rescT (p := 4) (u := 5) (by rfl) (by rfl) (by kernel_rfl) (by kernel_rfl) (hp.at_ 1 _ (by rfl))) ?_
    simp only [Option.some.injEq, Prod.mk.injEq] at h; obtain ⟨rfl, rfl, rfl, rfl, rfl, rfl⟩ := h
    exact ⟨_, _, _, rfl, Kd.R_nil _ _ _ _ _, Kd.R_nil _ _ _ _ _, Kd.R_nil _ _ _ _ _, hc2 _ (hp.tail.tail.tail)⟩
end
end Go.Proofs.YtkjaahmlnbgnjaaGreat.Hd
