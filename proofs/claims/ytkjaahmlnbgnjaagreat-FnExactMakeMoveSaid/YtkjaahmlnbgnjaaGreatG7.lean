-- Printed by hprint.py and laid together by pack.py (this session's programs over the kit's print program). Lean checks it.
import Derived.Test.YtkjaahmlnbgnjaaGreatMSx5
import Derived.Test.YtkjaahmlnbgnjaaGreatMSxL
import Derived.Test.YtkjaahmlnbgnjaaGreatG0
import Derived.Test.YtkjaahmlnbgnjaaGreatG5
import Derived.Test.YtkjaahmlnbgnjaaGreatMBehind
import Derived.Test.YtkjaahmlnbgnjaaGreatMGameMoves
import Derived.Test.YtkjaahmlnbgnjaaGreatG3
import Derived.Test.YtkjaahmlnbgnjaaGreatG6
import Derived.Test.YtkjaahmlnbgnjaaGreatG4
import Derived.Test.YtkjaahmlnbgnjaaGreatG1
namespace Go.Proofs.YtkjaahmlnbgnjaaGreat.Hd
section
open Go.RowKit Go.Proofs.YtkjaahmlnbgnjaaGreatW.PrintWords Go.Proofs.YtkjaahmlnbgnjaaGreatW.PrintLast Go.Proofs.YtkjaahmlnbgnjaaGreatW.PrintMore
attribute [local go_sem] max2_int min2_int max_two min_two max_three min_three max_four min_four   -- for this text's walks alone
set_option linter.unusedVariables false
set_option linter.unusedSimpArgs false

def impl_MakeMove.f (k : Nat) (l0_0 : List (S_Tile)) (l0_1 : List (S_Tile)) (l0_2 : List Int) (a0_3 : Int) (a0_4 : Int) (a1 : ByteArray) : Option ((List (S_Tile)) × (List (S_Tile)) × List Int × Int × Int × Bool) := (impl_IsGame.f k l0_0 l0_1 l0_2 a0_3 a0_4).bind fun t394 => (if t394 = true then ((impl_Game_moves.f l0_0 l0_1 l0_2 a0_3 a0_4).bind fun t395 => ((slices_Contains_string_string.f k t395 a1).bind fun t398 => (if t398 = true then ((impl_Game_behind.f l0_0 l0_1 l0_2 a0_3 a0_4 a1).bind fun bt399 => (some (bt399.1, bt399.2.1, bt399.2.2.1, bt399.2.2.2.1, bt399.2.2.2.2, true))) else (some (([] : List (S_Tile)), ([] : List (S_Tile)), ([] : List Int), 0, 0, false))))) else (some (([] : List (S_Tile)), ([] : List (S_Tile)), ([] : List Int), 0, 0, false)))
set_option maxRecDepth 100000 in
set_option maxHeartbeats 40000000 in
theorem impl_MakeMove.calls (k : Nat) (A0_0 : Option Addr) (c0_0 : Nat) (l0_0 : List (S_Tile)) (A0_1 : Option Addr) (c0_1 : Nat) (l0_1 : List (S_Tile)) (A0_2 : Option Addr) (c0_2 : Nat) (l0_2 : List Int) (a0_3 : Int) (a0_4 : Int) (a1 : ByteArray) (r1 : List (S_Tile)) (r2 : List (S_Tile)) (r3 : List Int) (r4 : Int) (r5 : Int) (r6 : Bool) (w : World) (hr0_0 : Kd.C k59 w A0_0 l0_0.length l0_0) (hc0_0 : l0_0.length ≤ c0_0) (hr0_1 : Kd.C k59 w A0_1 l0_1.length l0_1) (hc0_1 : l0_1.length ≤ c0_1) (hr0_2 : Kd.C (Kd.int .i64) w A0_2 l0_2.length l0_2) (hc0_2 : l0_2.length ≤ c0_2) (h : impl_MakeMove.f k l0_0 l0_1 l0_2 a0_3 a0_4 a1 = some (r1, r2, r3, r4, r5, r6)) :
    Calls Tryz.prog 9 #[.agg #[.slice A0_0 l0_0.length c0_0, .slice A0_1 l0_1.length c0_1, .slice A0_2 l0_2.length c0_2, .int .i64 a0_3, .int .i64 a0_4], .string a1] w fun e w' => ∃ v0_ v1_ v2_ : Value, e = .returned (.tuple #[.agg #[v0_, v1_, v2_, .int .i64 r4, .int .i64 r5], .bool r6]) ∧ Kd.R k59 59 w' w.heap.size (fun k_ => some k_ ≠ (v1_ : Value).ownBlock) v0_ r1 ∧ Kd.R k59 59 w' w.heap.size (fun k_ => some k_ ≠ (v0_ : Value).ownBlock) v1_ r2 ∧ Kd.R (Kd.int .i64) 3 w' w.heap.size (fun _ => True) v2_ r3 ∧ Below w.heap.size w w' := by
  obtain ⟨cs, hcs⟩ : ∃ cs, cs = [old w w.heap.size] := ⟨_, rfl⟩
  have hp : Hp w cs w := by rw [hcs]; exact Hp.old_start w
  have hc2 : ∀ W, Hp w cs W → Below w.heap.size w W := fun W h => by rw [hcs] at h; exact h.since 0 _ rfl
  have hC0_0 : ∀ W, Hp w cs W → Kd.C k59 W A0_0 l0_0.length l0_0 := fun W h => Kd.C_below hr0_0 (hc2 W h)
  have hC0_1 : ∀ W, Hp w cs W → Kd.C k59 W A0_1 l0_1.length l0_1 := fun W h => Kd.C_below hr0_1 (hc2 W h)
  have hC0_2 : ∀ W, Hp w cs W → Kd.C (Kd.int .i64) W A0_2 l0_2.length l0_2 := fun W h => Kd.C_below hr0_2 (hc2 W h)
  clear hcs
  unfold impl_MakeMove.f at h
  obtain ⟨t_2, hv_1, h⟩ := Option.bind_eq_some_iff.mp h
  try dsimp only at h
  refine sx_enter (N := 20) (l := [.agg #[.slice A0_0 l0_0.length c0_0, .slice A0_1 l0_1.length c0_1, .slice A0_2 l0_2.length c0_2, .int .i64 a0_3, .int .i64 a0_4], .string a1]) Tryz.func9 rfl rfl rfl ?_
  refine wp_seq ?_
  refine sx_region ?_
  refine sx_box 2 hp #[.slice A0_0 l0_0.length c0_0, .slice A0_1 l0_1.length c0_1, .slice A0_2 l0_2.length c0_2, .int .i64 a0_3, .int .i64 a0_4] 29 (by rfl) (fun W => by kernel_rfl) ?_
  intro g_3 W_4 hp
  refine sx_box 4 hp #[.slice none 0 0, .slice none 0 0, .slice none 0 0, .int .i64 0, .int .i64 0] 29 (by rfl) (fun W => by kernel_rfl) ?_
  intro g_5 W_6 hp
  refine sx_rd 5 (.bool false) (by rfl) (by kernel_rfl) ?_
  refine sx_nil ?_
  refine ex_then_n ?_
  refine wp_seq ?_
  refine wp_seq ?_
  by_cases hc_7 : t_2 = true
  ·
    rw [if_pos hc_7] at h
    obtain ⟨t_9, hv_8, h⟩ := Option.bind_eq_some_iff.mp h
    try dsimp only at h
    obtain ⟨t_11, hv_10, h⟩ := Option.bind_eq_some_iff.mp h
    try dsimp only at h
    refine sx_region ?_
    refine sx_rd 6 (.agg #[.slice A0_0 l0_0.length c0_0, .slice A0_1 l0_1.length c0_1, .slice A0_2 l0_2.length c0_2, .int .i64 a0_3, .int .i64 a0_4]) (by rfl) (ldn (t := 29) (p := (.tmp 2)) (by rfl) (by rfl) (by kernel_rfl) (by kernel_rfl) (by kernel_rfl) (hp.at_ 1 _ (by rfl))) ?_
    refine sx_call 7 (by rfl) (by kernel_rfl) ((impl_IsGame.calls _ _ A0_0 c0_0 l0_0 _ A0_1 c0_1 l0_1 A0_2 c0_2 l0_2 a0_3 a0_4 _ _ (Kd.V_mk hc0_0 (Kd.C_F k59_heap (hC0_0 _ hp.tail.tail))) (Kd.V_mk hc0_1 (Kd.C_F k59_heap (hC0_1 _ hp.tail.tail))) (hC0_2 _ hp.tail.tail) hc0_2 hv_1).mono ?_)
    rintro _ W_12 ⟨rfl, hb⟩
    refine ⟨_, rfl, ?_⟩
    replace hp := hp.below hb
    clear hb
    refine sx_rd 8 (.bool false) (by rfl) (bv (show (!t_2) = false from by rw [hc_7]; rfl) (by kernel_rfl)) ?_
    refine sx_rd 9 (.bool false) (by rfl) (by kernel_rfl) ?_
    refine sx_want (by rfl) ?_
    refine sx_rd 10 (.agg #[.slice A0_0 l0_0.length c0_0, .slice A0_1 l0_1.length c0_1, .slice A0_2 l0_2.length c0_2, .int .i64 a0_3, .int .i64 a0_4]) (by rfl) (ldn (t := 29) (p := (.tmp 2)) (by rfl) (by rfl) (by kernel_rfl) (by kernel_rfl) (by kernel_rfl) (hp.at_ 1 _ (by rfl))) ?_
    refine sx_want (by rfl) ?_
    refine sx_call 11 (by rfl) (by kernel_rfl) ((impl_Game_moves.calls A0_0 c0_0 l0_0 A0_1 c0_1 l0_1 A0_2 c0_2 l0_2 a0_3 a0_4 _ _ (hC0_0 _ hp.tail.tail) hc0_0 (hC0_1 _ hp.tail.tail) hc0_1 (hC0_2 _ hp.tail.tail) hc0_2 hv_8).mono ?_)
    rintro _ W_18 ⟨v_14, rfl, hR_13, hb⟩
    refine ⟨_, rfl, ?_⟩
    obtain ⟨A_15, c_16, rfl, hcc_c_16, _⟩ := Kd.R_reads hR_13
    obtain ⟨F_17, hp⟩ : ∃ F, Hp w (row Kd.string 9 w.heap.size (.slice A_15 t_9.length c_16) t_9 F :: blk g_5 #[.slice none 0 0, .slice none 0 0, .slice none 0 0, .int .i64 0, .int .i64 0] 29 :: blk g_3 #[.slice A0_0 l0_0.length c0_0, .slice A0_1 l0_1.length c0_1, .slice A0_2 l0_2.length c0_2, .int .i64 a0_3, .int .i64 a0_4] 29 :: cs) _ := ⟨_, Hp.made hp hb hR_13⟩
    refine sx_want (by rfl) ?_
    refine sx_rd 12 (.string a1) (by rfl) (by kernel_rfl) ?_
    refine sx_want (by rfl) ?_
    refine sx_call 13 (by rfl) (by kernel_rfl) ((slices_Contains_string_string.calls _ A_15 c_16 t_9 a1 _ _ (row_C (hp.at_ 0 _ (by rfl))) (row_len (hp.at_ 0 _ (by rfl))).2 hv_10).mono ?_)
    rintro _ W_19 ⟨rfl, hb⟩
    refine ⟨_, rfl, ?_⟩
    replace hp := hp.below hb.below
    clear hb
    refine sx_want (by rfl) ?_
    refine sx_rd 14 (.bool (!t_11)) (by rfl) (by kernel_rfl) ?_
    refine sx_rd 15 (.bool (!t_11)) (by rfl) (by kernel_rfl) ?_
    refine sx_nil ?_
    refine ex_then_n ?_
    by_cases hc_20 : t_11 = true
    ·
      rw [if_pos hc_20] at h
      obtain ⟨⟨t_22, t_23, t_24, t_25, t_26⟩, hv_21, h⟩ := Option.bind_eq_some_iff.mp h
      try dsimp only at h
      refine sx_else (!t_11) (by rfl) (show (!t_11) = false from by rw [hc_20]; rfl) ?_
      refine wp_skip ?_
      refine ex_then_n ?_
      refine wp_seq ?_
      refine sx_region ?_
      refine sx_rd 17 (.agg #[.slice A0_0 l0_0.length c0_0, .slice A0_1 l0_1.length c0_1, .slice A0_2 l0_2.length c0_2, .int .i64 a0_3, .int .i64 a0_4]) (by rfl) (ldn (t := 29) (p := (.tmp 2)) (by rfl) (by rfl) (by kernel_rfl) (by kernel_rfl) (by kernel_rfl) (hp.at_ 2 _ (by rfl))) ?_
      refine sx_rd 18 (.string a1) (by rfl) (by kernel_rfl) ?_
      refine sx_call 19 (by rfl) (by kernel_rfl) ((impl_Game_behind.calls A0_0 c0_0 l0_0 A0_1 c0_1 l0_1 A0_2 c0_2 l0_2 a0_3 a0_4 a1 _ _ _ _ _ _ (hC0_0 _ hp.tail.tail.tail) hc0_0 (hC0_1 _ hp.tail.tail.tail) hc0_1 (hC0_2 _ hp.tail.tail.tail) hc0_2 hv_21).mono ?_)
      rintro _ W_42 ⟨v_30, v_31, v_32, rfl, hR_27, hR_28, hR_29, hb⟩
      refine ⟨_, rfl, ?_⟩
      obtain ⟨A_33, c_34, rfl, hcc_c_34, _⟩ := Kd.R_reads hR_27
      obtain ⟨A_36, c_37, rfl, hcc_c_37, _⟩ := Kd.R_reads hR_28
      obtain ⟨A_39, c_40, rfl, hcc_c_40, _⟩ := Kd.R_reads hR_29
      obtain ⟨F_35, F_38, F_41, hp⟩ : ∃ F_35 F_38 F_41, Hp w (row k59 59 w.heap.size (.slice A_33 t_22.length c_34) t_22 F_35 :: row k59 59 w.heap.size (.slice A_36 t_23.length c_37) t_23 F_38 :: row (Kd.int .i64) 3 w.heap.size (.slice A_39 t_24.length c_40) t_24 F_41 :: row Kd.string 9 w.heap.size (.slice A_15 t_9.length c_16) t_9 F_17 :: blk g_5 #[.slice none 0 0, .slice none 0 0, .slice none 0 0, .int .i64 0, .int .i64 0] 29 :: blk g_3 #[.slice A0_0 l0_0.length c0_0, .slice A0_1 l0_1.length c0_1, .slice A0_2 l0_2.length c0_2, .int .i64 a0_3, .int .i64 a0_4] 29 :: cs) _ := ⟨_, _, _, Hp.made3 hp hb rfl rfl rfl hR_27 hR_28 hR_29 (ok_apart hR_27 (fun k hk => hk)) (typed_apart hR_27 hR_29 (by decide)) (typed_apart hR_28 hR_29 (by decide))⟩
      refine sx_store (t := 29) (p := (.tmp 4)) (x := (.tmp 19)) (by rfl) (by rfl) 4 (by rfl) 0 [.slice A_33 t_22.length c_34, .slice A_36 t_23.length c_37, .slice A_39 t_24.length c_40, .int .i64 t_25, .int .i64 t_26] (by rfl) (by rfl) (by kernel_rfl) (by simp [Value.oneCell']) (by show 5 ≤ 5; omega) #[.slice A_33 t_22.length c_34, .slice A_36 t_23.length c_37, .slice A_39 t_24.length c_40, .int .i64 t_25, .int .i64 t_26] (by rfl) hp ?_
      intro W_43 hp; simp only [List.set_cons_succ, List.set_cons_zero] at hp
      refine sx_rd 5 (.bool true) (by rfl) (by kernel_rfl) ?_
      refine sx_nil ?_
      refine ex_then_n ?_
      refine wp_ret ?_
      refine sx_end (.tuple #[.agg #[.slice A_33 t_22.length c_34, .slice A_36 t_23.length c_37, .slice A_39 t_24.length c_40, .int .i64 t_25, .int .i64 t_26], .bool true]) (rescT (p := 4) (u := 5) (by rfl) (by rfl) (by kernel_rfl) (by kernel_rfl) (hp.at_ 4 _ (by rfl))) ?_
      simp only [Option.some.injEq, Prod.mk.injEq] at h; obtain ⟨rfl, rfl, rfl, rfl, rfl, rfl⟩ := h
      exact ⟨_, _, _, rfl, Kd.R_mono (row_R (hp.at_ 0 _ (by rfl))) (fun k_ hk_ => Hp.apart_rows hp 0 1 (by decide) (by rfl) (by rfl) k_ hk_), Kd.R_mono (row_R (hp.at_ 1 _ (by rfl))) (fun k_ hk_ => Hp.apart_rows hp 1 0 (by decide) (by rfl) (by rfl) k_ hk_), Kd.R_mono (row_R (hp.at_ 2 _ (by rfl))) (fun _ _ => trivial), hc2 _ (hp.tail.tail.tail.tail.tail.tail)⟩
    ·
      rw [if_neg hc_20] at h
      refine sx_then (!t_11) (by rfl) (show (!t_11) = true from by rw [(Bool.eq_false_iff.mpr hc_20)]; rfl) ?_
      refine wp_seq ?_
      refine sx_region ?_
      refine sx_rd 16 (.agg #[.slice none 0 0, .slice none 0 0, .slice none 0 0, .int .i64 0, .int .i64 0]) (by rfl) (by kernel_rfl) ?_
      refine sx_store (t := 29) (p := (.tmp 4)) (x := (.tmp 16)) (by rfl) (by rfl) 1 (by rfl) 0 [.slice none 0 0, .slice none 0 0, .slice none 0 0, .int .i64 0, .int .i64 0] (by rfl) (by rfl) (by kernel_rfl) (by simp [Value.oneCell']) (by show 5 ≤ 5; omega) #[.slice none 0 0, .slice none 0 0, .slice none 0 0, .int .i64 0, .int .i64 0] (by rfl) hp ?_
      intro W_44 hp; simp only [List.set_cons_succ, List.set_cons_zero] at hp
      refine sx_rd 5 (.bool false) (by rfl) (by kernel_rfl) ?_
      refine sx_nil ?_
      refine ex_then_n ?_
      refine wp_ret ?_
      refine ex_then_r ?_
      refine sx_end (.tuple #[.agg #[.slice none 0 0, .slice none 0 0, .slice none 0 0, .int .i64 0, .int .i64 0], .bool false]) (rescT (p := 4) (u := 5) (by rfl) (by rfl) (by kernel_rfl) (by kernel_rfl) (hp.at_ 1 _ (by rfl))) ?_
      simp only [Option.some.injEq, Prod.mk.injEq] at h; obtain ⟨rfl, rfl, rfl, rfl, rfl, rfl⟩ := h
      exact ⟨_, _, _, rfl, Kd.R_nil _ _ _ _ _, Kd.R_nil _ _ _ _ _, Kd.R_nil _ _ _ _ _, hc2 _ (hp.tail.tail.tail)⟩
  ·
    rw [if_neg hc_7] at h
    refine sx_region ?_
    refine sx_rd 6 (.agg #[.slice A0_0 l0_0.length c0_0, .slice A0_1 l0_1.length c0_1, .slice A0_2 l0_2.length c0_2, .int .i64 a0_3, .int .i64 a0_4]) (by rfl) (ldn (t := 29) (p := (.tmp 2)) (by rfl) (by rfl) (by kernel_rfl) (by kernel_rfl) (by kernel_rfl) (hp.at_ 1 _ (by rfl))) ?_
    refine sx_call 7 (by rfl) (by kernel_rfl) ((impl_IsGame.calls _ _ A0_0 c0_0 l0_0 _ A0_1 c0_1 l0_1 A0_2 c0_2 l0_2 a0_3 a0_4 _ _ (Kd.V_mk hc0_0 (Kd.C_F k59_heap (hC0_0 _ hp.tail.tail))) (Kd.V_mk hc0_1 (Kd.C_F k59_heap (hC0_1 _ hp.tail.tail))) (hC0_2 _ hp.tail.tail) hc0_2 hv_1).mono ?_)
    rintro _ W_45 ⟨rfl, hb⟩
    refine ⟨_, rfl, ?_⟩
    replace hp := hp.below hb
    clear hb
    refine sx_rd 8 (.bool true) (by rfl) (bv (show (!t_2) = true from by rw [(Bool.eq_false_iff.mpr hc_7)]; rfl) (by kernel_rfl)) ?_
    refine sx_rd 9 (.bool true) (by rfl) (by kernel_rfl) ?_
    refine sx_skip 10 (by rfl) (by rfl) (by rfl) ?_
    refine sx_skip 11 (by rfl) (by rfl) (by rfl) ?_
    refine sx_skip 12 (by rfl) (by rfl) (by rfl) ?_
    refine sx_skip 13 (by rfl) (by rfl) (by rfl) ?_
    refine sx_skip 14 (by rfl) (by rfl) (by rfl) ?_
    refine sx_rd 15 (.bool true) (by rfl) (by kernel_rfl) ?_
    refine sx_nil ?_
    refine ex_then_n ?_
    refine sx_then true (by rfl) rfl ?_
    refine wp_seq ?_
    refine sx_region ?_
    refine sx_rd 16 (.agg #[.slice none 0 0, .slice none 0 0, .slice none 0 0, .int .i64 0, .int .i64 0]) (by rfl) (by kernel_rfl) ?_
    refine sx_store (t := 29) (p := (.tmp 4)) (x := (.tmp 16)) (by rfl) (by rfl) 0 (by rfl) 0 [.slice none 0 0, .slice none 0 0, .slice none 0 0, .int .i64 0, .int .i64 0] (by rfl) (by rfl) (by kernel_rfl) (by simp [Value.oneCell']) (by show 5 ≤ 5; omega) #[.slice none 0 0, .slice none 0 0, .slice none 0 0, .int .i64 0, .int .i64 0] (by rfl) hp ?_
    intro W_46 hp; simp only [List.set_cons_succ, List.set_cons_zero] at hp
    refine sx_rd 5 (.bool false) (by rfl) (by kernel_rfl) ?_
    refine sx_nil ?_
    refine ex_then_n ?_
    refine wp_ret ?_
    refine ex_then_r ?_
    refine sx_end (.tuple #[.agg #[.slice none 0 0, .slice none 0 0, .slice none 0 0, .int .i64 0, .int .i64 0], .bool false]) (rescT (p := 4) (u := 5) (by rfl) (by rfl) (by kernel_rfl) (by kernel_rfl) (hp.at_ 0 _ (by rfl))) ?_
    simp only [Option.some.injEq, Prod.mk.injEq] at h; obtain ⟨rfl, rfl, rfl, rfl, rfl, rfl⟩ := h
    exact ⟨_, _, _, rfl, Kd.R_nil _ _ _ _ _, Kd.R_nil _ _ _ _ _, Kd.R_nil _ _ _ _ _, hc2 _ (hp.tail.tail)⟩
end
section
open Go.RowKit Go.Proofs.YtkjaahmlnbgnjaaGreatW.PrintWords Go.Proofs.YtkjaahmlnbgnjaaGreatW.PrintLast Go.Proofs.YtkjaahmlnbgnjaaGreatW.PrintMore
attribute [local go_sem] max2_int min2_int max_two min_two max_three min_three max_four min_four   -- for this text's walks alone
set_option linter.unusedVariables false
set_option linter.unusedSimpArgs false

def laws_FnExactMakeMove.f (k : Nat) (l0_0 : List (S_LTile)) (l0_1 : List (S_LTile)) (l0_2 : List Int) (a0_3 : Int) (a0_4 : Int) (a1 : ByteArray) : Option (Bool) := if (a1.size : Int) > 1048576 then (some true) else ((laws_szGame.f l0_0 l0_1 l0_2 a0_3 a0_4 1048576).bind fun t440 => (if t440 < 0 then (some true) else ((laws_toGame.f k l0_0 l0_1 l0_2 a0_3 a0_4).bind fun bt441 => ((spec_MakeMove.f k bt441.1 bt441.2.1 bt441.2.2.1 bt441.2.2.2.1 bt441.2.2.2.2 a1).bind fun bt452 => ((laws_toGame.f k l0_0 l0_1 l0_2 a0_3 a0_4).bind fun bt465 => ((impl_MakeMove.f k bt465.1 bt465.2.1 bt465.2.2.1 bt465.2.2.2.1 bt465.2.2.2.2 a1).bind fun bt477 => ((laws_eqGame.f k bt477.1 bt477.2.1 bt477.2.2.1 bt477.2.2.2.1 bt477.2.2.2.2.1 bt452.1 bt452.2.1 bt452.2.2.1 bt452.2.2.2.1 bt452.2.2.2.2.1).bind fun t490 => (if t490 = true then (if (bt477.2.2.2.2.2 != bt452.2.2.2.2.2) = true then (none) else ((laws_toGame.f k l0_0 l0_1 l0_2 a0_3 a0_4).bind fun bt491 => ((laws_eqGame.f k bt465.1 bt465.2.1 bt465.2.2.1 bt465.2.2.2.1 bt465.2.2.2.2 bt491.1 bt491.2.1 bt491.2.2.1 bt491.2.2.2.1 bt491.2.2.2.2).bind fun t502 => (if t502 = true then ((laws_markGame.f k bt465.1 bt465.2.1 bt465.2.2.1 bt465.2.2.2.1 bt465.2.2.2.2 1).bind fun bt503 => (if bt503.1 < 0 then (none) else ((laws_eqGame.f k bt477.1 bt477.2.1 bt477.2.2.1 bt477.2.2.2.1 bt477.2.2.2.2.1 bt452.1 bt452.2.1 bt452.2.2.1 bt452.2.2.2.1 bt452.2.2.2.2.1).bind fun t507 => (if t507 = true then ((laws_markGame.f k bt477.1 bt477.2.1 bt477.2.2.1 bt477.2.2.2.1 bt477.2.2.2.2.1 1).bind fun bt508 => ((laws_heldGame.f k bt508.2.1 bt508.2.2.1 bt508.2.2.2 bt477.2.2.2.1 bt477.2.2.2.2.1 1).bind fun t512 => (if t512 < 0 then (none) else (if t512 = bt508.1 then ((laws_toGame.f k l0_0 l0_1 l0_2 a0_3 a0_4).bind fun bt513 => ((impl_MakeMove.f k bt513.1 bt513.2.1 bt513.2.2.1 bt513.2.2.2.1 bt513.2.2.2.2 a1).bind fun bt524 => ((laws_eqGame.f k bt524.1 bt524.2.1 bt524.2.2.1 bt524.2.2.2.1 bt524.2.2.2.2.1 bt452.1 bt452.2.1 bt452.2.2.1 bt452.2.2.2.1 bt452.2.2.2.2.1).bind fun t537 => (if t537 = true then (if (bt524.2.2.2.2.2 != bt452.2.2.2.2.2) = true then (none) else ((laws_heldGame.f k bt508.2.1 bt508.2.2.1 bt508.2.2.2 bt477.2.2.2.1 bt477.2.2.2.2.1 1).bind fun t538 => (if t538 < 0 then (none) else (if t538 = bt508.1 then (some true) else (none))))) else (none))))) else (none))))) else (none))))) else (none))))) else (none)))))))))
set_option maxRecDepth 100000 in
set_option maxHeartbeats 40000000 in
theorem laws_FnExactMakeMove.calls (k : Nat) (A0_0 : Option Addr) (c0_0 : Nat) (l0_0 : List (S_LTile)) (A0_1 : Option Addr) (c0_1 : Nat) (l0_1 : List (S_LTile)) (A0_2 : Option Addr) (c0_2 : Nat) (l0_2 : List Int) (a0_3 : Int) (a0_4 : Int) (a1 : ByteArray) (r : Bool) (w : World) (hr0_0 : Kd.C k78 w A0_0 l0_0.length l0_0) (hc0_0 : l0_0.length ≤ c0_0) (hr0_1 : Kd.C k78 w A0_1 l0_1.length l0_1) (hc0_1 : l0_1.length ≤ c0_1) (hr0_2 : Kd.C (Kd.int .i64) w A0_2 l0_2.length l0_2) (hc0_2 : l0_2.length ≤ c0_2) (h : laws_FnExactMakeMove.f k l0_0 l0_1 l0_2 a0_3 a0_4 a1 = some r) :
    Calls Tryz.prog 3 #[.agg #[.slice A0_0 l0_0.length c0_0, .slice A0_1 l0_1.length c0_1, .slice A0_2 l0_2.length c0_2, .int .i64 a0_3, .int .i64 a0_4], .string a1] w fun e w' => e = .returned (.bool r) ∧ Below w.heap.size w w' := by
  obtain ⟨cs, hcs⟩ : ∃ cs, cs = [old w w.heap.size] := ⟨_, rfl⟩
  have hp : Hp w cs w := by rw [hcs]; exact Hp.old_start w
  have hc2 : ∀ W, Hp w cs W → Below w.heap.size w W := fun W h => by rw [hcs] at h; exact h.since 0 _ rfl
  have hC0_0 : ∀ W, Hp w cs W → Kd.C k78 W A0_0 l0_0.length l0_0 := fun W h => Kd.C_below hr0_0 (hc2 W h)
  have hC0_1 : ∀ W, Hp w cs W → Kd.C k78 W A0_1 l0_1.length l0_1 := fun W h => Kd.C_below hr0_1 (hc2 W h)
  have hC0_2 : ∀ W, Hp w cs W → Kd.C (Kd.int .i64) W A0_2 l0_2.length l0_2 := fun W h => Kd.C_below hr0_2 (hc2 W h)
  clear hcs
  unfold laws_FnExactMakeMove.f at h
  refine sx_enter (N := 104) (l := [.agg #[.slice A0_0 l0_0.length c0_0, .slice A0_1 l0_1.length c0_1, .slice A0_2 l0_2.length c0_2, .int .i64 a0_3, .int .i64 a0_4], .string a1]) Tryz.func3 rfl rfl rfl ?_
  refine wp_seq ?_
  refine sx_region ?_
  refine sx_box 2 hp #[.slice A0_0 l0_0.length c0_0, .slice A0_1 l0_1.length c0_1, .slice A0_2 l0_2.length c0_2, .int .i64 a0_3, .int .i64 a0_4] 25 (by rfl) (fun W => by kernel_rfl) ?_
  intro g_1 W_2 hp
  refine sx_rd 4 (.bool false) (by rfl) (by kernel_rfl) ?_
  refine sx_nil ?_
  refine ex_then_n ?_
  refine wp_seq ?_
  refine wp_seq ?_
  refine sx_region ?_
  refine sx_rd 16 (.string a1) (by rfl) (by kernel_rfl) ?_
  refine sx_rd 17 (.int .i64 (a1.size : Int)) (by rfl) (by kernel_rfl) ?_
  refine sx_rd 18 (.bool (decide ((a1.size : Int) > 1048576))) (by rfl) (by kernel_rfl) ?_
  refine sx_nil ?_
  refine ex_then_n ?_
  by_cases hc_3 : (a1.size : Int) > 1048576
  ·
    rw [if_pos hc_3] at h
    refine sx_then (decide ((a1.size : Int) > 1048576)) (by rfl) (decide_eq_true hc_3) ?_
    refine wp_seq ?_
    refine sx_region ?_
    refine sx_rd 4 (.bool true) (by rfl) (by kernel_rfl) ?_
    refine sx_nil ?_
    refine ex_then_n ?_
    refine wp_ret ?_
    refine ex_then_r ?_
    refine sx_end (.bool true) (res1 4 (by rfl)) ?_
    obtain rfl := Option.some.inj h
    exact ⟨rfl, hc2 _ (hp.tail)⟩
  ·
    rw [if_neg hc_3] at h
    obtain ⟨t_5, hv_4, h⟩ := Option.bind_eq_some_iff.mp h
    try dsimp only at h
    refine sx_else (decide ((a1.size : Int) > 1048576)) (by rfl) (decide_eq_false hc_3) ?_
    refine wp_skip ?_
    refine ex_then_n ?_
    refine wp_seq ?_
    refine sx_region ?_
    refine sx_rd 5 (.int .i64 1048576) (by rfl) (by kernel_rfl) ?_
    refine sx_nil ?_
    refine ex_then_n ?_
    refine wp_seq ?_
    refine sx_region ?_
    refine sx_rd 19 (.agg #[.slice A0_0 l0_0.length c0_0, .slice A0_1 l0_1.length c0_1, .slice A0_2 l0_2.length c0_2, .int .i64 a0_3, .int .i64 a0_4]) (by rfl) (ldn (t := 25) (p := (.tmp 2)) (by rfl) (by rfl) (by kernel_rfl) (by kernel_rfl) (by kernel_rfl) (hp.at_ 0 _ (by rfl))) ?_
    refine sx_rd 20 (.int .i64 1048576) (by rfl) (by kernel_rfl) ?_
    refine sx_call 21 (by rfl) (by kernel_rfl) ((laws_szGame.calls A0_0 c0_0 l0_0 A0_1 c0_1 l0_1 A0_2 c0_2 l0_2 a0_3 a0_4 1048576 _ _ (hC0_0 _ hp.tail) hc0_0 (hC0_1 _ hp.tail) hc0_1 (hC0_2 _ hp.tail) hc0_2 hv_4).mono ?_)
    rintro _ W_6 ⟨rfl, hb⟩
    refine ⟨_, rfl, ?_⟩
    replace hp := hp.below hb
    clear hb
    refine sx_rd 5 (.int .i64 t_5) (by rfl) (by kernel_rfl) ?_
    refine sx_nil ?_
    refine ex_then_n ?_
    refine wp_seq ?_
    refine wp_seq ?_
    refine sx_region ?_
    refine sx_rd 22 (.int .i64 t_5) (by rfl) (by kernel_rfl) ?_
    refine sx_rd 23 (.bool (decide (t_5 < 0))) (by rfl) (by kernel_rfl) ?_
    refine sx_nil ?_
    refine ex_then_n ?_
    by_cases hc_7 : t_5 < 0
    ·
      rw [if_pos hc_7] at h
      refine sx_then (decide (t_5 < 0)) (by rfl) (decide_eq_true hc_7) ?_
      refine wp_seq ?_
      refine sx_region ?_
      refine sx_rd 4 (.bool true) (by rfl) (by kernel_rfl) ?_
      refine sx_nil ?_
      refine ex_then_n ?_
      refine wp_ret ?_
      refine ex_then_r ?_
      refine sx_end (.bool true) (res1 4 (by rfl)) ?_
      obtain rfl := Option.some.inj h
      exact ⟨rfl, hc2 _ (hp.tail)⟩
    ·
      rw [if_neg hc_7] at h
      obtain ⟨⟨t_9, t_10, t_11, t_12, t_13⟩, hv_8, h⟩ := Option.bind_eq_some_iff.mp h
      try dsimp only at h
      obtain ⟨⟨t_15, t_16, t_17, t_18, t_19, t_20⟩, hv_14, h⟩ := Option.bind_eq_some_iff.mp h
      try dsimp only at h
      obtain ⟨⟨t_22, t_23, t_24, t_25, t_26⟩, hv_21, h⟩ := Option.bind_eq_some_iff.mp h
      try dsimp only at h
      obtain ⟨⟨t_28, t_29, t_30, t_31, t_32, t_33⟩, hv_27, h⟩ := Option.bind_eq_some_iff.mp h
      try dsimp only at h
      obtain ⟨t_35, hv_34, h⟩ := Option.bind_eq_some_iff.mp h
      try dsimp only at h
      by_cases hc_36 : t_35 = true
      case neg => rw [if_neg hc_36] at h; cases h
      rw [if_pos hc_36] at h
      by_cases hc_37 : (t_33 != t_20) = true
      case pos => rw [if_pos hc_37] at h; cases h
      rw [if_neg hc_37] at h
      obtain ⟨⟨t_39, t_40, t_41, t_42, t_43⟩, hv_38, h⟩ := Option.bind_eq_some_iff.mp h
      try dsimp only at h
      obtain ⟨t_45, hv_44, h⟩ := Option.bind_eq_some_iff.mp h
      try dsimp only at h
      by_cases hc_46 : t_45 = true
      case neg => rw [if_neg hc_46] at h; cases h
      rw [if_pos hc_46] at h
      obtain ⟨⟨t_48, t_49, t_50, t_51⟩, hv_47, h⟩ := Option.bind_eq_some_iff.mp h
      try dsimp only at h
      by_cases hc_52 : t_48 < 0
      case pos => rw [if_pos hc_52] at h; cases h
      rw [if_neg hc_52] at h
      obtain ⟨t_54, hv_53, h⟩ := Option.bind_eq_some_iff.mp h
      try dsimp only at h
      by_cases hc_55 : t_54 = true
      case neg => rw [if_neg hc_55] at h; cases h
      rw [if_pos hc_55] at h
      obtain ⟨⟨t_57, t_58, t_59, t_60⟩, hv_56, h⟩ := Option.bind_eq_some_iff.mp h
      try dsimp only at h
      obtain ⟨t_62, hv_61, h⟩ := Option.bind_eq_some_iff.mp h
      try dsimp only at h
      by_cases hc_63 : t_62 < 0
      case pos => rw [if_pos hc_63] at h; cases h
      rw [if_neg hc_63] at h
      by_cases hc_64 : t_62 = t_57
      case neg => rw [if_neg hc_64] at h; cases h
      rw [if_pos hc_64] at h
      obtain ⟨⟨t_66, t_67, t_68, t_69, t_70⟩, hv_65, h⟩ := Option.bind_eq_some_iff.mp h
      try dsimp only at h
      obtain ⟨⟨t_72, t_73, t_74, t_75, t_76, t_77⟩, hv_71, h⟩ := Option.bind_eq_some_iff.mp h
      try dsimp only at h
      obtain ⟨t_79, hv_78, h⟩ := Option.bind_eq_some_iff.mp h
      try dsimp only at h
      by_cases hc_80 : t_79 = true
      case neg => rw [if_neg hc_80] at h; cases h
      rw [if_pos hc_80] at h
      by_cases hc_81 : (t_77 != t_20) = true
      case pos => rw [if_pos hc_81] at h; cases h
      rw [if_neg hc_81] at h
      obtain ⟨t_83, hv_82, h⟩ := Option.bind_eq_some_iff.mp h
      try dsimp only at h
      by_cases hc_84 : t_83 < 0
      case pos => rw [if_pos hc_84] at h; cases h
      rw [if_neg hc_84] at h
      by_cases hc_85 : t_83 = t_57
      case neg => rw [if_neg hc_85] at h; cases h
      rw [if_pos hc_85] at h
      refine sx_else (decide (t_5 < 0)) (by rfl) (decide_eq_false hc_7) ?_
      refine wp_skip ?_
      refine ex_then_n ?_
      refine wp_seq ?_
      refine sx_region ?_
      refine sx_rd 25 (.agg #[.slice A0_0 l0_0.length c0_0, .slice A0_1 l0_1.length c0_1, .slice A0_2 l0_2.length c0_2, .int .i64 a0_3, .int .i64 a0_4]) (by rfl) (ldn (t := 25) (p := (.tmp 2)) (by rfl) (by rfl) (by kernel_rfl) (by kernel_rfl) (by kernel_rfl) (hp.at_ 0 _ (by rfl))) ?_
      refine sx_call 26 (by rfl) (by kernel_rfl) ((laws_toGame.calls _ A0_0 c0_0 l0_0 A0_1 c0_1 l0_1 A0_2 c0_2 l0_2 a0_3 a0_4 _ _ _ _ _ _ (hC0_0 _ hp.tail) hc0_0 (hC0_1 _ hp.tail) hc0_1 (hC0_2 _ hp.tail) hc0_2 hv_8).mono ?_)
      rintro _ W_101 ⟨v_89, v_90, v_91, rfl, hR_86, hR_87, hR_88, hb⟩
      refine ⟨_, rfl, ?_⟩
      obtain ⟨A_92, c_93, rfl, hcc_c_93, _⟩ := Kd.R_reads hR_86
      obtain ⟨A_95, c_96, rfl, hcc_c_96, _⟩ := Kd.R_reads hR_87
      obtain ⟨A_98, c_99, rfl, hcc_c_99, _⟩ := Kd.R_reads hR_88
      obtain ⟨F_94, F_97, F_100, hp⟩ : ∃ F_94 F_97 F_100, Hp w (row k59 59 w.heap.size (.slice A_92 t_9.length c_93) t_9 F_94 :: row k59 59 w.heap.size (.slice A_95 t_10.length c_96) t_10 F_97 :: row (Kd.int .i64) 3 w.heap.size (.slice A_98 t_11.length c_99) t_11 F_100 :: blk g_1 #[.slice A0_0 l0_0.length c0_0, .slice A0_1 l0_1.length c0_1, .slice A0_2 l0_2.length c0_2, .int .i64 a0_3, .int .i64 a0_4] 25 :: cs) _ := ⟨_, _, _, Hp.made3 hp hb rfl rfl rfl hR_86 hR_87 hR_88 (ok_apart hR_86 (fun k hk => hk)) (typed_apart hR_86 hR_88 (by decide)) (typed_apart hR_87 hR_88 (by decide))⟩
      refine sx_rd 27 (.string a1) (by rfl) (by kernel_rfl) ?_
      refine sx_call 28 (by rfl) (by kernel_rfl) ((spec_MakeMove.calls _ A_92 c_93 t_9 A_95 c_96 t_10 A_98 c_99 t_11 t_12 t_13 a1 _ _ _ _ _ _ _ (row_C (hp.at_ 0 _ (by rfl))) (row_len (hp.at_ 0 _ (by rfl))).2 (row_C (hp.at_ 1 _ (by rfl))) (row_len (hp.at_ 1 _ (by rfl))).2 (row_C (hp.at_ 2 _ (by rfl))) (row_len (hp.at_ 2 _ (by rfl))).2 hv_14).mono ?_)
      rintro _ W_117 ⟨v_105, v_106, v_107, rfl, hR_102, hR_103, hR_104, hb⟩
      refine ⟨_, rfl, ?_⟩
      obtain ⟨A_108, c_109, rfl, hcc_c_109, _⟩ := Kd.R_reads hR_102
      obtain ⟨A_111, c_112, rfl, hcc_c_112, _⟩ := Kd.R_reads hR_103
      obtain ⟨A_114, c_115, rfl, hcc_c_115, _⟩ := Kd.R_reads hR_104
      obtain ⟨F_110, F_113, F_116, hp⟩ : ∃ F_110 F_113 F_116, Hp w (row k59 59 w.heap.size (.slice A_108 t_15.length c_109) t_15 F_110 :: row k59 59 w.heap.size (.slice A_111 t_16.length c_112) t_16 F_113 :: row (Kd.int .i64) 3 w.heap.size (.slice A_114 t_17.length c_115) t_17 F_116 :: row k59 59 w.heap.size (.slice A_92 t_9.length c_93) t_9 F_94 :: row k59 59 w.heap.size (.slice A_95 t_10.length c_96) t_10 F_97 :: row (Kd.int .i64) 3 w.heap.size (.slice A_98 t_11.length c_99) t_11 F_100 :: blk g_1 #[.slice A0_0 l0_0.length c0_0, .slice A0_1 l0_1.length c0_1, .slice A0_2 l0_2.length c0_2, .int .i64 a0_3, .int .i64 a0_4] 25 :: cs) _ := ⟨_, _, _, Hp.made3 hp hb rfl rfl rfl hR_102 hR_103 hR_104 (ok_apart hR_102 (fun k hk => hk)) (typed_apart hR_102 hR_104 (by decide)) (typed_apart hR_103 hR_104 (by decide))⟩
      refine sx_rd 24 (.tuple #[.agg #[.slice A_108 t_15.length c_109, .slice A_111 t_16.length c_112, .slice A_114 t_17.length c_115, .int .i64 t_18, .int .i64 t_19], .bool t_20]) (by rfl) (by kernel_rfl) ?_
      refine sx_rd 29 (.agg #[.slice A_108 t_15.length c_109, .slice A_111 t_16.length c_112, .slice A_114 t_17.length c_115, .int .i64 t_18, .int .i64 t_19]) (by rfl) (by kernel_rfl) ?_
      refine sx_rd 30 (.bool t_20) (by rfl) (by kernel_rfl) ?_
      refine sx_box 6 hp #[.slice none 0 0, .slice none 0 0, .slice none 0 0, .int .i64 0, .int .i64 0] 29 (by rfl) (fun W => by kernel_rfl) ?_
      intro g_118 W_119 hp
      refine sx_store (t := 29) (p := (.tmp 6)) (x := (.tmp 29)) (by rfl) (by rfl) 0 (by rfl) 0 [.slice A_108 t_15.length c_109, .slice A_111 t_16.length c_112, .slice A_114 t_17.length c_115, .int .i64 t_18, .int .i64 t_19] (by rfl) (by rfl) (by kernel_rfl) (by simp [Value.oneCell']) (by show 5 ≤ 5; omega) #[.slice A_108 t_15.length c_109, .slice A_111 t_16.length c_112, .slice A_114 t_17.length c_115, .int .i64 t_18, .int .i64 t_19] (by rfl) hp ?_
      intro W_120 hp; simp only [List.set_cons_succ, List.set_cons_zero] at hp
      refine sx_rd 7 (.bool t_20) (by rfl) (by kernel_rfl) ?_
      refine sx_nil ?_
      refine ex_then_n ?_
      refine wp_seq ?_
      refine sx_region ?_
      refine sx_rd 31 (.agg #[.slice A0_0 l0_0.length c0_0, .slice A0_1 l0_1.length c0_1, .slice A0_2 l0_2.length c0_2, .int .i64 a0_3, .int .i64 a0_4]) (by rfl) (ldn (t := 25) (p := (.tmp 2)) (by rfl) (by rfl) (by kernel_rfl) (by kernel_rfl) (by kernel_rfl) (hp.at_ 7 _ (by rfl))) ?_
      refine sx_call 32 (by rfl) (by kernel_rfl) ((laws_toGame.calls _ A0_0 c0_0 l0_0 A0_1 c0_1 l0_1 A0_2 c0_2 l0_2 a0_3 a0_4 _ _ _ _ _ _ (hC0_0 _ hp.tail.tail.tail.tail.tail.tail.tail.tail) hc0_0 (hC0_1 _ hp.tail.tail.tail.tail.tail.tail.tail.tail) hc0_1 (hC0_2 _ hp.tail.tail.tail.tail.tail.tail.tail.tail) hc0_2 hv_21).mono ?_)
      rintro _ W_136 ⟨v_124, v_125, v_126, rfl, hR_121, hR_122, hR_123, hb⟩
      refine ⟨_, rfl, ?_⟩
      obtain ⟨A_127, c_128, rfl, hcc_c_128, _⟩ := Kd.R_reads hR_121
      obtain ⟨A_130, c_131, rfl, hcc_c_131, _⟩ := Kd.R_reads hR_122
      obtain ⟨A_133, c_134, rfl, hcc_c_134, _⟩ := Kd.R_reads hR_123
      obtain ⟨F_129, F_132, F_135, hp⟩ : ∃ F_129 F_132 F_135, Hp w (row k59 59 w.heap.size (.slice A_127 t_22.length c_128) t_22 F_129 :: row k59 59 w.heap.size (.slice A_130 t_23.length c_131) t_23 F_132 :: row (Kd.int .i64) 3 w.heap.size (.slice A_133 t_24.length c_134) t_24 F_135 :: blk g_118 #[.slice A_108 t_15.length c_109, .slice A_111 t_16.length c_112, .slice A_114 t_17.length c_115, .int .i64 t_18, .int .i64 t_19] 29 :: row k59 59 w.heap.size (.slice A_108 t_15.length c_109) t_15 F_110 :: row k59 59 w.heap.size (.slice A_111 t_16.length c_112) t_16 F_113 :: row (Kd.int .i64) 3 w.heap.size (.slice A_114 t_17.length c_115) t_17 F_116 :: row k59 59 w.heap.size (.slice A_92 t_9.length c_93) t_9 F_94 :: row k59 59 w.heap.size (.slice A_95 t_10.length c_96) t_10 F_97 :: row (Kd.int .i64) 3 w.heap.size (.slice A_98 t_11.length c_99) t_11 F_100 :: blk g_1 #[.slice A0_0 l0_0.length c0_0, .slice A0_1 l0_1.length c0_1, .slice A0_2 l0_2.length c0_2, .int .i64 a0_3, .int .i64 a0_4] 25 :: cs) _ := ⟨_, _, _, Hp.made3 hp hb rfl rfl rfl hR_121 hR_122 hR_123 (ok_apart hR_121 (fun k hk => hk)) (typed_apart hR_121 hR_123 (by decide)) (typed_apart hR_122 hR_123 (by decide))⟩
      refine sx_box 8 hp #[.slice none 0 0, .slice none 0 0, .slice none 0 0, .int .i64 0, .int .i64 0] 29 (by rfl) (fun W => by kernel_rfl) ?_
      intro g_137 W_138 hp
      refine sx_store (t := 29) (p := (.tmp 8)) (x := (.tmp 32)) (by rfl) (by rfl) 0 (by rfl) 0 [.slice A_127 t_22.length c_128, .slice A_130 t_23.length c_131, .slice A_133 t_24.length c_134, .int .i64 t_25, .int .i64 t_26] (by rfl) (by rfl) (by kernel_rfl) (by simp [Value.oneCell']) (by show 5 ≤ 5; omega) #[.slice A_127 t_22.length c_128, .slice A_130 t_23.length c_131, .slice A_133 t_24.length c_134, .int .i64 t_25, .int .i64 t_26] (by rfl) hp ?_
      intro W_139 hp; simp only [List.set_cons_succ, List.set_cons_zero] at hp
      refine sx_nil ?_
      refine ex_then_n ?_
      refine wp_seq ?_
      refine sx_region ?_
      refine sx_rd 34 (.agg #[.slice A_127 t_22.length c_128, .slice A_130 t_23.length c_131, .slice A_133 t_24.length c_134, .int .i64 t_25, .int .i64 t_26]) (by rfl) (ldn (t := 29) (p := (.tmp 8)) (by rfl) (by rfl) (by kernel_rfl) (by kernel_rfl) (by kernel_rfl) (hp.at_ 0 _ (by rfl))) ?_
      refine sx_rd 35 (.string a1) (by rfl) (by kernel_rfl) ?_
      refine sx_call 36 (by rfl) (by kernel_rfl) ((impl_MakeMove.calls _ A_127 c_128 t_22 A_130 c_131 t_23 A_133 c_134 t_24 t_25 t_26 a1 _ _ _ _ _ _ _ (row_C (hp.at_ 1 _ (by rfl))) (row_len (hp.at_ 1 _ (by rfl))).2 (row_C (hp.at_ 2 _ (by rfl))) (row_len (hp.at_ 2 _ (by rfl))).2 (row_C (hp.at_ 3 _ (by rfl))) (row_len (hp.at_ 3 _ (by rfl))).2 hv_27).mono ?_)
      rintro _ W_155 ⟨v_143, v_144, v_145, rfl, hR_140, hR_141, hR_142, hb⟩
      refine ⟨_, rfl, ?_⟩
      obtain ⟨A_146, c_147, rfl, hcc_c_147, _⟩ := Kd.R_reads hR_140
      obtain ⟨A_149, c_150, rfl, hcc_c_150, _⟩ := Kd.R_reads hR_141
      obtain ⟨A_152, c_153, rfl, hcc_c_153, _⟩ := Kd.R_reads hR_142
      obtain ⟨F_148, F_151, F_154, hp⟩ : ∃ F_148 F_151 F_154, Hp w (row k59 59 w.heap.size (.slice A_146 t_28.length c_147) t_28 F_148 :: row k59 59 w.heap.size (.slice A_149 t_29.length c_150) t_29 F_151 :: row (Kd.int .i64) 3 w.heap.size (.slice A_152 t_30.length c_153) t_30 F_154 :: blk g_137 #[.slice A_127 t_22.length c_128, .slice A_130 t_23.length c_131, .slice A_133 t_24.length c_134, .int .i64 t_25, .int .i64 t_26] 29 :: row k59 59 w.heap.size (.slice A_127 t_22.length c_128) t_22 F_129 :: row k59 59 w.heap.size (.slice A_130 t_23.length c_131) t_23 F_132 :: row (Kd.int .i64) 3 w.heap.size (.slice A_133 t_24.length c_134) t_24 F_135 :: blk g_118 #[.slice A_108 t_15.length c_109, .slice A_111 t_16.length c_112, .slice A_114 t_17.length c_115, .int .i64 t_18, .int .i64 t_19] 29 :: row k59 59 w.heap.size (.slice A_108 t_15.length c_109) t_15 F_110 :: row k59 59 w.heap.size (.slice A_111 t_16.length c_112) t_16 F_113 :: row (Kd.int .i64) 3 w.heap.size (.slice A_114 t_17.length c_115) t_17 F_116 :: row k59 59 w.heap.size (.slice A_92 t_9.length c_93) t_9 F_94 :: row k59 59 w.heap.size (.slice A_95 t_10.length c_96) t_10 F_97 :: row (Kd.int .i64) 3 w.heap.size (.slice A_98 t_11.length c_99) t_11 F_100 :: blk g_1 #[.slice A0_0 l0_0.length c0_0, .slice A0_1 l0_1.length c0_1, .slice A0_2 l0_2.length c0_2, .int .i64 a0_3, .int .i64 a0_4] 25 :: cs) _ := ⟨_, _, _, Hp.made3 hp hb rfl rfl rfl hR_140 hR_141 hR_142 (ok_apart hR_140 (fun k hk => hk)) (typed_apart hR_140 hR_142 (by decide)) (typed_apart hR_141 hR_142 (by decide))⟩
      refine sx_rd 33 (.tuple #[.agg #[.slice A_146 t_28.length c_147, .slice A_149 t_29.length c_150, .slice A_152 t_30.length c_153, .int .i64 t_31, .int .i64 t_32], .bool t_33]) (by rfl) (by kernel_rfl) ?_
      refine sx_rd 37 (.agg #[.slice A_146 t_28.length c_147, .slice A_149 t_29.length c_150, .slice A_152 t_30.length c_153, .int .i64 t_31, .int .i64 t_32]) (by rfl) (by kernel_rfl) ?_
      refine sx_rd 38 (.bool t_33) (by rfl) (by kernel_rfl) ?_
      refine sx_box 9 hp #[.slice none 0 0, .slice none 0 0, .slice none 0 0, .int .i64 0, .int .i64 0] 29 (by rfl) (fun W => by kernel_rfl) ?_
      intro g_156 W_157 hp
      refine sx_store (t := 29) (p := (.tmp 9)) (x := (.tmp 37)) (by rfl) (by rfl) 0 (by rfl) 0 [.slice A_146 t_28.length c_147, .slice A_149 t_29.length c_150, .slice A_152 t_30.length c_153, .int .i64 t_31, .int .i64 t_32] (by rfl) (by rfl) (by kernel_rfl) (by simp [Value.oneCell']) (by show 5 ≤ 5; omega) #[.slice A_146 t_28.length c_147, .slice A_149 t_29.length c_150, .slice A_152 t_30.length c_153, .int .i64 t_31, .int .i64 t_32] (by rfl) hp ?_
      intro W_158 hp; simp only [List.set_cons_succ, List.set_cons_zero] at hp
      refine sx_rd 10 (.bool t_33) (by rfl) (by kernel_rfl) ?_
      refine sx_nil ?_
      refine ex_then_n ?_
      refine wp_seq ?_
      refine wp_seq ?_
      refine sx_region ?_
      refine sx_rd 39 (.agg #[.slice A_146 t_28.length c_147, .slice A_149 t_29.length c_150, .slice A_152 t_30.length c_153, .int .i64 t_31, .int .i64 t_32]) (by rfl) (ldn (t := 29) (p := (.tmp 9)) (by rfl) (by rfl) (by kernel_rfl) (by kernel_rfl) (by kernel_rfl) (hp.at_ 0 _ (by rfl))) ?_
      refine sx_rd 40 (.agg #[.slice A_108 t_15.length c_109, .slice A_111 t_16.length c_112, .slice A_114 t_17.length c_115, .int .i64 t_18, .int .i64 t_19]) (by rfl) (ldn (t := 29) (p := (.tmp 6)) (by rfl) (by rfl) (by kernel_rfl) (by kernel_rfl) (by kernel_rfl) (hp.at_ 8 _ (by rfl))) ?_
      refine sx_call 41 (by rfl) (by kernel_rfl) ((laws_eqGame.calls _ A_146 c_147 t_28 A_149 c_150 t_29 A_152 c_153 t_30 t_31 t_32 A_108 c_109 t_15 A_111 c_112 t_16 A_114 c_115 t_17 t_18 t_19 _ _ (row_C (hp.at_ 1 _ (by rfl))) (row_len (hp.at_ 1 _ (by rfl))).2 (row_C (hp.at_ 2 _ (by rfl))) (row_len (hp.at_ 2 _ (by rfl))).2 (row_C (hp.at_ 3 _ (by rfl))) (row_len (hp.at_ 3 _ (by rfl))).2 (row_C (hp.at_ 9 _ (by rfl))) (row_len (hp.at_ 9 _ (by rfl))).2 (row_C (hp.at_ 10 _ (by rfl))) (row_len (hp.at_ 10 _ (by rfl))).2 (row_C (hp.at_ 11 _ (by rfl))) (row_len (hp.at_ 11 _ (by rfl))).2 hv_34).mono ?_)
      rintro _ W_159 ⟨rfl, hb⟩
      refine ⟨_, rfl, ?_⟩
      replace hp := hp.below hb
      clear hb
      refine sx_rd 42 (.bool false) (by rfl) (bv (show (!t_35) = false from by rw [hc_36]; rfl) (by kernel_rfl)) ?_
      refine sx_rd 43 (.bool false) (by rfl) (by kernel_rfl) ?_
      refine sx_want (by rfl) ?_
      refine sx_rd 44 (.bool t_33) (by rfl) (by kernel_rfl) ?_
      refine sx_want (by rfl) ?_
      refine sx_rd 45 (.bool t_20) (by rfl) (by kernel_rfl) ?_
      refine sx_want (by rfl) ?_
      refine sx_rd 46 (.bool (t_33 != t_20)) (by rfl) (by kernel_rfl) ?_
      refine sx_rd 47 (.bool (t_33 != t_20)) (by rfl) (by kernel_rfl) ?_
      refine sx_nil ?_
      refine ex_then_n ?_
      refine sx_else (t_33 != t_20) (by rfl) (Bool.eq_false_iff.mpr hc_37) ?_
      refine wp_skip ?_
      refine ex_then_n ?_
      refine wp_seq ?_
      refine wp_seq ?_
      refine sx_drawT [] (.rd 0 (.rd 1 (.alt 2 (.alt 3 (.rd 4 (.fin)) .non) .non))) 5 (C := Hp w (blk g_156 #[.slice A_146 t_28.length c_147, .slice A_149 t_29.length c_150, .slice A_152 t_30.length c_153, .int .i64 t_31, .int .i64 t_32] 29 :: row k59 59 w.heap.size (.slice A_146 t_28.length c_147) t_28 F_148 :: row k59 59 w.heap.size (.slice A_149 t_29.length c_150) t_29 F_151 :: row (Kd.int .i64) 3 w.heap.size (.slice A_152 t_30.length c_153) t_30 F_154 :: blk g_137 #[.slice A_127 t_22.length c_128, .slice A_130 t_23.length c_131, .slice A_133 t_24.length c_134, .int .i64 t_25, .int .i64 t_26] 29 :: row k59 59 w.heap.size (.slice A_127 t_22.length c_128) t_22 F_129 :: row k59 59 w.heap.size (.slice A_130 t_23.length c_131) t_23 F_132 :: row (Kd.int .i64) 3 w.heap.size (.slice A_133 t_24.length c_134) t_24 F_135 :: blk g_118 #[.slice A_108 t_15.length c_109, .slice A_111 t_16.length c_112, .slice A_114 t_17.length c_115, .int .i64 t_18, .int .i64 t_19] 29 :: row k59 59 w.heap.size (.slice A_108 t_15.length c_109) t_15 F_110 :: row k59 59 w.heap.size (.slice A_111 t_16.length c_112) t_16 F_113 :: row (Kd.int .i64) 3 w.heap.size (.slice A_114 t_17.length c_115) t_17 F_116 :: row k59 59 w.heap.size (.slice A_92 t_9.length c_93) t_9 F_94 :: row k59 59 w.heap.size (.slice A_95 t_10.length c_96) t_10 F_97 :: row (Kd.int .i64) 3 w.heap.size (.slice A_98 t_11.length c_99) t_11 F_100 :: blk g_1 #[.slice A0_0 l0_0.length c0_0, .slice A0_1 l0_1.length c0_1, .slice A0_2 l0_2.length c0_2, .int .i64 a0_3, .int .i64 a0_4] 25 :: cs)) (by kernel_rfl) (by kernel_rfl) (fun d _ _ _ _ h => by cases d <;> exact h) (fun W h => h.drew) hp ?_
      refine preI_nil ?_
      intro W_160 hp
      refine treeI_rd rfl ?_
      refine sxq_val 48 (.agg #[.slice A_127 t_22.length c_128, .slice A_130 t_23.length c_131, .slice A_133 t_24.length c_134, .int .i64 t_25, .int .i64 t_26]) (by rfl) (fun W hp => (ldn (t := 29) (p := (.tmp 8)) (by rfl) (by rfl) (by kernel_rfl) (by kernel_rfl) (by kernel_rfl) (hp.at_ 4 _ (by rfl)))) ?_
      refine sxq_nil ?_
      refine treeI_rd rfl ?_
      refine sxq_val 49 (.agg #[.slice A0_0 l0_0.length c0_0, .slice A0_1 l0_1.length c0_1, .slice A0_2 l0_2.length c0_2, .int .i64 a0_3, .int .i64 a0_4]) (by rfl) (fun W hp => (ldn (t := 25) (p := (.tmp 2)) (by rfl) (by rfl) (by kernel_rfl) (by kernel_rfl) (by kernel_rfl) (hp.at_ 15 _ (by rfl)))) ?_
      refine sxq_nil ?_
      refine treeI_ev rfl ?_
      refine sx_call 50 (by rfl) (by kernel_rfl) ((laws_toGame.calls _ A0_0 c0_0 l0_0 A0_1 c0_1 l0_1 A0_2 c0_2 l0_2 a0_3 a0_4 _ _ _ _ _ _ (hC0_0 _ hp.tail.tail.tail.tail.tail.tail.tail.tail.tail.tail.tail.tail.tail.tail.tail.tail) hc0_0 (hC0_1 _ hp.tail.tail.tail.tail.tail.tail.tail.tail.tail.tail.tail.tail.tail.tail.tail.tail) hc0_1 (hC0_2 _ hp.tail.tail.tail.tail.tail.tail.tail.tail.tail.tail.tail.tail.tail.tail.tail.tail) hc0_2 hv_38).mono ?_)
      rintro _ W_176 ⟨v_164, v_165, v_166, rfl, hR_161, hR_162, hR_163, hb⟩
      refine ⟨_, rfl, ?_⟩
      obtain ⟨A_167, c_168, rfl, hcc_c_168, _⟩ := Kd.R_reads hR_161
      obtain ⟨A_170, c_171, rfl, hcc_c_171, _⟩ := Kd.R_reads hR_162
      obtain ⟨A_173, c_174, rfl, hcc_c_174, _⟩ := Kd.R_reads hR_163
      obtain ⟨F_169, F_172, F_175, hp⟩ : ∃ F_169 F_172 F_175, Hp w (row k59 59 w.heap.size (.slice A_167 t_39.length c_168) t_39 F_169 :: row k59 59 w.heap.size (.slice A_170 t_40.length c_171) t_40 F_172 :: row (Kd.int .i64) 3 w.heap.size (.slice A_173 t_41.length c_174) t_41 F_175 :: blk g_156 #[.slice A_146 t_28.length c_147, .slice A_149 t_29.length c_150, .slice A_152 t_30.length c_153, .int .i64 t_31, .int .i64 t_32] 29 :: row k59 59 w.heap.size (.slice A_146 t_28.length c_147) t_28 F_148 :: row k59 59 w.heap.size (.slice A_149 t_29.length c_150) t_29 F_151 :: row (Kd.int .i64) 3 w.heap.size (.slice A_152 t_30.length c_153) t_30 F_154 :: blk g_137 #[.slice A_127 t_22.length c_128, .slice A_130 t_23.length c_131, .slice A_133 t_24.length c_134, .int .i64 t_25, .int .i64 t_26] 29 :: row k59 59 w.heap.size (.slice A_127 t_22.length c_128) t_22 F_129 :: row k59 59 w.heap.size (.slice A_130 t_23.length c_131) t_23 F_132 :: row (Kd.int .i64) 3 w.heap.size (.slice A_133 t_24.length c_134) t_24 F_135 :: blk g_118 #[.slice A_108 t_15.length c_109, .slice A_111 t_16.length c_112, .slice A_114 t_17.length c_115, .int .i64 t_18, .int .i64 t_19] 29 :: row k59 59 w.heap.size (.slice A_108 t_15.length c_109) t_15 F_110 :: row k59 59 w.heap.size (.slice A_111 t_16.length c_112) t_16 F_113 :: row (Kd.int .i64) 3 w.heap.size (.slice A_114 t_17.length c_115) t_17 F_116 :: row k59 59 w.heap.size (.slice A_92 t_9.length c_93) t_9 F_94 :: row k59 59 w.heap.size (.slice A_95 t_10.length c_96) t_10 F_97 :: row (Kd.int .i64) 3 w.heap.size (.slice A_98 t_11.length c_99) t_11 F_100 :: blk g_1 #[.slice A0_0 l0_0.length c0_0, .slice A0_1 l0_1.length c0_1, .slice A0_2 l0_2.length c0_2, .int .i64 a0_3, .int .i64 a0_4] 25 :: cs) _ := ⟨_, _, _, Hp.made3 hp hb rfl rfl rfl hR_161 hR_162 hR_163 (ok_apart hR_161 (fun k hk => hk)) (typed_apart hR_161 hR_163 (by decide)) (typed_apart hR_162 hR_163 (by decide))⟩
      refine step_fin hp.tail.tail.tail ?_
      refine treeI_ev rfl ?_
      refine sx_call 51 (by rfl) (by kernel_rfl) ((laws_eqGame.calls _ A_127 c_128 t_22 A_130 c_131 t_23 A_133 c_134 t_24 t_25 t_26 A_167 c_168 t_39 A_170 c_171 t_40 A_173 c_174 t_41 t_42 t_43 _ _ (row_C (hp.at_ 8 _ (by rfl))) (row_len (hp.at_ 8 _ (by rfl))).2 (row_C (hp.at_ 9 _ (by rfl))) (row_len (hp.at_ 9 _ (by rfl))).2 (row_C (hp.at_ 10 _ (by rfl))) (row_len (hp.at_ 10 _ (by rfl))).2 (row_C (hp.at_ 0 _ (by rfl))) (row_len (hp.at_ 0 _ (by rfl))).2 (row_C (hp.at_ 1 _ (by rfl))) (row_len (hp.at_ 1 _ (by rfl))).2 (row_C (hp.at_ 2 _ (by rfl))) (row_len (hp.at_ 2 _ (by rfl))).2 hv_44).mono ?_)
      rintro _ W_177 ⟨rfl, hb⟩
      refine ⟨_, rfl, ?_⟩
      replace hp := hp.below hb
      clear hb
      refine step_fin hp.tail.tail.tail ?_
      refine treeI_rd rfl ?_
      refine sxq_val 52 (.bool (!t_45)) (by rfl) (fun W hp => (by kernel_rfl)) ?_
      refine sxq_nil ?_
      refine treeI_fin ?_
      refine sx_nil ?_
      refine ex_then_n ?_
      refine sx_else (!t_45) (by rfl) (show (!t_45) = false from by rw [hc_46]; rfl) ?_
      refine wp_skip ?_
      refine ex_then_n ?_
      refine wp_seq ?_
      refine sx_region ?_
      refine sx_rd 11 (.int .i64 1) (by rfl) (by kernel_rfl) ?_
      refine sx_nil ?_
      refine ex_then_n ?_
      refine wp_seq ?_
      refine sx_region ?_
      refine sx_rd 53 (.agg #[.slice A_127 t_22.length c_128, .slice A_130 t_23.length c_131, .slice A_133 t_24.length c_134, .int .i64 t_25, .int .i64 t_26]) (by rfl) (ldn (t := 29) (p := (.tmp 8)) (by rfl) (by rfl) (by kernel_rfl) (by kernel_rfl) (by kernel_rfl) (hp.at_ 7 _ (by rfl))) ?_
      refine sx_rd 54 (.int .i64 1) (by rfl) (by kernel_rfl) ?_
      refine sx_call 55 (by rfl) (by kernel_rfl) ((laws_markGame.calls _ F_129 (.slice A_127 t_22.length c_128) t_22 F_132 (.slice A_130 t_23.length c_131) t_23 F_135 (.slice A_133 t_24.length c_134) t_24 t_25 t_26 1 _ _ _ _ w _ (hc2 _ (hp.tail.tail.tail.tail.tail.tail.tail.tail.tail.tail.tail.tail.tail.tail.tail.tail.tail.tail.tail)) (row_R (hp.at_ 8 _ (by rfl))) (fun k_ a_ b_ => hp.ap 8 9 _ _ (by decide) (by rfl) (by rfl) k_ a_ b_) (row_R (hp.at_ 9 _ (by rfl))) (fun k_ a_ b_ => hp.ap 9 8 _ _ (by decide) (by rfl) (by rfl) k_ a_ b_) (row_R (hp.at_ 10 _ (by rfl))) hv_47).mono ?_)
      rintro _ W_186 ⟨rfl, hR_178, hR_179, hR_180, hB_181, hK_182⟩
      refine ⟨_, rfl, ?_⟩
      have hp := (hp.take [8, 9, 10, 0, 1, 2, 3, 4, 5, 6, 7, 11, 12, 13, 14, 15, 16, 17, 18] 19 (by decide) (by simp))
      obtain ⟨F_183, F_184, F_185, hp⟩ : ∃ F_183 F_184 F_185, Hp w (row k59 59 w.heap.size (.slice A_127 t_22.length c_128) t_49 F_183 :: row k59 59 w.heap.size (.slice A_130 t_23.length c_131) t_50 F_184 :: row (Kd.int .i64) 3 w.heap.size (.slice A_133 t_24.length c_134) t_51 F_185 :: row k59 59 w.heap.size (.slice A_167 t_39.length c_168) t_39 F_169 :: row k59 59 w.heap.size (.slice A_170 t_40.length c_171) t_40 F_172 :: row (Kd.int .i64) 3 w.heap.size (.slice A_173 t_41.length c_174) t_41 F_175 :: blk g_156 #[.slice A_146 t_28.length c_147, .slice A_149 t_29.length c_150, .slice A_152 t_30.length c_153, .int .i64 t_31, .int .i64 t_32] 29 :: row k59 59 w.heap.size (.slice A_146 t_28.length c_147) t_28 F_148 :: row k59 59 w.heap.size (.slice A_149 t_29.length c_150) t_29 F_151 :: row (Kd.int .i64) 3 w.heap.size (.slice A_152 t_30.length c_153) t_30 F_154 :: blk g_137 #[.slice A_127 t_22.length c_128, .slice A_130 t_23.length c_131, .slice A_133 t_24.length c_134, .int .i64 t_25, .int .i64 t_26] 29 :: blk g_118 #[.slice A_108 t_15.length c_109, .slice A_111 t_16.length c_112, .slice A_114 t_17.length c_115, .int .i64 t_18, .int .i64 t_19] 29 :: row k59 59 w.heap.size (.slice A_108 t_15.length c_109) t_15 F_110 :: row k59 59 w.heap.size (.slice A_111 t_16.length c_112) t_16 F_113 :: row (Kd.int .i64) 3 w.heap.size (.slice A_114 t_17.length c_115) t_17 F_116 :: row k59 59 w.heap.size (.slice A_92 t_9.length c_93) t_9 F_94 :: row k59 59 w.heap.size (.slice A_95 t_10.length c_96) t_10 F_97 :: row (Kd.int .i64) 3 w.heap.size (.slice A_98 t_11.length c_99) t_11 F_100 :: blk g_1 #[.slice A0_0 l0_0.length c0_0, .slice A0_1 l0_1.length c0_1, .slice A0_2 l0_2.length c0_2, .int .i64 a0_3, .int .i64 a0_4] 25 :: cs) _ := ⟨_, _, _, Hp.marked3 hp hB_181 hK_182 rfl rfl rfl hR_178 hR_179 hR_180⟩
      obtain ⟨hn_187, -⟩ := row_len (hp.at_ 0 _ (by rfl))
      rw [hn_187] at hp
      try rw [hn_187]
      obtain ⟨hn_188, -⟩ := row_len (hp.at_ 1 _ (by rfl))
      rw [hn_188] at hp
      try rw [hn_188]
      obtain ⟨hn_189, -⟩ := row_len (hp.at_ 2 _ (by rfl))
      rw [hn_189] at hp
      try rw [hn_189]
      refine sx_rd 11 (.int .i64 t_48) (by rfl) (by kernel_rfl) ?_
      refine sx_nil ?_
      refine ex_then_n ?_
      refine wp_seq ?_
      refine wp_seq ?_
      refine sx_region ?_
      refine sx_rd 56 (.int .i64 t_48) (by rfl) (by kernel_rfl) ?_
      refine sx_rd 57 (.bool false) (by rfl) (bv (decide_eq_false hc_52) (by kernel_rfl)) ?_
      refine sx_rd 58 (.bool false) (by rfl) (by kernel_rfl) ?_
      refine sx_want (by rfl) ?_
      refine sx_rd 59 (.agg #[.slice A_146 t_28.length c_147, .slice A_149 t_29.length c_150, .slice A_152 t_30.length c_153, .int .i64 t_31, .int .i64 t_32]) (by rfl) (ldn (t := 29) (p := (.tmp 9)) (by rfl) (by rfl) (by kernel_rfl) (by kernel_rfl) (by kernel_rfl) (hp.at_ 6 _ (by rfl))) ?_
      refine sx_want (by rfl) ?_
      refine sx_rd 60 (.agg #[.slice A_108 t_15.length c_109, .slice A_111 t_16.length c_112, .slice A_114 t_17.length c_115, .int .i64 t_18, .int .i64 t_19]) (by rfl) (ldn (t := 29) (p := (.tmp 6)) (by rfl) (by rfl) (by kernel_rfl) (by kernel_rfl) (by kernel_rfl) (hp.at_ 11 _ (by rfl))) ?_
      refine sx_want (by rfl) ?_
      refine sx_call 61 (by rfl) (by kernel_rfl) ((laws_eqGame.calls _ A_146 c_147 t_28 A_149 c_150 t_29 A_152 c_153 t_30 t_31 t_32 A_108 c_109 t_15 A_111 c_112 t_16 A_114 c_115 t_17 t_18 t_19 _ _ (row_C (hp.at_ 7 _ (by rfl))) (row_len (hp.at_ 7 _ (by rfl))).2 (row_C (hp.at_ 8 _ (by rfl))) (row_len (hp.at_ 8 _ (by rfl))).2 (row_C (hp.at_ 9 _ (by rfl))) (row_len (hp.at_ 9 _ (by rfl))).2 (row_C (hp.at_ 12 _ (by rfl))) (row_len (hp.at_ 12 _ (by rfl))).2 (row_C (hp.at_ 13 _ (by rfl))) (row_len (hp.at_ 13 _ (by rfl))).2 (row_C (hp.at_ 14 _ (by rfl))) (row_len (hp.at_ 14 _ (by rfl))).2 hv_53).mono ?_)
      rintro _ W_190 ⟨rfl, hb⟩
      refine ⟨_, rfl, ?_⟩
      replace hp := hp.below hb
      clear hb
      refine sx_want (by rfl) ?_
      refine sx_rd 62 (.bool false) (by rfl) (bv (show (!t_54) = false from by rw [hc_55]; rfl) (by kernel_rfl)) ?_
      refine sx_rd 63 (.bool false) (by rfl) (by kernel_rfl) ?_
      refine sx_rd 64 (.bool false) (by rfl) (by kernel_rfl) ?_
      refine sx_want (by rfl) ?_
      refine sx_rd 65 (.bool t_33) (by rfl) (by kernel_rfl) ?_
      refine sx_want (by rfl) ?_
      refine sx_rd 66 (.bool t_20) (by rfl) (by kernel_rfl) ?_
      refine sx_want (by rfl) ?_
      refine sx_rd 67 (.bool false) (by rfl) (bv (Bool.eq_false_iff.mpr hc_37) (by kernel_rfl)) ?_
      refine sx_rd 68 (.bool false) (by rfl) (by kernel_rfl) ?_
      refine sx_nil ?_
      refine ex_then_n ?_
      refine sx_else false (by rfl) rfl ?_
      refine wp_skip ?_
      refine ex_then_n ?_
      refine wp_seq ?_
      refine sx_region ?_
      refine sx_rd 12 (.int .i64 1) (by rfl) (by kernel_rfl) ?_
      refine sx_nil ?_
      refine ex_then_n ?_
      refine wp_seq ?_
      refine sx_region ?_
      refine sx_rd 69 (.agg #[.slice A_146 t_28.length c_147, .slice A_149 t_29.length c_150, .slice A_152 t_30.length c_153, .int .i64 t_31, .int .i64 t_32]) (by rfl) (ldn (t := 29) (p := (.tmp 9)) (by rfl) (by rfl) (by kernel_rfl) (by kernel_rfl) (by kernel_rfl) (hp.at_ 6 _ (by rfl))) ?_
      refine sx_rd 70 (.int .i64 1) (by rfl) (by kernel_rfl) ?_
      refine sx_call 71 (by rfl) (by kernel_rfl) ((laws_markGame.calls _ F_148 (.slice A_146 t_28.length c_147) t_28 F_151 (.slice A_149 t_29.length c_150) t_29 F_154 (.slice A_152 t_30.length c_153) t_30 t_31 t_32 1 _ _ _ _ w _ (hc2 _ (hp.tail.tail.tail.tail.tail.tail.tail.tail.tail.tail.tail.tail.tail.tail.tail.tail.tail.tail.tail)) (row_R (hp.at_ 7 _ (by rfl))) (fun k_ a_ b_ => hp.ap 7 8 _ _ (by decide) (by rfl) (by rfl) k_ a_ b_) (row_R (hp.at_ 8 _ (by rfl))) (fun k_ a_ b_ => hp.ap 8 7 _ _ (by decide) (by rfl) (by rfl) k_ a_ b_) (row_R (hp.at_ 9 _ (by rfl))) hv_56).mono ?_)
      rintro _ W_199 ⟨rfl, hR_191, hR_192, hR_193, hB_194, hK_195⟩
      refine ⟨_, rfl, ?_⟩
      have hp := (hp.take [7, 8, 9, 0, 1, 2, 3, 4, 5, 6, 10, 11, 12, 13, 14, 15, 16, 17, 18] 19 (by decide) (by simp))
      obtain ⟨F_196, F_197, F_198, hp⟩ : ∃ F_196 F_197 F_198, Hp w (row k59 59 w.heap.size (.slice A_146 t_28.length c_147) t_58 F_196 :: row k59 59 w.heap.size (.slice A_149 t_29.length c_150) t_59 F_197 :: row (Kd.int .i64) 3 w.heap.size (.slice A_152 t_30.length c_153) t_60 F_198 :: row k59 59 w.heap.size (.slice A_127 t_49.length c_128) t_49 F_183 :: row k59 59 w.heap.size (.slice A_130 t_50.length c_131) t_50 F_184 :: row (Kd.int .i64) 3 w.heap.size (.slice A_133 t_51.length c_134) t_51 F_185 :: row k59 59 w.heap.size (.slice A_167 t_39.length c_168) t_39 F_169 :: row k59 59 w.heap.size (.slice A_170 t_40.length c_171) t_40 F_172 :: row (Kd.int .i64) 3 w.heap.size (.slice A_173 t_41.length c_174) t_41 F_175 :: blk g_156 #[.slice A_146 t_28.length c_147, .slice A_149 t_29.length c_150, .slice A_152 t_30.length c_153, .int .i64 t_31, .int .i64 t_32] 29 :: blk g_137 #[.slice A_127 t_49.length c_128, .slice A_130 t_50.length c_131, .slice A_133 t_51.length c_134, .int .i64 t_25, .int .i64 t_26] 29 :: blk g_118 #[.slice A_108 t_15.length c_109, .slice A_111 t_16.length c_112, .slice A_114 t_17.length c_115, .int .i64 t_18, .int .i64 t_19] 29 :: row k59 59 w.heap.size (.slice A_108 t_15.length c_109) t_15 F_110 :: row k59 59 w.heap.size (.slice A_111 t_16.length c_112) t_16 F_113 :: row (Kd.int .i64) 3 w.heap.size (.slice A_114 t_17.length c_115) t_17 F_116 :: row k59 59 w.heap.size (.slice A_92 t_9.length c_93) t_9 F_94 :: row k59 59 w.heap.size (.slice A_95 t_10.length c_96) t_10 F_97 :: row (Kd.int .i64) 3 w.heap.size (.slice A_98 t_11.length c_99) t_11 F_100 :: blk g_1 #[.slice A0_0 l0_0.length c0_0, .slice A0_1 l0_1.length c0_1, .slice A0_2 l0_2.length c0_2, .int .i64 a0_3, .int .i64 a0_4] 25 :: cs) _ := ⟨_, _, _, Hp.marked3 hp hB_194 hK_195 rfl rfl rfl hR_191 hR_192 hR_193⟩
      obtain ⟨hn_200, -⟩ := row_len (hp.at_ 0 _ (by rfl))
      rw [hn_200] at hp
      try rw [hn_200]
      obtain ⟨hn_201, -⟩ := row_len (hp.at_ 1 _ (by rfl))
      rw [hn_201] at hp
      try rw [hn_201]
      obtain ⟨hn_202, -⟩ := row_len (hp.at_ 2 _ (by rfl))
      rw [hn_202] at hp
      try rw [hn_202]
      refine sx_rd 12 (.int .i64 t_57) (by rfl) (by kernel_rfl) ?_
      refine sx_nil ?_
      refine ex_then_n ?_
      refine wp_seq ?_
      refine sx_region ?_
      refine sx_rd 13 (.int .i64 1) (by rfl) (by kernel_rfl) ?_
      refine sx_nil ?_
      refine ex_then_n ?_
      refine wp_seq ?_
      refine sx_region ?_
      refine sx_rd 72 (.agg #[.slice A_146 t_58.length c_147, .slice A_149 t_59.length c_150, .slice A_152 t_60.length c_153, .int .i64 t_31, .int .i64 t_32]) (by rfl) (ldn (t := 29) (p := (.tmp 9)) (by rfl) (by rfl) (by kernel_rfl) (by kernel_rfl) (by kernel_rfl) (hp.at_ 9 _ (by rfl))) ?_
      refine sx_rd 73 (.int .i64 1) (by rfl) (by kernel_rfl) ?_
      refine sx_call 74 (by rfl) (by kernel_rfl) ((laws_heldGame.calls _ A_146 c_147 t_58 A_149 c_150 t_59 A_152 c_153 t_60 t_31 t_32 1 _ _ (row_C (hp.at_ 0 _ (by rfl))) (row_len (hp.at_ 0 _ (by rfl))).2 (row_C (hp.at_ 1 _ (by rfl))) (row_len (hp.at_ 1 _ (by rfl))).2 (row_C (hp.at_ 2 _ (by rfl))) (row_len (hp.at_ 2 _ (by rfl))).2 hv_61).mono ?_)
      rintro _ W_203 ⟨rfl, hb⟩
      refine ⟨_, rfl, ?_⟩
      replace hp := hp.below hb
      clear hb
      refine sx_rd 13 (.int .i64 t_62) (by rfl) (by kernel_rfl) ?_
      refine sx_nil ?_
      refine ex_then_n ?_
      refine wp_seq ?_
      refine wp_seq ?_
      refine sx_region ?_
      refine sx_rd 75 (.int .i64 t_62) (by rfl) (by kernel_rfl) ?_
      refine sx_rd 76 (.bool (decide (t_62 < 0))) (by rfl) (by kernel_rfl) ?_
      refine sx_nil ?_
      refine ex_then_n ?_
      refine sx_else (decide (t_62 < 0)) (by rfl) (decide_eq_false hc_63) ?_
      refine wp_skip ?_
      refine ex_then_n ?_
      refine wp_seq ?_
      refine wp_seq ?_
      refine sx_region ?_
      refine sx_rd 77 (.int .i64 t_62) (by rfl) (by kernel_rfl) ?_
      refine sx_rd 78 (.int .i64 t_57) (by rfl) (by kernel_rfl) ?_
      refine sx_rd 79 (.bool (t_62 != t_57)) (by rfl) (by kernel_rfl) ?_
      refine sx_nil ?_
      refine ex_then_n ?_
      refine sx_else (t_62 != t_57) (by rfl) (bne_eq_false_iff_eq.mpr hc_64) ?_
      refine wp_skip ?_
      refine ex_then_n ?_
      refine wp_seq ?_
      refine sx_region ?_
      refine sx_rd 81 (.agg #[.slice A0_0 l0_0.length c0_0, .slice A0_1 l0_1.length c0_1, .slice A0_2 l0_2.length c0_2, .int .i64 a0_3, .int .i64 a0_4]) (by rfl) (ldn (t := 25) (p := (.tmp 2)) (by rfl) (by rfl) (by kernel_rfl) (by kernel_rfl) (by kernel_rfl) (hp.at_ 18 _ (by rfl))) ?_
      refine sx_call 82 (by rfl) (by kernel_rfl) ((laws_toGame.calls _ A0_0 c0_0 l0_0 A0_1 c0_1 l0_1 A0_2 c0_2 l0_2 a0_3 a0_4 _ _ _ _ _ _ (hC0_0 _ hp.tail.tail.tail.tail.tail.tail.tail.tail.tail.tail.tail.tail.tail.tail.tail.tail.tail.tail.tail) hc0_0 (hC0_1 _ hp.tail.tail.tail.tail.tail.tail.tail.tail.tail.tail.tail.tail.tail.tail.tail.tail.tail.tail.tail) hc0_1 (hC0_2 _ hp.tail.tail.tail.tail.tail.tail.tail.tail.tail.tail.tail.tail.tail.tail.tail.tail.tail.tail.tail) hc0_2 hv_65).mono ?_)
      rintro _ W_219 ⟨v_207, v_208, v_209, rfl, hR_204, hR_205, hR_206, hb⟩
      refine ⟨_, rfl, ?_⟩
      obtain ⟨A_210, c_211, rfl, hcc_c_211, _⟩ := Kd.R_reads hR_204
      obtain ⟨A_213, c_214, rfl, hcc_c_214, _⟩ := Kd.R_reads hR_205
      obtain ⟨A_216, c_217, rfl, hcc_c_217, _⟩ := Kd.R_reads hR_206
      obtain ⟨F_212, F_215, F_218, hp⟩ : ∃ F_212 F_215 F_218, Hp w (row k59 59 w.heap.size (.slice A_210 t_66.length c_211) t_66 F_212 :: row k59 59 w.heap.size (.slice A_213 t_67.length c_214) t_67 F_215 :: row (Kd.int .i64) 3 w.heap.size (.slice A_216 t_68.length c_217) t_68 F_218 :: row k59 59 w.heap.size (.slice A_146 t_58.length c_147) t_58 F_196 :: row k59 59 w.heap.size (.slice A_149 t_59.length c_150) t_59 F_197 :: row (Kd.int .i64) 3 w.heap.size (.slice A_152 t_60.length c_153) t_60 F_198 :: row k59 59 w.heap.size (.slice A_127 t_49.length c_128) t_49 F_183 :: row k59 59 w.heap.size (.slice A_130 t_50.length c_131) t_50 F_184 :: row (Kd.int .i64) 3 w.heap.size (.slice A_133 t_51.length c_134) t_51 F_185 :: row k59 59 w.heap.size (.slice A_167 t_39.length c_168) t_39 F_169 :: row k59 59 w.heap.size (.slice A_170 t_40.length c_171) t_40 F_172 :: row (Kd.int .i64) 3 w.heap.size (.slice A_173 t_41.length c_174) t_41 F_175 :: blk g_156 #[.slice A_146 t_58.length c_147, .slice A_149 t_59.length c_150, .slice A_152 t_60.length c_153, .int .i64 t_31, .int .i64 t_32] 29 :: blk g_137 #[.slice A_127 t_49.length c_128, .slice A_130 t_50.length c_131, .slice A_133 t_51.length c_134, .int .i64 t_25, .int .i64 t_26] 29 :: blk g_118 #[.slice A_108 t_15.length c_109, .slice A_111 t_16.length c_112, .slice A_114 t_17.length c_115, .int .i64 t_18, .int .i64 t_19] 29 :: row k59 59 w.heap.size (.slice A_108 t_15.length c_109) t_15 F_110 :: row k59 59 w.heap.size (.slice A_111 t_16.length c_112) t_16 F_113 :: row (Kd.int .i64) 3 w.heap.size (.slice A_114 t_17.length c_115) t_17 F_116 :: row k59 59 w.heap.size (.slice A_92 t_9.length c_93) t_9 F_94 :: row k59 59 w.heap.size (.slice A_95 t_10.length c_96) t_10 F_97 :: row (Kd.int .i64) 3 w.heap.size (.slice A_98 t_11.length c_99) t_11 F_100 :: blk g_1 #[.slice A0_0 l0_0.length c0_0, .slice A0_1 l0_1.length c0_1, .slice A0_2 l0_2.length c0_2, .int .i64 a0_3, .int .i64 a0_4] 25 :: cs) _ := ⟨_, _, _, Hp.made3 hp hb rfl rfl rfl hR_204 hR_205 hR_206 (ok_apart hR_204 (fun k hk => hk)) (typed_apart hR_204 hR_206 (by decide)) (typed_apart hR_205 hR_206 (by decide))⟩
      refine sx_rd 83 (.string a1) (by rfl) (by kernel_rfl) ?_
      refine sx_call 84 (by rfl) (by kernel_rfl) ((impl_MakeMove.calls _ A_210 c_211 t_66 A_213 c_214 t_67 A_216 c_217 t_68 t_69 t_70 a1 _ _ _ _ _ _ _ (row_C (hp.at_ 0 _ (by rfl))) (row_len (hp.at_ 0 _ (by rfl))).2 (row_C (hp.at_ 1 _ (by rfl))) (row_len (hp.at_ 1 _ (by rfl))).2 (row_C (hp.at_ 2 _ (by rfl))) (row_len (hp.at_ 2 _ (by rfl))).2 hv_71).mono ?_)
      rintro _ W_235 ⟨v_223, v_224, v_225, rfl, hR_220, hR_221, hR_222, hb⟩
      refine ⟨_, rfl, ?_⟩
      obtain ⟨A_226, c_227, rfl, hcc_c_227, _⟩ := Kd.R_reads hR_220
      obtain ⟨A_229, c_230, rfl, hcc_c_230, _⟩ := Kd.R_reads hR_221
      obtain ⟨A_232, c_233, rfl, hcc_c_233, _⟩ := Kd.R_reads hR_222
      obtain ⟨F_228, F_231, F_234, hp⟩ : ∃ F_228 F_231 F_234, Hp w (row k59 59 w.heap.size (.slice A_226 t_72.length c_227) t_72 F_228 :: row k59 59 w.heap.size (.slice A_229 t_73.length c_230) t_73 F_231 :: row (Kd.int .i64) 3 w.heap.size (.slice A_232 t_74.length c_233) t_74 F_234 :: row k59 59 w.heap.size (.slice A_210 t_66.length c_211) t_66 F_212 :: row k59 59 w.heap.size (.slice A_213 t_67.length c_214) t_67 F_215 :: row (Kd.int .i64) 3 w.heap.size (.slice A_216 t_68.length c_217) t_68 F_218 :: row k59 59 w.heap.size (.slice A_146 t_58.length c_147) t_58 F_196 :: row k59 59 w.heap.size (.slice A_149 t_59.length c_150) t_59 F_197 :: row (Kd.int .i64) 3 w.heap.size (.slice A_152 t_60.length c_153) t_60 F_198 :: row k59 59 w.heap.size (.slice A_127 t_49.length c_128) t_49 F_183 :: row k59 59 w.heap.size (.slice A_130 t_50.length c_131) t_50 F_184 :: row (Kd.int .i64) 3 w.heap.size (.slice A_133 t_51.length c_134) t_51 F_185 :: row k59 59 w.heap.size (.slice A_167 t_39.length c_168) t_39 F_169 :: row k59 59 w.heap.size (.slice A_170 t_40.length c_171) t_40 F_172 :: row (Kd.int .i64) 3 w.heap.size (.slice A_173 t_41.length c_174) t_41 F_175 :: blk g_156 #[.slice A_146 t_58.length c_147, .slice A_149 t_59.length c_150, .slice A_152 t_60.length c_153, .int .i64 t_31, .int .i64 t_32] 29 :: blk g_137 #[.slice A_127 t_49.length c_128, .slice A_130 t_50.length c_131, .slice A_133 t_51.length c_134, .int .i64 t_25, .int .i64 t_26] 29 :: blk g_118 #[.slice A_108 t_15.length c_109, .slice A_111 t_16.length c_112, .slice A_114 t_17.length c_115, .int .i64 t_18, .int .i64 t_19] 29 :: row k59 59 w.heap.size (.slice A_108 t_15.length c_109) t_15 F_110 :: row k59 59 w.heap.size (.slice A_111 t_16.length c_112) t_16 F_113 :: row (Kd.int .i64) 3 w.heap.size (.slice A_114 t_17.length c_115) t_17 F_116 :: row k59 59 w.heap.size (.slice A_92 t_9.length c_93) t_9 F_94 :: row k59 59 w.heap.size (.slice A_95 t_10.length c_96) t_10 F_97 :: row (Kd.int .i64) 3 w.heap.size (.slice A_98 t_11.length c_99) t_11 F_100 :: blk g_1 #[.slice A0_0 l0_0.length c0_0, .slice A0_1 l0_1.length c0_1, .slice A0_2 l0_2.length c0_2, .int .i64 a0_3, .int .i64 a0_4] 25 :: cs) _ := ⟨_, _, _, Hp.made3 hp hb rfl rfl rfl hR_220 hR_221 hR_222 (ok_apart hR_220 (fun k hk => hk)) (typed_apart hR_220 hR_222 (by decide)) (typed_apart hR_221 hR_222 (by decide))⟩
      refine sx_rd 80 (.tuple #[.agg #[.slice A_226 t_72.length c_227, .slice A_229 t_73.length c_230, .slice A_232 t_74.length c_233, .int .i64 t_75, .int .i64 t_76], .bool t_77]) (by rfl) (by kernel_rfl) ?_
      refine sx_rd 85 (.agg #[.slice A_226 t_72.length c_227, .slice A_229 t_73.length c_230, .slice A_232 t_74.length c_233, .int .i64 t_75, .int .i64 t_76]) (by rfl) (by kernel_rfl) ?_
      refine sx_rd 86 (.bool t_77) (by rfl) (by kernel_rfl) ?_
      refine sx_box 14 hp #[.slice none 0 0, .slice none 0 0, .slice none 0 0, .int .i64 0, .int .i64 0] 29 (by rfl) (fun W => by kernel_rfl) ?_
      intro g_236 W_237 hp
      refine sx_store (t := 29) (p := (.tmp 14)) (x := (.tmp 85)) (by rfl) (by rfl) 0 (by rfl) 0 [.slice A_226 t_72.length c_227, .slice A_229 t_73.length c_230, .slice A_232 t_74.length c_233, .int .i64 t_75, .int .i64 t_76] (by rfl) (by rfl) (by kernel_rfl) (by simp [Value.oneCell']) (by show 5 ≤ 5; omega) #[.slice A_226 t_72.length c_227, .slice A_229 t_73.length c_230, .slice A_232 t_74.length c_233, .int .i64 t_75, .int .i64 t_76] (by rfl) hp ?_
      intro W_238 hp; simp only [List.set_cons_succ, List.set_cons_zero] at hp
      refine sx_rd 15 (.bool t_77) (by rfl) (by kernel_rfl) ?_
      refine sx_nil ?_
      refine ex_then_n ?_
      refine wp_seq ?_
      refine wp_seq ?_
      refine sx_region ?_
      refine sx_rd 87 (.agg #[.slice A_226 t_72.length c_227, .slice A_229 t_73.length c_230, .slice A_232 t_74.length c_233, .int .i64 t_75, .int .i64 t_76]) (by rfl) (ldn (t := 29) (p := (.tmp 14)) (by rfl) (by rfl) (by kernel_rfl) (by kernel_rfl) (by kernel_rfl) (hp.at_ 0 _ (by rfl))) ?_
      refine sx_rd 88 (.agg #[.slice A_108 t_15.length c_109, .slice A_111 t_16.length c_112, .slice A_114 t_17.length c_115, .int .i64 t_18, .int .i64 t_19]) (by rfl) (ldn (t := 29) (p := (.tmp 6)) (by rfl) (by rfl) (by kernel_rfl) (by kernel_rfl) (by kernel_rfl) (hp.at_ 18 _ (by rfl))) ?_
      refine sx_call 89 (by rfl) (by kernel_rfl) ((laws_eqGame.calls _ A_226 c_227 t_72 A_229 c_230 t_73 A_232 c_233 t_74 t_75 t_76 A_108 c_109 t_15 A_111 c_112 t_16 A_114 c_115 t_17 t_18 t_19 _ _ (row_C (hp.at_ 1 _ (by rfl))) (row_len (hp.at_ 1 _ (by rfl))).2 (row_C (hp.at_ 2 _ (by rfl))) (row_len (hp.at_ 2 _ (by rfl))).2 (row_C (hp.at_ 3 _ (by rfl))) (row_len (hp.at_ 3 _ (by rfl))).2 (row_C (hp.at_ 19 _ (by rfl))) (row_len (hp.at_ 19 _ (by rfl))).2 (row_C (hp.at_ 20 _ (by rfl))) (row_len (hp.at_ 20 _ (by rfl))).2 (row_C (hp.at_ 21 _ (by rfl))) (row_len (hp.at_ 21 _ (by rfl))).2 hv_78).mono ?_)
      rintro _ W_239 ⟨rfl, hb⟩
      refine ⟨_, rfl, ?_⟩
      replace hp := hp.below hb
      clear hb
      refine sx_rd 90 (.bool false) (by rfl) (bv (show (!t_79) = false from by rw [hc_80]; rfl) (by kernel_rfl)) ?_
      refine sx_rd 91 (.bool false) (by rfl) (by kernel_rfl) ?_
      refine sx_want (by rfl) ?_
      refine sx_rd 92 (.bool t_77) (by rfl) (by kernel_rfl) ?_
      refine sx_want (by rfl) ?_
      refine sx_rd 93 (.bool t_20) (by rfl) (by kernel_rfl) ?_
      refine sx_want (by rfl) ?_
      refine sx_rd 94 (.bool (t_77 != t_20)) (by rfl) (by kernel_rfl) ?_
      refine sx_rd 95 (.bool (t_77 != t_20)) (by rfl) (by kernel_rfl) ?_
      refine sx_nil ?_
      refine ex_then_n ?_
      refine sx_else (t_77 != t_20) (by rfl) (Bool.eq_false_iff.mpr hc_81) ?_
      refine wp_skip ?_
      refine ex_then_n ?_
      refine wp_seq ?_
      refine sx_region ?_
      refine sx_rd 13 (.int .i64 1) (by rfl) (by kernel_rfl) ?_
      refine sx_nil ?_
      refine ex_then_n ?_
      refine wp_seq ?_
      refine sx_region ?_
      refine sx_rd 96 (.agg #[.slice A_146 t_58.length c_147, .slice A_149 t_59.length c_150, .slice A_152 t_60.length c_153, .int .i64 t_31, .int .i64 t_32]) (by rfl) (ldn (t := 29) (p := (.tmp 9)) (by rfl) (by rfl) (by kernel_rfl) (by kernel_rfl) (by kernel_rfl) (hp.at_ 16 _ (by rfl))) ?_
      refine sx_rd 97 (.int .i64 1) (by rfl) (by kernel_rfl) ?_
      refine sx_call 98 (by rfl) (by kernel_rfl) ((laws_heldGame.calls _ A_146 c_147 t_58 A_149 c_150 t_59 A_152 c_153 t_60 t_31 t_32 1 _ _ (row_C (hp.at_ 7 _ (by rfl))) (row_len (hp.at_ 7 _ (by rfl))).2 (row_C (hp.at_ 8 _ (by rfl))) (row_len (hp.at_ 8 _ (by rfl))).2 (row_C (hp.at_ 9 _ (by rfl))) (row_len (hp.at_ 9 _ (by rfl))).2 hv_82).mono ?_)
      rintro _ W_240 ⟨rfl, hb⟩
      refine ⟨_, rfl, ?_⟩
      replace hp := hp.below hb
      clear hb
      refine sx_rd 13 (.int .i64 t_83) (by rfl) (by kernel_rfl) ?_
      refine sx_nil ?_
      refine ex_then_n ?_
      refine wp_seq ?_
      refine wp_seq ?_
      refine sx_region ?_
      refine sx_rd 99 (.int .i64 t_83) (by rfl) (by kernel_rfl) ?_
      refine sx_rd 100 (.bool (decide (t_83 < 0))) (by rfl) (by kernel_rfl) ?_
      refine sx_nil ?_
      refine ex_then_n ?_
      refine sx_else (decide (t_83 < 0)) (by rfl) (decide_eq_false hc_84) ?_
      refine wp_skip ?_
      refine ex_then_n ?_
      refine wp_seq ?_
      refine wp_seq ?_
      refine sx_region ?_
      refine sx_rd 101 (.int .i64 t_83) (by rfl) (by kernel_rfl) ?_
      refine sx_rd 102 (.int .i64 t_57) (by rfl) (by kernel_rfl) ?_
      refine sx_rd 103 (.bool (t_83 != t_57)) (by rfl) (by kernel_rfl) ?_
      refine sx_nil ?_
      refine ex_then_n ?_
      refine sx_else (t_83 != t_57) (by rfl) (bne_eq_false_iff_eq.mpr hc_85) ?_
      refine wp_skip ?_
      refine ex_then_n ?_
      refine wp_seq ?_
      refine sx_region ?_
      refine sx_rd 4 (.bool true) (by rfl) (by kernel_rfl) ?_
      refine sx_nil ?_
      refine ex_then_n ?_
      refine wp_ret ?_
      refine sx_end (.bool true) (res1 4 (by rfl)) ?_
      obtain rfl := Option.some.inj h
      exact ⟨rfl, hc2 _ (hp.tail.tail.tail.tail.tail.tail.tail.tail.tail.tail.tail.tail.tail.tail.tail.tail.tail.tail.tail.tail.tail.tail.tail.tail.tail.tail)⟩
end
end Go.Proofs.YtkjaahmlnbgnjaaGreat.Hd
