/- impl.DealHands, by hand. -/
import Derived.Test.YtdcjapdkbocgmaaPDealA
import Derived.Test.YtdcjapdkbocgmaaMDelete
import Derived.Test.YtdcjapdkbocgmaaMTileR
namespace Go.Proofs.Ytdcjapdkbocgmaa.Hd
open Go.RowKit Go.Proofs.Ytdcjapdkbocgmaa.Pure Go.Proofs.YtdcjapdkbocgmaaW.PrintWords Go.Proofs.YtdcjapdkbocgmaaW.PrintLast Go.Proofs.YtdcjapdkbocgmaaW.PrintMore
set_option linter.unusedVariables false
set_option linter.unusedSimpArgs false
def impl_DealHands.f (n e z : Int) : Option (List S_Tile × List S_Tile × Bool) := some (resDealHands n e z)
set_option maxRecDepth 100000 in
set_option maxHeartbeats 40000000 in
theorem impl_DealHands.calls (a0 : Int) (a1 : Int) (a2 : Int) (r0 : List S_Tile) (r1 : List S_Tile) (r2 : Bool) (w : World)  (h : impl_DealHands.f a0 a1 a2 = some (r0, r1, r2)) :
    Calls Try.prog 27 #[.int .i64 a0, .int .i64 a1, .int .i64 a2] w fun e w' => ∃ v0_ v1_ : Value, e = .returned (.tuple #[v0_, v1_, .bool r2]) ∧ Kd.R k82 82 w' w.heap.size (fun k_ => some k_ ≠ (v1_ : Value).ownBlock) v0_ r0 ∧ Kd.R k82 82 w' w.heap.size (fun k_ => some k_ ≠ (v0_ : Value).ownBlock) v1_ r1 ∧ Below w.heap.size w w' := by
  unfold impl_DealHands.f resDealHands at h
  obtain ⟨cs, hcs⟩ : ∃ cs, cs = [old w w.heap.size] := ⟨_, rfl⟩
  have hp : Hp w cs w := by rw [hcs]; exact Hp.old_start w
  have hc2 : ∀ W, Hp w cs W → Below w.heap.size w W := fun W h => by rw [hcs] at h; exact h.since 0 _ rfl
  clear hcs
  refine sx_enter (N := 71) (l := [.int .i64 a0, .int .i64 a1, .int .i64 a2]) Try.func27 rfl rfl rfl ?_
  refine wp_seq ?_
  refine sx_region ?_
  refine sx_rd 6 (.slice none 0 0) (by rfl) (by kernel_rfl) ?_
  refine sx_rd 7 (.slice none 0 0) (by rfl) (by kernel_rfl) ?_
  refine sx_rd 8 (.bool false) (by rfl) (by kernel_rfl) ?_
  refine sx_nil ?_
  refine ex_then_n ?_
  refine wp_seq ?_
  refine wp_seq ?_
  rcases Bool.eq_false_or_eq_true (!(inB 0 9 a0)) with c_1 | c_1
  ·
    refine sx_region ?_
    refine sx_rd 13 (.int .i64 a0) (by rfl) (by kernel_rfl) ?_
    refine sx_call 14 (by rfl) (by kernel_rfl) ((impl_isNumber.calls a0 _ _ (isNumberD a0)).mono ?_)
    rintro _ W_2 ⟨rfl, hb⟩
    refine ⟨.bool false, congrArg (fun b => Ending.returned (.bool b)) (not_eq c_1), ?_⟩
    replace hp := hp.below hb.below
    clear hb
    refine sx_rd 15 (.bool true) (by rfl) (by kernel_rfl) ?_
    refine sx_rd 16 (.bool true) (by rfl) (by kernel_rfl) ?_
    refine sx_skip 17 (by rfl) (by rfl) (by rfl) ?_
    refine sx_skip 18 (by rfl) (by rfl) (by rfl) ?_
    refine sx_skip 19 (by rfl) (by rfl) (by rfl) ?_
    refine sx_skip 20 (by rfl) (by rfl) (by rfl) ?_
    refine sx_skip 21 (by rfl) (by rfl) (by rfl) ?_
    refine sx_skip 22 (by rfl) (by rfl) (by rfl) ?_
    refine sx_skip 23 (by rfl) (by rfl) (by rfl) ?_
    refine sx_rd 24 (.bool true) (by rfl) (by kernel_rfl) ?_
    refine sx_rd 25 (.bool true) (by rfl) (by kernel_rfl) ?_
    refine sx_skip 26 (by rfl) (by rfl) (by rfl) ?_
    refine sx_skip 27 (by rfl) (by rfl) (by rfl) ?_
    refine sx_skip 28 (by rfl) (by rfl) (by rfl) ?_
    refine sx_rd 29 (.bool true) (by rfl) (by kernel_rfl) ?_
    refine sx_nil ?_
    refine ex_then_n ?_
    refine sx_then true (by rfl) rfl ?_
    refine wp_seq ?_
    refine sx_region ?_
    refine sx_rd 6 (.slice none 0 0) (by rfl) (by kernel_rfl) ?_
    refine sx_rd 7 (.slice none 0 0) (by rfl) (by kernel_rfl) ?_
    refine sx_rd 8 (.bool false) (by rfl) (by kernel_rfl) ?_
    refine sx_nil ?_
    refine ex_then_n ?_
    refine wp_ret ?_
    refine ex_then_r ?_
    refine sx_end (.tuple #[.slice none 0 0, .slice none 0 0, .bool false]) (res3 6 7 8 (by rfl)) ?_
    rw [if_neg (by unfold okDeal; simp [(not_eq c_1)])] at h; simp only [Option.some.injEq, Prod.mk.injEq] at h; obtain ⟨rfl, rfl, rfl⟩ := h
    exact ⟨_, _, rfl, Kd.R_nil _ _ _ _ _, Kd.R_nil _ _ _ _ _, hc2 _ (hp)⟩
  ·
    have hm0 := inB_iff.1 (not_eq c_1)
    have hm1 := setT_len (n := a0.toNat) (by omega)
    rcases Bool.eq_false_or_eq_true (!(inB 0 (((setT a0.toNat).length : Int) / 2) a1)) with c_3 | c_3
    ·
      refine sx_region ?_
      refine sx_rd 13 (.int .i64 a0) (by rfl) (by kernel_rfl) ?_
      refine sx_call 14 (by rfl) (by kernel_rfl) ((impl_isNumber.calls a0 _ _ (isNumberD a0)).mono ?_)
      rintro _ W_4 ⟨rfl, hb⟩
      refine ⟨.bool true, congrArg (fun b => Ending.returned (.bool b)) (not_eq c_1), ?_⟩
      replace hp := hp.below hb.below
      clear hb
      refine sx_rd 15 (.bool false) (by rfl) (by kernel_rfl) ?_
      refine sx_rd 16 (.bool false) (by rfl) (by kernel_rfl) ?_
      refine sx_want (by rfl) ?_
      refine sx_rd 17 (.int .i64 a1) (by rfl) (by kernel_rfl) ?_
      refine sx_want (by rfl) ?_
      refine sx_rd 18 (.int .i64 a0) (by rfl) (by kernel_rfl) ?_
      refine sx_want (by rfl) ?_
      obtain ⟨k_5, hk_k_5⟩ := Ev.rounds (setOf_ev a0 (not_eq c_1))
      refine sx_call 19 (by rfl) (by kernel_rfl) ((impl_setOf.calls k_5 a0 _ _ hk_k_5).mono ?_)
      rintro _ W_11 ⟨v_7, rfl, hR_6, hb⟩
      refine ⟨_, rfl, ?_⟩
      obtain ⟨A_8, c_9, rfl, hcc_c_9, _⟩ := Kd.R_reads hR_6
      obtain ⟨F_10, hp⟩ : ∃ F, Hp w (row k82 82 w.heap.size (.slice A_8 (setT a0.toNat).length c_9) (setT a0.toNat) F :: cs) _ := ⟨_, Hp.made hp hb hR_6⟩
      refine sx_want (by rfl) ?_
      refine sx_rd 20 (.int .i64 ((setT a0.toNat).length : Int)) (by rfl) (by kernel_rfl) ?_
      refine sx_want (by rfl) ?_
      refine sx_rd 21 (.int .i64 (((setT a0.toNat).length : Int) / 2)) (by rfl) (quo_ok (by omega) (by omega) (by omega) (by kernel_rfl)) ?_
      refine sx_want (by rfl) ?_
      refine sx_call 22 (by rfl) (by kernel_rfl) ((impl_within.calls a1 0 (((setT a0.toNat).length : Int) / 2) _ _ (within_eq a1 0 (((setT a0.toNat).length : Int) / 2))).mono ?_)
      rintro _ W_12 ⟨rfl, hb⟩
      refine ⟨.bool false, congrArg (fun b => Ending.returned (.bool b)) (not_eq c_3), ?_⟩
      replace hp := hp.below hb.below
      clear hb
      refine sx_want (by rfl) ?_
      refine sx_rd 23 (.bool true) (by rfl) (by kernel_rfl) ?_
      refine sx_rd 24 (.bool true) (by rfl) (by kernel_rfl) ?_
      refine sx_rd 25 (.bool true) (by rfl) (by kernel_rfl) ?_
      refine sx_skip 26 (by rfl) (by rfl) (by rfl) ?_
      refine sx_skip 27 (by rfl) (by rfl) (by rfl) ?_
      refine sx_skip 28 (by rfl) (by rfl) (by rfl) ?_
      refine sx_rd 29 (.bool true) (by rfl) (by kernel_rfl) ?_
      refine sx_nil ?_
      refine ex_then_n ?_
      refine sx_then true (by rfl) rfl ?_
      refine wp_seq ?_
      refine sx_region ?_
      refine sx_rd 6 (.slice none 0 0) (by rfl) (by kernel_rfl) ?_
      refine sx_rd 7 (.slice none 0 0) (by rfl) (by kernel_rfl) ?_
      refine sx_rd 8 (.bool false) (by rfl) (by kernel_rfl) ?_
      refine sx_nil ?_
      refine ex_then_n ?_
      refine wp_ret ?_
      refine ex_then_r ?_
      refine sx_end (.tuple #[.slice none 0 0, .slice none 0 0, .bool false]) (res3 6 7 8 (by rfl)) ?_
      rw [if_neg (by unfold okDeal; simp [(not_eq c_1), (not_eq c_3)])] at h; simp only [Option.some.injEq, Prod.mk.injEq] at h; obtain ⟨rfl, rfl, rfl⟩ := h
      exact ⟨_, _, rfl, Kd.R_nil _ _ _ _ _, Kd.R_nil _ _ _ _ _, hc2 _ (hp.tail)⟩
    ·
      refine sx_region ?_
      refine sx_rd 13 (.int .i64 a0) (by rfl) (by kernel_rfl) ?_
      refine sx_call 14 (by rfl) (by kernel_rfl) ((impl_isNumber.calls a0 _ _ (isNumberD a0)).mono ?_)
      rintro _ W_13 ⟨rfl, hb⟩
      refine ⟨.bool true, congrArg (fun b => Ending.returned (.bool b)) (not_eq c_1), ?_⟩
      replace hp := hp.below hb.below
      clear hb
      refine sx_rd 15 (.bool false) (by rfl) (by kernel_rfl) ?_
      refine sx_rd 16 (.bool false) (by rfl) (by kernel_rfl) ?_
      refine sx_want (by rfl) ?_
      refine sx_rd 17 (.int .i64 a1) (by rfl) (by kernel_rfl) ?_
      refine sx_want (by rfl) ?_
      refine sx_rd 18 (.int .i64 a0) (by rfl) (by kernel_rfl) ?_
      refine sx_want (by rfl) ?_
      obtain ⟨k_14, hk_k_14⟩ := Ev.rounds (setOf_ev a0 (not_eq c_1))
      refine sx_call 19 (by rfl) (by kernel_rfl) ((impl_setOf.calls k_14 a0 _ _ hk_k_14).mono ?_)
      rintro _ W_20 ⟨v_16, rfl, hR_15, hb⟩
      refine ⟨_, rfl, ?_⟩
      obtain ⟨A_17, c_18, rfl, hcc_c_18, _⟩ := Kd.R_reads hR_15
      obtain ⟨F_19, hp⟩ : ∃ F, Hp w (row k82 82 w.heap.size (.slice A_17 (setT a0.toNat).length c_18) (setT a0.toNat) F :: cs) _ := ⟨_, Hp.made hp hb hR_15⟩
      refine sx_want (by rfl) ?_
      refine sx_rd 20 (.int .i64 ((setT a0.toNat).length : Int)) (by rfl) (by kernel_rfl) ?_
      refine sx_want (by rfl) ?_
      refine sx_rd 21 (.int .i64 (((setT a0.toNat).length : Int) / 2)) (by rfl) (quo_ok (by omega) (by omega) (by omega) (by kernel_rfl)) ?_
      refine sx_want (by rfl) ?_
      refine sx_call 22 (by rfl) (by kernel_rfl) ((impl_within.calls a1 0 (((setT a0.toNat).length : Int) / 2) _ _ (within_eq a1 0 (((setT a0.toNat).length : Int) / 2))).mono ?_)
      rintro _ W_21 ⟨rfl, hb⟩
      refine ⟨.bool true, congrArg (fun b => Ending.returned (.bool b)) (not_eq c_3), ?_⟩
      replace hp := hp.below hb.below
      clear hb
      refine sx_want (by rfl) ?_
      refine sx_rd 23 (.bool false) (by rfl) (by kernel_rfl) ?_
      refine sx_rd 24 (.bool false) (by rfl) (by kernel_rfl) ?_
      refine sx_rd 25 (.bool false) (by rfl) (by kernel_rfl) ?_
      refine sx_want (by rfl) ?_
      refine sx_rd 26 (.int .i64 a2) (by rfl) (by kernel_rfl) ?_
      refine sx_want (by rfl) ?_
      refine sx_call 27 (by rfl) (by kernel_rfl) ((impl_within.calls a2 0 9999 _ _ (within_eq a2 0 9999)).mono ?_)
      rintro _ W_22 ⟨rfl, hb⟩
      refine ⟨_, rfl, ?_⟩
      replace hp := hp.below hb.below
      clear hb
      refine sx_want (by rfl) ?_
      refine sx_rd 28 (.bool (!(inB 0 9999 a2))) (by rfl) (by kernel_rfl) ?_
      refine sx_rd 29 (.bool (!(inB 0 9999 a2))) (by rfl) (by kernel_rfl) ?_
      refine sx_nil ?_
      refine ex_then_n ?_
      refine sx_cond (!(inB 0 9999 a2)) (by rfl) (fun c_23 => ?_) (fun c_23 => ?_)
      ·
        refine wp_seq ?_
        refine sx_region ?_
        refine sx_rd 6 (.slice none 0 0) (by rfl) (by kernel_rfl) ?_
        refine sx_rd 7 (.slice none 0 0) (by rfl) (by kernel_rfl) ?_
        refine sx_rd 8 (.bool false) (by rfl) (by kernel_rfl) ?_
        refine sx_nil ?_
        refine ex_then_n ?_
        refine wp_ret ?_
        refine ex_then_r ?_
        refine sx_end (.tuple #[.slice none 0 0, .slice none 0 0, .bool false]) (res3 6 7 8 (by rfl)) ?_
        rw [if_neg (by unfold okDeal; simp [(not_eq c_1), (not_eq c_3), (not_eq c_23)])] at h; simp only [Option.some.injEq, Prod.mk.injEq] at h; obtain ⟨rfl, rfl, rfl⟩ := h
        exact ⟨_, _, rfl, Kd.R_nil _ _ _ _ _, Kd.R_nil _ _ _ _ _, hc2 _ (hp.tail)⟩
      ·
        have hok0 : okDeal a0 a1 a2 = true := by unfold okDeal; rw [(not_eq c_1), (not_eq c_3), (not_eq c_23)]; rfl
        have hok := okDeal_n hok0
        refine wp_skip ?_
        refine ex_then_n ?_
        refine wp_seq ?_
        refine sx_region ?_
        refine sx_rd 30 (.int .i64 a0) (by rfl) (by kernel_rfl) ?_
        obtain ⟨k_24, hk_k_24⟩ := Ev.rounds (setOf_ev a0 (not_eq c_1))
        refine sx_call 31 (by rfl) (by kernel_rfl) ((impl_setOf.calls k_24 a0 _ _ hk_k_24).mono ?_)
        rintro _ W_30 ⟨v_26, rfl, hR_25, hb⟩
        refine ⟨_, rfl, ?_⟩
        obtain ⟨A_27, c_28, rfl, hcc_c_28, _⟩ := Kd.R_reads hR_25
        obtain ⟨F_29, hp⟩ : ∃ F, Hp w (row k82 82 w.heap.size (.slice A_27 (setT a0.toNat).length c_28) (setT a0.toNat) F :: row k82 82 w.heap.size (.slice A_17 ((setT a0.toNat).length) c_18) (setT a0.toNat) F_19 :: cs) _ := ⟨_, Hp.made hp hb hR_25⟩
        refine sx_rd 32 (.agg #[.slice none 0 0, .slice none 0 0]) (by rfl) (by kernel_rfl) ?_
        refine sx_box 10 hp #[.slice none 0 0, .slice none 0 0] 85 (by rfl) (fun W => by kernel_rfl) ?_
        intro g_31 W_32 hp
        refine sx_rd 9 (.slice A_27 ((setT a0.toNat).length) c_28) (by rfl) (by kernel_rfl) ?_
        refine sx_store (t := 85) (p := (.tmp 10)) (x := (.tmp 32)) (by rfl) (by rfl) 0 (by rfl) 0 [.slice none 0 0, .slice none 0 0] (by rfl) (by rfl) (by kernel_rfl) (by simp [Value.oneCell']) (by show 2 ≤ 2; omega) #[.slice none 0 0, .slice none 0 0] (by rfl) hp ?_
        intro W_33 hp; simp only [List.set_cons_succ, List.set_cons_zero] at hp
        refine sx_nil ?_
        refine ex_then_n ?_
        refine wp_seq ?_
        refine wp_seq ?_
        refine sx_region ?_
        refine sx_rd 33 (.int .i64 a1) (by rfl) (by kernel_rfl) ?_
        refine sx_rd 34 (.int .i64 (2 * a1)) (by rfl) (wr_ok (by omega) (by kernel_rfl)) ?_
        refine sx_rd 35 (.int .i64 0) (by rfl) (by kernel_rfl) ?_
        refine sx_nil ?_
        refine ex_then_n ?_
        refine wp_block ?_
        have e0_34 : (setT a0.toNat) = (dealS (setT a0.toNat) a2 0).left := rfl
        have hp : Hp w (blk g_31 #[.slice none 0 0, .slice none 0 0] 85 :: row k82 82 w.heap.size (.slice A_27 ((setT a0.toNat).length) c_28) ((dealS (setT a0.toNat) a2 0).left) F_29 :: row k82 82 w.heap.size (.slice A_17 ((setT a0.toNat).length) c_18) (setT a0.toNat) F_19 :: cs) W_33 := by rw [← e0_34]; exact hp
        have hp := hp.nilrow k82 82 w.heap.size
        have e0_35 : ([] : List S_Tile) = (dealS (setT a0.toNat) a2 0).a := rfl
        have hp : Hp w (row k82 82 w.heap.size (.slice none 0 0) ((dealS (setT a0.toNat) a2 0).a) (fun _ => False) :: blk g_31 #[.slice none 0 0, .slice none 0 0] 85 :: row k82 82 w.heap.size (.slice A_27 ((setT a0.toNat).length) c_28) ((dealS (setT a0.toNat) a2 0).left) F_29 :: row k82 82 w.heap.size (.slice A_17 ((setT a0.toNat).length) c_18) (setT a0.toNat) F_19 :: cs) W_33 := by rw [← e0_35]; exact hp
        have hp := hp.nilrow k82 82 w.heap.size
        have e0_36 : ([] : List S_Tile) = (dealS (setT a0.toNat) a2 0).b := rfl
        have hp : Hp w (row k82 82 w.heap.size (.slice none 0 0) ((dealS (setT a0.toNat) a2 0).b) (fun _ => False) :: row k82 82 w.heap.size (.slice none 0 0) ((dealS (setT a0.toNat) a2 0).a) (fun _ => False) :: blk g_31 #[.slice none 0 0, .slice none 0 0] 85 :: row k82 82 w.heap.size (.slice A_27 ((setT a0.toNat).length) c_28) ((dealS (setT a0.toNat) a2 0).left) F_29 :: row k82 82 w.heap.size (.slice A_17 ((setT a0.toNat).length) c_18) (setT a0.toNat) F_19 :: cs) W_33 := by rw [← e0_36]; exact hp
        refine wp_loop_ghost (fun n a W => ∃ (r : List (Nat × Value)) (i : Nat) (Ai9 : Option Addr) (ni9 ci9 : Nat) (Fi9 : Nat → Prop) (Aix10x0 : Option Addr) (nix10x0 cix10x0 : Nat) (Fix10x0 : Nat → Prop) (Aix10x1 : Option Addr) (nix10x1 cix10x1 : Nat) (Fix10x1 : Nat → Prop), n = (2 * a1).toNat - i ∧ a = fr 71 ([(2, .int .i64 ((dealS (setT a0.toNat) a2 i).z)), (9, .slice Ai9 ni9 ci9), (10, .pointer (some ⟨g_31, 0, none⟩)), (34, .int .i64 (2 * a1)), (35, .int .i64 (i : Int))] ++ r) ∧ Hp w (row k82 82 w.heap.size (.slice Ai9 ni9 ci9) ((dealS (setT a0.toNat) a2 i).left) Fi9 :: row k82 82 w.heap.size (.slice Aix10x0 nix10x0 cix10x0) ((dealS (setT a0.toNat) a2 i).a) Fix10x0 :: row k82 82 w.heap.size (.slice Aix10x1 nix10x1 cix10x1) ((dealS (setT a0.toNat) a2 i).b) Fix10x1 :: blk g_31 #[.slice Aix10x0 nix10x0 cix10x0, .slice Aix10x1 nix10x1 cix10x1] 85 :: row k82 82 w.heap.size (.slice A_17 ((setT a0.toNat).length) c_18) (setT a0.toNat) F_19 :: cs) W ∧ (i ≤ (2 * a1).toNat)) _ ⟨_, 0, _, _, _, _, _, _, _, _, _, _, _, _, rfl, fr_front [(2, .int .i64 a2), (9, .slice A_27 ((setT a0.toNat).length) c_28), (10, .pointer (some ⟨g_31, 0, none⟩)), (34, .int .i64 (2 * a1)), (35, .int .i64 0)] ⟨rfl, rfl, rfl, rfl, rfl, trivial⟩, (hp.take [3, 1, 0, 2, 4] 5 (by decide) (by simp)), Nat.zero_le _⟩ ?_
        rintro _ _ W_37 ⟨r, i, Ai9, ni9, ci9, Fi9, Aix10x0, nix10x0, cix10x0, Fix10x0, Aix10x1, nix10x1, cix10x1, Fix10x1, rfl, rfl, hp, hi⟩
        obtain ⟨rfl, hcci9⟩ := row_len (hp.at_ 0 _ (by rfl))
        obtain ⟨rfl, hccix10x0⟩ := row_len (hp.at_ 1 _ (by rfl))
        obtain ⟨rfl, hccix10x1⟩ := row_len (hp.at_ 2 _ (by rfl))
        have hok := okDeal_n hok0
        have hSl := setT_len hok.1
        have hlen := deal_len (setT a0.toNat) a2 i (by omega)
        have hal := deal_alen (setT a0.toNat) a2 i (by omega)
        have hz := deal_z (setT a0.toNat) a2 (by omega) i
        refine wp_seq ?_
        refine sx_region ?_
        refine sx_rd 36 (.bool (decide ((i : Int) < (2 * a1)))) (by rfl) (by kernel_rfl) ?_
        refine sx_nil ?_
        refine ex_then_n ?_
        refine wp_seq ?_
        refine sx_cond (decide ((i : Int) < (2 * a1))) (by rfl) (fun c_38 => ?_) (fun c_38 => ?_)
        ·
          have c_38p := of_decide_eq_true c_38
          have hI := dealI_eq (dealS (setT a0.toNat) a2 i) (by omega)
          have hIlt := dealI_lt (dealS (setT a0.toNat) a2 i) (by omega)
          refine wp_skip ?_
          refine ex_then_n ?_
          refine wp_seq ?_
          refine wp_block ?_
          refine wp_seq ?_
          refine sx_region ?_
          refine sx_rd 37 (.int .i64 (i : Int)) (by rfl) (by kernel_rfl) ?_
          refine sx_rd 11 (.int .i64 (i : Int)) (by rfl) (by kernel_rfl) ?_
          refine sx_nil ?_
          refine ex_then_n ?_
          refine wp_seq ?_
          refine sx_region ?_
          refine sx_rd 38 (.int .i64 ((dealS (setT a0.toNat) a2 i).z)) (by rfl) (by kernel_rfl) ?_
          refine sx_rd 39 (.int .i64 ((dealS (setT a0.toNat) a2 i).z * 163)) (by rfl) (wr_ok (by omega) (by kernel_rfl)) ?_
          refine sx_rd 40 (.int .i64 (((dealS (setT a0.toNat) a2 i).z * 163) + 229)) (by rfl) (wr_ok (by omega) (by kernel_rfl)) ?_
          refine sx_rd 41 (.int .i64 ((((dealS (setT a0.toNat) a2 i).z * 163) + 229) % 10007)) (by rfl) (rem_ok (by omega) (by kernel_rfl)) ?_
          refine sx_rd 2 (.int .i64 ((((dealS (setT a0.toNat) a2 i).z * 163) + 229) % 10007)) (by rfl) (by kernel_rfl) ?_
          refine sx_nil ?_
          refine ex_then_n ?_
          refine wp_seq ?_
          refine sx_region ?_
          refine sx_rd 42 (.int .i64 ((((dealS (setT a0.toNat) a2 i).z * 163) + 229) % 10007)) (by rfl) (by kernel_rfl) ?_
          refine sx_rd 43 (.slice Ai9 (((dealS (setT a0.toNat) a2 i).left).length) ci9) (by rfl) (by kernel_rfl) ?_
          refine sx_rd 44 (.int .i64 (((dealS (setT a0.toNat) a2 i).left).length : Int)) (by rfl) (by kernel_rfl) ?_
          refine sx_rd 45 (.int .i64 ((dealI (dealS (setT a0.toNat) a2 i) : Nat) : Int)) (by rfl) (by rw [hI]; exact rem_run (by rfl) (by rfl) (by rfl) (by omega) (by omega)) ?_
          refine sx_rd 12 (.int .i64 ((dealI (dealS (setT a0.toNat) a2 i) : Nat) : Int)) (by rfl) (by kernel_rfl) ?_
          refine sx_nil ?_
          refine ex_then_n ?_
          refine wp_seq ?_
          have c_39 : ((i : Int) % 2) = ((0 : Nat) : Int) ∨ ((i : Int) % 2) = ((1 : Nat) : Int) := by omega
          rcases c_39 with c_39 | c_39
          ·
            refine sx_drawT [0, 1, 2, 3, 4, 6, 7] (.rd 5 (.rd 8 (.rd 9 (.alt 10 (.fin) .non)))) 11 (C := Hp w (row k82 82 w.heap.size (.slice Ai9 (((dealS (setT a0.toNat) a2 i).left).length) ci9) ((dealS (setT a0.toNat) a2 i).left) Fi9 :: row k82 82 w.heap.size (.slice Aix10x0 (((dealS (setT a0.toNat) a2 i).a).length) cix10x0) ((dealS (setT a0.toNat) a2 i).a) Fix10x0 :: row k82 82 w.heap.size (.slice Aix10x1 (((dealS (setT a0.toNat) a2 i).b).length) cix10x1) ((dealS (setT a0.toNat) a2 i).b) Fix10x1 :: blk g_31 #[.slice Aix10x0 (((dealS (setT a0.toNat) a2 i).a).length) cix10x0, .slice Aix10x1 (((dealS (setT a0.toNat) a2 i).b).length) cix10x1] 85 :: row k82 82 w.heap.size (.slice A_17 ((setT a0.toNat).length) c_18) (setT a0.toNat) F_19 :: cs)) (by kernel_rfl) (by kernel_rfl) (fun d _ _ _ _ h => by cases d <;> exact h) (fun W h => h.drew) hp ?_
            refine preI_read rfl ?_
            refine sxq_val 46 (.int .i64 (i : Int)) (by rfl) (fun W _ => (by kernel_rfl)) ?_
            refine sxq_nil ?_
            refine preI_read rfl ?_
            refine sxq_val 47 (.int .i64 ((i : Int) % 2)) (by rfl) (fun W _ => (rem_ok (by omega) (by kernel_rfl))) ?_
            refine sxq_nil ?_
            refine preI_read rfl ?_
            refine sxq_val 48 (.int .i64 (i : Int)) (by rfl) (fun W _ => (by kernel_rfl)) ?_
            refine sxq_nil ?_
            refine preI_read rfl ?_
            refine sxq_val 49 (.int .i64 ((i : Int) % 2)) (by rfl) (fun W _ => (rem_ok (by omega) (by kernel_rfl))) ?_
            refine sxq_nil ?_
            refine preI_read rfl ?_
            refine sxq_val 50 (.pointer (some ⟨g_31, 0, none⟩)) (by rfl) (fun W _ => (ixa_run 0 (t := 85) (by rfl) (by rfl) (by rfl) c_39 Try.underlying85 (by decide) (by decide) 1 (by kernel_rfl))) ?_
            refine sxq_nil ?_
            refine preI_read rfl ?_
            refine sxq_val 52 (.slice Ai9 (((dealS (setT a0.toNat) a2 i).left).length) ci9) (by rfl) (fun W _ => (by kernel_rfl)) ?_
            refine sxq_nil ?_
            refine preI_read rfl ?_
            refine sxq_val 53 (.int .i64 ((dealI (dealS (setT a0.toNat) a2 i) : Nat) : Int)) (by rfl) (fun W _ => (by kernel_rfl)) ?_
            refine sxq_nil ?_
            refine preI_nil ?_
            intro W_40 hp
            refine treeI_rd rfl ?_
            refine sxq_val 51 (.slice Aix10x0 (((dealS (setT a0.toNat) a2 i).a).length) cix10x0) (by rfl) (fun W hp => (ld1 (t := 37) (p := (.tmp 50)) (by rfl) (by rfl) (by kernel_rfl) (hp.cell 3 (by rfl) 0 _ (by rfl)))) ?_
            refine sxq_nil ?_
            refine treeI_rd rfl ?_
            refine sxq_val 54 (.pointer (some (adr Ai9 ((dealI (dealS (setT a0.toNat) a2 i) : Nat) : Int) 2))) (by rfl) (fun W hp => (ix_run (d := k82) (row_C (hp.at_ 0 _ (by rfl))) (t := 37) (by rfl) (by rfl) (by rfl) Try.underlying37 (by kernel_rfl) (by omega) (by omega))) ?_
            refine sxq_nil ?_
            refine treeI_rd rfl ?_
            refine sxq_val 55 (.agg #[.int .i64 ((rd_Tile ((dealS (setT a0.toNat) a2 i).left) ((dealI (dealS (setT a0.toNat) a2 i) : Nat) : Int)).f0), .int .i64 ((rd_Tile ((dealS (setT a0.toNat) a2 i).left) ((dealI (dealS (setT a0.toNat) a2 i) : Nat) : Int)).f1)]) (by rfl) (fun W hp => (el_run (d := k82) (row_C (hp.at_ 0 _ (by rfl))) z82 ((dealI (dealS (setT a0.toNat) a2 i) : Nat) : Int) (by omega) (by omega) (cells := [.int .i64 ((rd_Tile ((dealS (setT a0.toNat) a2 i).left) ((dealI (dealS (setT a0.toNat) a2 i) : Nat) : Int)).f0), .int .i64 ((rd_Tile ((dealS (setT a0.toNat) a2 i).left) ((dealI (dealS (setT a0.toNat) a2 i) : Nat) : Int)).f1)]) (fun cs h => k82_open h) 0 [.int .i64 ((rd_Tile ((dealS (setT a0.toNat) a2 i).left) ((dealI (dealS (setT a0.toNat) a2 i) : Nat) : Int)).f0), .int .i64 ((rd_Tile ((dealS (setT a0.toNat) a2 i).left) ((dealI (dealS (setT a0.toNat) a2 i) : Nat) : Int)).f1)] (by rfl) (t := 82) (p := (.tmp 54)) (by rfl) (by rfl) (by kernel_rfl) (by kernel_rfl))) ?_
            refine sxq_nil ?_
            refine treeI_ev rfl ?_
            refine sx_lit 56 (by rfl) k82 w.heap.size 82 ([(rd_Tile ((dealS (setT a0.toNat) a2 i).left) ((dealI (dealS (setT a0.toNat) a2 i) : Nat) : Int))]) [.int .i64 ((rd_Tile ((dealS (setT a0.toNat) a2 i).left) ((dealI (dealS (setT a0.toNat) a2 i) : Nat) : Int)).f0), .int .i64 ((rd_Tile ((dealS (setT a0.toNat) a2 i).left) ((dealI (dealS (setT a0.toNat) a2 i) : Nat) : Int)).f1)] (fun W => by kernel_rfl) (tile_reps _ _ _) (by simp) hp.size hp ?_
            intro g_41 F_42 W_43 hp hz; clear hz
            refine step_fin hp.tail ?_
            refine treeI_fin ?_
            refine tail_of [11, 12, 13] (by rfl) ?_
            refine tailI_op rfl ?_
            refine sx_append 57 (by rfl) k82 2 (by rfl) (.agg #[.int .i64 0, .int .i64 0]) 16 (by rfl) Try.underlying37 (by kernel_rfl) rfl (by decide) (by decide) ([(rd_Tile ((dealS (setT a0.toNat) a2 i).left) ((dealI (dealS (setT a0.toNat) a2 i) : Nat) : Int))]) (by rfl) (by rfl) (row_C (hp.at_ 0 _ (by rfl))) tile_kp hp.size (by first | omega | (simp; omega)) hp ?_
            intro A_44 c_45 F_46 W_47 hp hz; clear hz; simp only [List.set_cons_succ, List.set_cons_zero] at hp
            refine tailI_next ?_
            refine tailI_op rfl ?_
            refine sx_rd 58 (.pointer (some ⟨g_31, 0, none⟩)) (by rfl) (ixa_run 0 (t := 85) (by rfl) (by rfl) (by rfl) c_39 Try.underlying85 (by decide) (by decide) 1 (by kernel_rfl)) ?_
            refine tailI_next ?_
            refine tailI_op rfl ?_
            refine sx_store (t := 37) (p := (.tmp 58)) (x := (.tmp 57)) (by rfl) (by rfl) 4 (by rfl) 0 [.slice A_44 (((dealS (setT a0.toNat) a2 i).a ++ [(rd_Tile ((dealS (setT a0.toNat) a2 i).left) ((dealI (dealS (setT a0.toNat) a2 i) : Nat) : Int))]).length) c_45] (by rfl) (by rfl) (by kernel_rfl) (by simp [Value.oneCell']) (by show 1 ≤ 2; omega) #[.slice A_44 (((dealS (setT a0.toNat) a2 i).a ++ [(rd_Tile ((dealS (setT a0.toNat) a2 i).left) ((dealI (dealS (setT a0.toNat) a2 i) : Nat) : Int))]).length) c_45, .slice Aix10x1 (((dealS (setT a0.toNat) a2 i).b).length) cix10x1] (by rfl) hp ?_
            intro W_48 hp; simp only [List.set_cons_succ, List.set_cons_zero] at hp
            refine tailI_next ?_
            refine tailI_nil ?_
            refine ex_then_n ?_
            refine sx_region ?_
            refine sx_rd 59 (.slice Ai9 (((dealS (setT a0.toNat) a2 i).left).length) ci9) (by rfl) (by kernel_rfl) ?_
            refine sx_rd 60 (.int .i64 ((dealI (dealS (setT a0.toNat) a2 i) : Nat) : Int)) (by rfl) (by kernel_rfl) ?_
            refine sx_rd 61 (.int .i64 ((dealI (dealS (setT a0.toNat) a2 i) : Nat) : Int)) (by rfl) (by kernel_rfl) ?_
            refine sx_rd 62 (.int .i64 (((dealI (dealS (setT a0.toNat) a2 i) : Nat) : Int) + 1)) (by rfl) (wr_ok (by omega) (by kernel_rfl)) ?_
            have hp := hp.take [1, 0, 2, 3, 4, 5] 6 (by decide) (by simp)
            refine sx_call 63 (by rfl) (by kernel_rfl) ((delete_sx hp (dealI (dealS (setT a0.toNat) a2 i)) hIlt (by omega)).mono ?_)
            rintro _ W_50 ⟨F_49, rfl, hp⟩
            refine ⟨_, rfl, ?_⟩
            refine sx_rd 9 (.slice Ai9 (((dealS (setT a0.toNat) a2 i).left.eraseIdx (dealI (dealS (setT a0.toNat) a2 i))).length) ci9) (by rfl) (by kernel_rfl) ?_
            refine sx_nil ?_
            refine ex_blk_n ?_
            refine ex_then_n ?_
            refine sx_region ?_
            refine sx_rd 64 (.int .i64 ((i : Int) + 1)) (by rfl) (wr_ok (by omega) (by kernel_rfl)) ?_
            refine sx_rd 35 (.int .i64 ((i : Int) + 1)) (by rfl) (by kernel_rfl) ?_
            refine sx_nil ?_
            refine ex_then_n ?_
            have hq_51 : ((((dealS (setT a0.toNat) a2 i).z * 163) + 229) % 10007) = (dealS (setT a0.toNat) a2 (i + 1)).z := by rw [show (dealS (setT a0.toNat) a2 (i + 1)) = dealStep i (dealS (setT a0.toNat) a2 i) from rfl]; simp only [dealStep, dealT] <;> first | rfl | (rw [if_pos (by omega)]; rfl) | (rw [if_neg (by omega)]; rfl) | (rw [if_pos (by omega)]) | (rw [if_neg (by omega)])
            have hq_52 : ((dealS (setT a0.toNat) a2 i).left.eraseIdx (dealI (dealS (setT a0.toNat) a2 i))) = (dealS (setT a0.toNat) a2 (i + 1)).left := by rw [show (dealS (setT a0.toNat) a2 (i + 1)) = dealStep i (dealS (setT a0.toNat) a2 i) from rfl]; simp only [dealStep, dealT] <;> first | rfl | (rw [if_pos (by omega)]; rfl) | (rw [if_neg (by omega)]; rfl) | (rw [if_pos (by omega)]) | (rw [if_neg (by omega)])
            rw [hq_52] at hp
            have hq_53 : ((dealS (setT a0.toNat) a2 i).a ++ [(rd_Tile ((dealS (setT a0.toNat) a2 i).left) ((dealI (dealS (setT a0.toNat) a2 i) : Nat) : Int))]) = (dealS (setT a0.toNat) a2 (i + 1)).a := by rw [show (dealS (setT a0.toNat) a2 (i + 1)) = dealStep i (dealS (setT a0.toNat) a2 i) from rfl]; simp only [dealStep, dealT] <;> first | rfl | (rw [if_pos (by omega)]; rfl) | (rw [if_neg (by omega)]; rfl) | (rw [if_pos (by omega)]) | (rw [if_neg (by omega)])
            rw [hq_53] at hp
            have hq_54 : (dealS (setT a0.toNat) a2 i).b = (dealS (setT a0.toNat) a2 (i + 1)).b := by rw [show (dealS (setT a0.toNat) a2 (i + 1)) = dealStep i (dealS (setT a0.toNat) a2 i) from rfl]; simp only [dealStep, dealT] <;> first | rfl | (rw [if_pos (by omega)]; rfl) | (rw [if_neg (by omega)]; rfl) | (rw [if_pos (by omega)]) | (rw [if_neg (by omega)])
            rw [hq_54] at hp
            exact ⟨_, (by omega), _, (i + 1), _, _, _, _, _, _, _, _, _, _, _, _, rfl, fr_front [(2, .int .i64 ((dealS (setT a0.toNat) a2 (i + 1)).z)), (9, .slice Ai9 (((dealS (setT a0.toNat) a2 (i + 1)).left).length) ci9), (10, .pointer (some ⟨g_31, 0, none⟩)), (34, .int .i64 (2 * a1)), (35, .int .i64 ((i + 1 : Nat) : Int))] ⟨congrArg (Value.int .i64) hq_51, congrArg (fun z : List S_Tile => Value.slice Ai9 z.length ci9) hq_52, rfl, rfl, rfl, trivial⟩, (hp.take [0, 2, 3, 4, 5] 6 (by decide) (by simp)), (by omega)⟩
          ·
            refine sx_drawT [0, 1, 2, 3, 4, 6, 7] (.rd 5 (.rd 8 (.rd 9 (.alt 10 (.fin) .non)))) 11 (C := Hp w (row k82 82 w.heap.size (.slice Ai9 (((dealS (setT a0.toNat) a2 i).left).length) ci9) ((dealS (setT a0.toNat) a2 i).left) Fi9 :: row k82 82 w.heap.size (.slice Aix10x0 (((dealS (setT a0.toNat) a2 i).a).length) cix10x0) ((dealS (setT a0.toNat) a2 i).a) Fix10x0 :: row k82 82 w.heap.size (.slice Aix10x1 (((dealS (setT a0.toNat) a2 i).b).length) cix10x1) ((dealS (setT a0.toNat) a2 i).b) Fix10x1 :: blk g_31 #[.slice Aix10x0 (((dealS (setT a0.toNat) a2 i).a).length) cix10x0, .slice Aix10x1 (((dealS (setT a0.toNat) a2 i).b).length) cix10x1] 85 :: row k82 82 w.heap.size (.slice A_17 ((setT a0.toNat).length) c_18) (setT a0.toNat) F_19 :: cs)) (by kernel_rfl) (by kernel_rfl) (fun d _ _ _ _ h => by cases d <;> exact h) (fun W h => h.drew) hp ?_
            refine preI_read rfl ?_
            refine sxq_val 46 (.int .i64 (i : Int)) (by rfl) (fun W _ => (by kernel_rfl)) ?_
            refine sxq_nil ?_
            refine preI_read rfl ?_
            refine sxq_val 47 (.int .i64 ((i : Int) % 2)) (by rfl) (fun W _ => (rem_ok (by omega) (by kernel_rfl))) ?_
            refine sxq_nil ?_
            refine preI_read rfl ?_
            refine sxq_val 48 (.int .i64 (i : Int)) (by rfl) (fun W _ => (by kernel_rfl)) ?_
            refine sxq_nil ?_
            refine preI_read rfl ?_
            refine sxq_val 49 (.int .i64 ((i : Int) % 2)) (by rfl) (fun W _ => (rem_ok (by omega) (by kernel_rfl))) ?_
            refine sxq_nil ?_
            refine preI_read rfl ?_
            refine sxq_val 50 (.pointer (some ⟨g_31, 1, none⟩)) (by rfl) (fun W _ => (ixa_run 1 (t := 85) (by rfl) (by rfl) (by rfl) c_39 Try.underlying85 (by decide) (by decide) 1 (by kernel_rfl))) ?_
            refine sxq_nil ?_
            refine preI_read rfl ?_
            refine sxq_val 52 (.slice Ai9 (((dealS (setT a0.toNat) a2 i).left).length) ci9) (by rfl) (fun W _ => (by kernel_rfl)) ?_
            refine sxq_nil ?_
            refine preI_read rfl ?_
            refine sxq_val 53 (.int .i64 ((dealI (dealS (setT a0.toNat) a2 i) : Nat) : Int)) (by rfl) (fun W _ => (by kernel_rfl)) ?_
            refine sxq_nil ?_
            refine preI_nil ?_
            intro W_55 hp
            refine treeI_rd rfl ?_
            refine sxq_val 51 (.slice Aix10x1 (((dealS (setT a0.toNat) a2 i).b).length) cix10x1) (by rfl) (fun W hp => (ld1 (t := 37) (p := (.tmp 50)) (by rfl) (by rfl) (by kernel_rfl) (hp.cell 3 (by rfl) 1 _ (by rfl)))) ?_
            refine sxq_nil ?_
            refine treeI_rd rfl ?_
            refine sxq_val 54 (.pointer (some (adr Ai9 ((dealI (dealS (setT a0.toNat) a2 i) : Nat) : Int) 2))) (by rfl) (fun W hp => (ix_run (d := k82) (row_C (hp.at_ 0 _ (by rfl))) (t := 37) (by rfl) (by rfl) (by rfl) Try.underlying37 (by kernel_rfl) (by omega) (by omega))) ?_
            refine sxq_nil ?_
            refine treeI_rd rfl ?_
            refine sxq_val 55 (.agg #[.int .i64 ((rd_Tile ((dealS (setT a0.toNat) a2 i).left) ((dealI (dealS (setT a0.toNat) a2 i) : Nat) : Int)).f0), .int .i64 ((rd_Tile ((dealS (setT a0.toNat) a2 i).left) ((dealI (dealS (setT a0.toNat) a2 i) : Nat) : Int)).f1)]) (by rfl) (fun W hp => (el_run (d := k82) (row_C (hp.at_ 0 _ (by rfl))) z82 ((dealI (dealS (setT a0.toNat) a2 i) : Nat) : Int) (by omega) (by omega) (cells := [.int .i64 ((rd_Tile ((dealS (setT a0.toNat) a2 i).left) ((dealI (dealS (setT a0.toNat) a2 i) : Nat) : Int)).f0), .int .i64 ((rd_Tile ((dealS (setT a0.toNat) a2 i).left) ((dealI (dealS (setT a0.toNat) a2 i) : Nat) : Int)).f1)]) (fun cs h => k82_open h) 0 [.int .i64 ((rd_Tile ((dealS (setT a0.toNat) a2 i).left) ((dealI (dealS (setT a0.toNat) a2 i) : Nat) : Int)).f0), .int .i64 ((rd_Tile ((dealS (setT a0.toNat) a2 i).left) ((dealI (dealS (setT a0.toNat) a2 i) : Nat) : Int)).f1)] (by rfl) (t := 82) (p := (.tmp 54)) (by rfl) (by rfl) (by kernel_rfl) (by kernel_rfl))) ?_
            refine sxq_nil ?_
            refine treeI_ev rfl ?_
            refine sx_lit 56 (by rfl) k82 w.heap.size 82 ([(rd_Tile ((dealS (setT a0.toNat) a2 i).left) ((dealI (dealS (setT a0.toNat) a2 i) : Nat) : Int))]) [.int .i64 ((rd_Tile ((dealS (setT a0.toNat) a2 i).left) ((dealI (dealS (setT a0.toNat) a2 i) : Nat) : Int)).f0), .int .i64 ((rd_Tile ((dealS (setT a0.toNat) a2 i).left) ((dealI (dealS (setT a0.toNat) a2 i) : Nat) : Int)).f1)] (fun W => by kernel_rfl) (tile_reps _ _ _) (by simp) hp.size hp ?_
            intro g_56 F_57 W_58 hp hz; clear hz
            refine step_fin hp.tail ?_
            refine treeI_fin ?_
            refine tail_of [11, 12, 13] (by rfl) ?_
            refine tailI_op rfl ?_
            refine sx_append 57 (by rfl) k82 3 (by rfl) (.agg #[.int .i64 0, .int .i64 0]) 16 (by rfl) Try.underlying37 (by kernel_rfl) rfl (by decide) (by decide) ([(rd_Tile ((dealS (setT a0.toNat) a2 i).left) ((dealI (dealS (setT a0.toNat) a2 i) : Nat) : Int))]) (by rfl) (by rfl) (row_C (hp.at_ 0 _ (by rfl))) tile_kp hp.size (by first | omega | (simp; omega)) hp ?_
            intro A_59 c_60 F_61 W_62 hp hz; clear hz; simp only [List.set_cons_succ, List.set_cons_zero] at hp
            refine tailI_next ?_
            refine tailI_op rfl ?_
            refine sx_rd 58 (.pointer (some ⟨g_31, 1, none⟩)) (by rfl) (ixa_run 1 (t := 85) (by rfl) (by rfl) (by rfl) c_39 Try.underlying85 (by decide) (by decide) 1 (by kernel_rfl)) ?_
            refine tailI_next ?_
            refine tailI_op rfl ?_
            refine sx_store (t := 37) (p := (.tmp 58)) (x := (.tmp 57)) (by rfl) (by rfl) 4 (by rfl) 1 [.slice A_59 (((dealS (setT a0.toNat) a2 i).b ++ [(rd_Tile ((dealS (setT a0.toNat) a2 i).left) ((dealI (dealS (setT a0.toNat) a2 i) : Nat) : Int))]).length) c_60] (by rfl) (by rfl) (by kernel_rfl) (by simp [Value.oneCell']) (by show 2 ≤ 2; omega) #[.slice Aix10x0 (((dealS (setT a0.toNat) a2 i).a).length) cix10x0, .slice A_59 (((dealS (setT a0.toNat) a2 i).b ++ [(rd_Tile ((dealS (setT a0.toNat) a2 i).left) ((dealI (dealS (setT a0.toNat) a2 i) : Nat) : Int))]).length) c_60] (by rfl) hp ?_
            intro W_63 hp; simp only [List.set_cons_succ, List.set_cons_zero] at hp
            refine tailI_next ?_
            refine tailI_nil ?_
            refine ex_then_n ?_
            refine sx_region ?_
            refine sx_rd 59 (.slice Ai9 (((dealS (setT a0.toNat) a2 i).left).length) ci9) (by rfl) (by kernel_rfl) ?_
            refine sx_rd 60 (.int .i64 ((dealI (dealS (setT a0.toNat) a2 i) : Nat) : Int)) (by rfl) (by kernel_rfl) ?_
            refine sx_rd 61 (.int .i64 ((dealI (dealS (setT a0.toNat) a2 i) : Nat) : Int)) (by rfl) (by kernel_rfl) ?_
            refine sx_rd 62 (.int .i64 (((dealI (dealS (setT a0.toNat) a2 i) : Nat) : Int) + 1)) (by rfl) (wr_ok (by omega) (by kernel_rfl)) ?_
            have hp := hp.take [1, 0, 2, 3, 4, 5] 6 (by decide) (by simp)
            refine sx_call 63 (by rfl) (by kernel_rfl) ((delete_sx hp (dealI (dealS (setT a0.toNat) a2 i)) hIlt (by omega)).mono ?_)
            rintro _ W_65 ⟨F_64, rfl, hp⟩
            refine ⟨_, rfl, ?_⟩
            refine sx_rd 9 (.slice Ai9 (((dealS (setT a0.toNat) a2 i).left.eraseIdx (dealI (dealS (setT a0.toNat) a2 i))).length) ci9) (by rfl) (by kernel_rfl) ?_
            refine sx_nil ?_
            refine ex_blk_n ?_
            refine ex_then_n ?_
            refine sx_region ?_
            refine sx_rd 64 (.int .i64 ((i : Int) + 1)) (by rfl) (wr_ok (by omega) (by kernel_rfl)) ?_
            refine sx_rd 35 (.int .i64 ((i : Int) + 1)) (by rfl) (by kernel_rfl) ?_
            refine sx_nil ?_
            refine ex_then_n ?_
            have hq_66 : ((((dealS (setT a0.toNat) a2 i).z * 163) + 229) % 10007) = (dealS (setT a0.toNat) a2 (i + 1)).z := by rw [show (dealS (setT a0.toNat) a2 (i + 1)) = dealStep i (dealS (setT a0.toNat) a2 i) from rfl]; simp only [dealStep, dealT] <;> first | rfl | (rw [if_pos (by omega)]; rfl) | (rw [if_neg (by omega)]; rfl) | (rw [if_pos (by omega)]) | (rw [if_neg (by omega)])
            have hq_67 : ((dealS (setT a0.toNat) a2 i).left.eraseIdx (dealI (dealS (setT a0.toNat) a2 i))) = (dealS (setT a0.toNat) a2 (i + 1)).left := by rw [show (dealS (setT a0.toNat) a2 (i + 1)) = dealStep i (dealS (setT a0.toNat) a2 i) from rfl]; simp only [dealStep, dealT] <;> first | rfl | (rw [if_pos (by omega)]; rfl) | (rw [if_neg (by omega)]; rfl) | (rw [if_pos (by omega)]) | (rw [if_neg (by omega)])
            rw [hq_67] at hp
            have hq_68 : (dealS (setT a0.toNat) a2 i).a = (dealS (setT a0.toNat) a2 (i + 1)).a := by rw [show (dealS (setT a0.toNat) a2 (i + 1)) = dealStep i (dealS (setT a0.toNat) a2 i) from rfl]; simp only [dealStep, dealT] <;> first | rfl | (rw [if_pos (by omega)]; rfl) | (rw [if_neg (by omega)]; rfl) | (rw [if_pos (by omega)]) | (rw [if_neg (by omega)])
            rw [hq_68] at hp
            have hq_69 : ((dealS (setT a0.toNat) a2 i).b ++ [(rd_Tile ((dealS (setT a0.toNat) a2 i).left) ((dealI (dealS (setT a0.toNat) a2 i) : Nat) : Int))]) = (dealS (setT a0.toNat) a2 (i + 1)).b := by rw [show (dealS (setT a0.toNat) a2 (i + 1)) = dealStep i (dealS (setT a0.toNat) a2 i) from rfl]; simp only [dealStep, dealT] <;> first | rfl | (rw [if_pos (by omega)]; rfl) | (rw [if_neg (by omega)]; rfl) | (rw [if_pos (by omega)]) | (rw [if_neg (by omega)])
            rw [hq_69] at hp
            exact ⟨_, (by omega), _, (i + 1), _, _, _, _, _, _, _, _, _, _, _, _, rfl, fr_front [(2, .int .i64 ((dealS (setT a0.toNat) a2 (i + 1)).z)), (9, .slice Ai9 (((dealS (setT a0.toNat) a2 (i + 1)).left).length) ci9), (10, .pointer (some ⟨g_31, 0, none⟩)), (34, .int .i64 (2 * a1)), (35, .int .i64 ((i + 1 : Nat) : Int))] ⟨congrArg (Value.int .i64) hq_66, congrArg (fun z : List S_Tile => Value.slice Ai9 z.length ci9) hq_67, rfl, rfl, rfl, trivial⟩, (hp.take [0, 2, 3, 4, 5] 6 (by decide) (by simp)), (by omega)⟩
        ·
          have c_38p := of_decide_eq_false c_38
          refine wp_exit ?_
          refine ex_then_e (ex_then_e (ex_blk_here ?_))
          refine ex_then_n ?_
          refine wp_seq ?_
          refine sx_drawT [0, 3] (.rd 1 (.rd 4 (.alt 2 (.alt 5 (.rd 6 (.rd 7 (.rd 8 (.fin)))) .non) .non))) 9 (C := Hp w (row k82 82 w.heap.size (.slice Ai9 (((dealS (setT a0.toNat) a2 i).left).length) ci9) ((dealS (setT a0.toNat) a2 i).left) Fi9 :: row k82 82 w.heap.size (.slice Aix10x0 (((dealS (setT a0.toNat) a2 i).a).length) cix10x0) ((dealS (setT a0.toNat) a2 i).a) Fix10x0 :: row k82 82 w.heap.size (.slice Aix10x1 (((dealS (setT a0.toNat) a2 i).b).length) cix10x1) ((dealS (setT a0.toNat) a2 i).b) Fix10x1 :: blk g_31 #[.slice Aix10x0 (((dealS (setT a0.toNat) a2 i).a).length) cix10x0, .slice Aix10x1 (((dealS (setT a0.toNat) a2 i).b).length) cix10x1] 85 :: row k82 82 w.heap.size (.slice A_17 ((setT a0.toNat).length) c_18) (setT a0.toNat) F_19 :: cs)) (by kernel_rfl) (by kernel_rfl) (fun d _ _ _ _ h => by cases d <;> exact h) (fun W h => h.drew) hp ?_
          refine preI_read rfl ?_
          refine sxq_val 65 (.pointer (some ⟨g_31, 0, none⟩)) (by rfl) (fun W _ => (by kernel_rfl)) ?_
          refine sxq_nil ?_
          refine preI_read rfl ?_
          refine sxq_val 68 (.pointer (some ⟨g_31, 1, none⟩)) (by rfl) (fun W _ => (by kernel_rfl)) ?_
          refine sxq_nil ?_
          refine preI_nil ?_
          intro W_70 hp
          refine treeI_rd rfl ?_
          refine sxq_val 66 (.slice Aix10x0 (((dealS (setT a0.toNat) a2 i).a).length) cix10x0) (by rfl) (fun W hp => (ld1 (t := 37) (p := (.tmp 65)) (by rfl) (by rfl) (by kernel_rfl) (hp.cell 3 (by rfl) 0 _ (by rfl)))) ?_
          refine sxq_nil ?_
          refine treeI_rd rfl ?_
          refine sxq_val 69 (.slice Aix10x1 (((dealS (setT a0.toNat) a2 i).b).length) cix10x1) (by rfl) (fun W hp => (ld1 (t := 37) (p := (.tmp 68)) (by rfl) (by rfl) (by kernel_rfl) (hp.cell 3 (by rfl) 1 _ (by rfl)))) ?_
          refine sxq_nil ?_
          refine treeI_ev rfl ?_
          refine sx_call 67 (by rfl) (by kernel_rfl) ((impl_sorted.calls Aix10x0 cix10x0 ((dealS (setT a0.toNat) a2 i).a) _ _ (row_C (hp.at_ 1 _ (by rfl))) (row_len (hp.at_ 1 _ (by rfl))).2 ((deal_sorted a0.toNat hok.1 a2 i (by omega)).1)).mono ?_)
          rintro _ W_76 ⟨v_72, rfl, hR_71, hb⟩
          refine ⟨_, rfl, ?_⟩
          obtain ⟨A_73, c_74, rfl, hcc_c_74, _⟩ := Kd.R_reads hR_71
          obtain ⟨F_75, hp⟩ : ∃ F, Hp w (row k82 82 w.heap.size (.slice A_73 (sortT (dealS (setT a0.toNat) a2 i).a).length c_74) (sortT (dealS (setT a0.toNat) a2 i).a) F :: row k82 82 w.heap.size (.slice Ai9 (((dealS (setT a0.toNat) a2 i).left).length) ci9) ((dealS (setT a0.toNat) a2 i).left) Fi9 :: row k82 82 w.heap.size (.slice Aix10x0 (((dealS (setT a0.toNat) a2 i).a).length) cix10x0) ((dealS (setT a0.toNat) a2 i).a) Fix10x0 :: row k82 82 w.heap.size (.slice Aix10x1 (((dealS (setT a0.toNat) a2 i).b).length) cix10x1) ((dealS (setT a0.toNat) a2 i).b) Fix10x1 :: blk g_31 #[.slice Aix10x0 (((dealS (setT a0.toNat) a2 i).a).length) cix10x0, .slice Aix10x1 (((dealS (setT a0.toNat) a2 i).b).length) cix10x1] 85 :: row k82 82 w.heap.size (.slice A_17 ((setT a0.toNat).length) c_18) (setT a0.toNat) F_19 :: cs) _ := ⟨_, Hp.made hp hb hR_71⟩
          refine step_fin hp.tail ?_
          refine treeI_ev rfl ?_
          refine sx_call 70 (by rfl) (by kernel_rfl) ((impl_sorted.calls Aix10x1 cix10x1 ((dealS (setT a0.toNat) a2 i).b) _ _ (row_C (hp.at_ 3 _ (by rfl))) (row_len (hp.at_ 3 _ (by rfl))).2 ((deal_sorted a0.toNat hok.1 a2 i (by omega)).2)).mono ?_)
          rintro _ W_82 ⟨v_78, rfl, hR_77, hb⟩
          refine ⟨_, rfl, ?_⟩
          obtain ⟨A_79, c_80, rfl, hcc_c_80, _⟩ := Kd.R_reads hR_77
          obtain ⟨F_81, hp⟩ : ∃ F, Hp w (row k82 82 w.heap.size (.slice A_79 (sortT (dealS (setT a0.toNat) a2 i).b).length c_80) (sortT (dealS (setT a0.toNat) a2 i).b) F :: row k82 82 w.heap.size (.slice A_73 ((sortT (dealS (setT a0.toNat) a2 i).a).length) c_74) (sortT (dealS (setT a0.toNat) a2 i).a) F_75 :: row k82 82 w.heap.size (.slice Ai9 (((dealS (setT a0.toNat) a2 i).left).length) ci9) ((dealS (setT a0.toNat) a2 i).left) Fi9 :: row k82 82 w.heap.size (.slice Aix10x0 (((dealS (setT a0.toNat) a2 i).a).length) cix10x0) ((dealS (setT a0.toNat) a2 i).a) Fix10x0 :: row k82 82 w.heap.size (.slice Aix10x1 (((dealS (setT a0.toNat) a2 i).b).length) cix10x1) ((dealS (setT a0.toNat) a2 i).b) Fix10x1 :: blk g_31 #[.slice Aix10x0 (((dealS (setT a0.toNat) a2 i).a).length) cix10x0, .slice Aix10x1 (((dealS (setT a0.toNat) a2 i).b).length) cix10x1] 85 :: row k82 82 w.heap.size (.slice A_17 ((setT a0.toNat).length) c_18) (setT a0.toNat) F_19 :: cs) _ := ⟨_, Hp.made hp hb hR_77⟩
          refine step_fin hp.tail.tail ?_
          refine treeI_rd rfl ?_
          refine sxq_val 6 (.slice A_73 ((sortT (dealS (setT a0.toNat) a2 i).a).length) c_74) (by rfl) (fun W hp => (by kernel_rfl)) ?_
          refine sxq_nil ?_
          refine treeI_rd rfl ?_
          refine sxq_val 7 (.slice A_79 ((sortT (dealS (setT a0.toNat) a2 i).b).length) c_80) (by rfl) (fun W hp => (by kernel_rfl)) ?_
          refine sxq_nil ?_
          refine treeI_rd rfl ?_
          refine sxq_val 8 (.bool true) (by rfl) (fun W hp => (by kernel_rfl)) ?_
          refine sxq_nil ?_
          refine treeI_fin ?_
          refine sx_nil ?_
          refine ex_then_n ?_
          refine wp_ret ?_
          refine sx_end (.tuple #[.slice A_73 ((sortT (dealS (setT a0.toNat) a2 i).a).length) c_74, .slice A_79 ((sortT (dealS (setT a0.toNat) a2 i).b).length) c_80, .bool true]) (res3 6 7 8 (by rfl)) ?_
          obtain rfl : i = (2 * a1).toNat := by omega
          rw [if_pos hok0] at h; obtain ⟨rfl, rfl, rfl⟩ := (by simpa using h : _ ∧ _ ∧ _)
          exact ⟨_, _, rfl, Kd.R_mono (row_R (hp.at_ 1 _ (by rfl))) (fun k_ hk_ => Hp.apart_rows hp 1 0 (by decide) (by rfl) (by rfl) k_ hk_), Kd.R_mono (row_R (hp.at_ 0 _ (by rfl))) (fun k_ hk_ => Hp.apart_rows hp 0 1 (by decide) (by rfl) (by rfl) k_ hk_), hc2 _ (hp.tail.tail.tail.tail.tail.tail.tail)⟩
end Go.Proofs.Ytdcjapdkbocgmaa.Hd
