/- spec.DealHands, by hand. -/
import Derived.Test.YtdcjapdkbocgmaaPDealB
import Derived.Test.YtdcjapdkbocgmaaMSx4
import Derived.Test.YtdcjapdkbocgmaaMTileR
import Derived.Test.YtdcjapdkbocgmaaG0
namespace Go.Proofs.Ytdcjapdkbocgmaa.Hd
open Go.RowKit Go.Proofs.Ytdcjapdkbocgmaa.Pure Go.Proofs.YtdcjapdkbocgmaaW.PrintWords Go.Proofs.YtdcjapdkbocgmaaW.PrintLast Go.Proofs.YtdcjapdkbocgmaaW.PrintMore
set_option linter.unusedVariables false
set_option linter.unusedSimpArgs false
theorem mul_110 {a : Int} (h0 : 0 ≤ a) (h1 : a ≤ 9) : (a + 1) * (a + 2) ≤ 110 := by
  have h2 : (a + 1) * (a + 2) ≤ 10 * 11 := Int.mul_le_mul (by omega) (by omega) (by omega) (by omega)
  omega
def spec_DealHands.f (n e z : Int) : Option (List S_Tile × List S_Tile × Bool) := some (resDealHands n e z)
set_option maxRecDepth 100000 in
set_option maxHeartbeats 40000000 in
theorem spec_DealHands.calls (a0 : Int) (a1 : Int) (a2 : Int) (r0 : List S_Tile) (r1 : List S_Tile) (r2 : Bool) (w : World)  (h : spec_DealHands.f a0 a1 a2 = some (r0, r1, r2)) :
    Calls Try.prog 26 #[.int .i64 a0, .int .i64 a1, .int .i64 a2] w fun e w' => ∃ v0_ v1_ : Value, e = .returned (.tuple #[v0_, v1_, .bool r2]) ∧ Kd.R k82 82 w' w.heap.size (fun k_ => some k_ ≠ (v1_ : Value).ownBlock) v0_ r0 ∧ Kd.R k82 82 w' w.heap.size (fun k_ => some k_ ≠ (v0_ : Value).ownBlock) v1_ r1 ∧ Below w.heap.size w w' := by
  unfold spec_DealHands.f resDealHands at h
  obtain ⟨cs, hcs⟩ : ∃ cs, cs = [old w w.heap.size] := ⟨_, rfl⟩
  have hp : Hp w cs w := by rw [hcs]; exact Hp.old_start w
  have hc2 : ∀ W, Hp w cs W → Below w.heap.size w W := fun W h => by rw [hcs] at h; exact h.since 0 _ rfl
  clear hcs
  refine sx_enter (N := 80) (l := [.int .i64 a0, .int .i64 a1, .int .i64 a2]) Try.func26 rfl rfl rfl ?_
  refine wp_seq ?_
  refine sx_region ?_
  refine sx_rd 6 (.slice none 0 0) (by rfl) (by kernel_rfl) ?_
  refine sx_rd 7 (.slice none 0 0) (by rfl) (by kernel_rfl) ?_
  refine sx_rd 8 (.bool false) (by rfl) (by kernel_rfl) ?_
  refine sx_nil ?_
  refine ex_then_n ?_
  refine wp_seq ?_
  refine wp_seq ?_
  rcases Bool.eq_false_or_eq_true (!(inB 0 9 a0)) with c_1 | c_1
  ·
    refine sx_region ?_
    refine sx_rd 14 (.int .i64 a0) (by rfl) (by kernel_rfl) ?_
    refine sx_call 15 (by rfl) (by kernel_rfl) ((spec_tiNumber.calls a0 _ _ (tiNumberD a0)).mono ?_)
    rintro _ W_2 ⟨rfl, hb⟩
    refine ⟨.bool false, congrArg (fun b => Ending.returned (.bool b)) (not_eq c_1), ?_⟩
    replace hp := hp.below hb.below
    clear hb
    refine sx_rd 16 (.bool true) (by rfl) (by kernel_rfl) ?_
    refine sx_rd 17 (.bool true) (by rfl) (by kernel_rfl) ?_
    refine sx_skip 18 (by rfl) (by rfl) (by rfl) ?_
    refine sx_skip 19 (by rfl) (by rfl) (by rfl) ?_
    refine sx_rd 20 (.bool true) (by rfl) (by kernel_rfl) ?_
    refine sx_rd 21 (.bool true) (by rfl) (by kernel_rfl) ?_
    refine sx_skip 22 (by rfl) (by rfl) (by rfl) ?_
    refine sx_skip 23 (by rfl) (by rfl) (by rfl) ?_
    refine sx_rd 24 (.bool true) (by rfl) (by kernel_rfl) ?_
    refine sx_rd 25 (.bool true) (by rfl) (by kernel_rfl) ?_
    refine sx_skip 26 (by rfl) (by rfl) (by rfl) ?_
    refine sx_skip 27 (by rfl) (by rfl) (by rfl) ?_
    refine sx_skip 28 (by rfl) (by rfl) (by rfl) ?_
    refine sx_skip 29 (by rfl) (by rfl) (by rfl) ?_
    refine sx_skip 30 (by rfl) (by rfl) (by rfl) ?_
    refine sx_skip 31 (by rfl) (by rfl) (by rfl) ?_
    refine sx_skip 32 (by rfl) (by rfl) (by rfl) ?_
    refine sx_skip 33 (by rfl) (by rfl) (by rfl) ?_
    refine sx_skip 34 (by rfl) (by rfl) (by rfl) ?_
    refine sx_rd 35 (.bool true) (by rfl) (by kernel_rfl) ?_
    refine sx_rd 36 (.bool true) (by rfl) (by kernel_rfl) ?_
    refine sx_skip 37 (by rfl) (by rfl) (by rfl) ?_
    refine sx_skip 38 (by rfl) (by rfl) (by rfl) ?_
    refine sx_skip 39 (by rfl) (by rfl) (by rfl) ?_
    refine sx_rd 40 (.bool true) (by rfl) (by kernel_rfl) ?_
    refine sx_nil ?_
    refine ex_then_n ?_
    refine sx_then true (by rfl) rfl ?_
    refine wp_seq ?_
    refine sx_region ?_
    refine sx_rd 6 (.slice none 0 0) (by rfl) (by kernel_rfl) ?_
    refine sx_rd 7 (.slice none 0 0) (by rfl) (by kernel_rfl) ?_
    refine sx_rd 8 (.bool false) (by rfl) (by kernel_rfl) ?_
    refine sx_nil ?_
    refine ex_then_n ?_
    refine wp_ret ?_
    refine ex_then_r ?_
    refine sx_end (.tuple #[.slice none 0 0, .slice none 0 0, .bool false]) (res3 6 7 8 (by rfl)) ?_
    rw [if_neg (fun q => by obtain ⟨q1, q2, q3, q4, q5⟩ := okDeal_c q; exact absurd q1 (by rw [(not_eq c_1)]; simp))] at h; simp only [Option.some.injEq, Prod.mk.injEq] at h; obtain ⟨rfl, rfl, rfl⟩ := h
    exact ⟨_, _, rfl, Kd.R_nil _ _ _ _ _, Kd.R_nil _ _ _ _ _, hc2 _ (hp)⟩
  ·
    have hm0 := inB_iff.1 (not_eq c_1)
    have hm1 : 0 ≤ (a0 + 1) * (a0 + 2) := Int.mul_nonneg (by omega) (by omega)
    have hm2 : (a0 + 1) * (a0 + 2) ≤ 110 := mul_110 (by omega) (by omega)
    rcases Bool.eq_false_or_eq_true (decide (a1 < 0)) with c_3 | c_3
    ·
      have c_3p := of_decide_eq_true c_3
      refine sx_region ?_
      refine sx_rd 14 (.int .i64 a0) (by rfl) (by kernel_rfl) ?_
      refine sx_call 15 (by rfl) (by kernel_rfl) ((spec_tiNumber.calls a0 _ _ (tiNumberD a0)).mono ?_)
      rintro _ W_4 ⟨rfl, hb⟩
      refine ⟨.bool true, congrArg (fun b => Ending.returned (.bool b)) (not_eq c_1), ?_⟩
      replace hp := hp.below hb.below
      clear hb
      refine sx_rd 16 (.bool false) (by rfl) (by kernel_rfl) ?_
      refine sx_rd 17 (.bool false) (by rfl) (by kernel_rfl) ?_
      refine sx_want (by rfl) ?_
      refine sx_rd 18 (.int .i64 a1) (by rfl) (by kernel_rfl) ?_
      refine sx_want (by rfl) ?_
      refine sx_rd 19 (.bool true) (by rfl) (bv c_3 (by kernel_rfl)) ?_
      refine sx_rd 20 (.bool true) (by rfl) (by kernel_rfl) ?_
      refine sx_rd 21 (.bool true) (by rfl) (by kernel_rfl) ?_
      refine sx_skip 22 (by rfl) (by rfl) (by rfl) ?_
      refine sx_skip 23 (by rfl) (by rfl) (by rfl) ?_
      refine sx_rd 24 (.bool true) (by rfl) (by kernel_rfl) ?_
      refine sx_rd 25 (.bool true) (by rfl) (by kernel_rfl) ?_
      refine sx_skip 26 (by rfl) (by rfl) (by rfl) ?_
      refine sx_skip 27 (by rfl) (by rfl) (by rfl) ?_
      refine sx_skip 28 (by rfl) (by rfl) (by rfl) ?_
      refine sx_skip 29 (by rfl) (by rfl) (by rfl) ?_
      refine sx_skip 30 (by rfl) (by rfl) (by rfl) ?_
      refine sx_skip 31 (by rfl) (by rfl) (by rfl) ?_
      refine sx_skip 32 (by rfl) (by rfl) (by rfl) ?_
      refine sx_skip 33 (by rfl) (by rfl) (by rfl) ?_
      refine sx_skip 34 (by rfl) (by rfl) (by rfl) ?_
      refine sx_rd 35 (.bool true) (by rfl) (by kernel_rfl) ?_
      refine sx_rd 36 (.bool true) (by rfl) (by kernel_rfl) ?_
      refine sx_skip 37 (by rfl) (by rfl) (by rfl) ?_
      refine sx_skip 38 (by rfl) (by rfl) (by rfl) ?_
      refine sx_skip 39 (by rfl) (by rfl) (by rfl) ?_
      refine sx_rd 40 (.bool true) (by rfl) (by kernel_rfl) ?_
      refine sx_nil ?_
      refine ex_then_n ?_
      refine sx_then true (by rfl) rfl ?_
      refine wp_seq ?_
      refine sx_region ?_
      refine sx_rd 6 (.slice none 0 0) (by rfl) (by kernel_rfl) ?_
      refine sx_rd 7 (.slice none 0 0) (by rfl) (by kernel_rfl) ?_
      refine sx_rd 8 (.bool false) (by rfl) (by kernel_rfl) ?_
      refine sx_nil ?_
      refine ex_then_n ?_
      refine wp_ret ?_
      refine ex_then_r ?_
      refine sx_end (.tuple #[.slice none 0 0, .slice none 0 0, .bool false]) (res3 6 7 8 (by rfl)) ?_
      rw [if_neg (fun q => by obtain ⟨q1, q2, q3, q4, q5⟩ := okDeal_c q; exact (by omega))] at h; simp only [Option.some.injEq, Prod.mk.injEq] at h; obtain ⟨rfl, rfl, rfl⟩ := h
      exact ⟨_, _, rfl, Kd.R_nil _ _ _ _ _, Kd.R_nil _ _ _ _ _, hc2 _ (hp)⟩
    ·
      have c_3p := of_decide_eq_false c_3
      rcases Bool.eq_false_or_eq_true (decide (a1 > 55)) with c_5 | c_5
      ·
        have c_5p := of_decide_eq_true c_5
        refine sx_region ?_
        refine sx_rd 14 (.int .i64 a0) (by rfl) (by kernel_rfl) ?_
        refine sx_call 15 (by rfl) (by kernel_rfl) ((spec_tiNumber.calls a0 _ _ (tiNumberD a0)).mono ?_)
        rintro _ W_6 ⟨rfl, hb⟩
        refine ⟨.bool true, congrArg (fun b => Ending.returned (.bool b)) (not_eq c_1), ?_⟩
        replace hp := hp.below hb.below
        clear hb
        refine sx_rd 16 (.bool false) (by rfl) (by kernel_rfl) ?_
        refine sx_rd 17 (.bool false) (by rfl) (by kernel_rfl) ?_
        refine sx_want (by rfl) ?_
        refine sx_rd 18 (.int .i64 a1) (by rfl) (by kernel_rfl) ?_
        refine sx_want (by rfl) ?_
        refine sx_rd 19 (.bool false) (by rfl) (bv c_3 (by kernel_rfl)) ?_
        refine sx_rd 20 (.bool false) (by rfl) (by kernel_rfl) ?_
        refine sx_rd 21 (.bool false) (by rfl) (by kernel_rfl) ?_
        refine sx_want (by rfl) ?_
        refine sx_rd 22 (.int .i64 a1) (by rfl) (by kernel_rfl) ?_
        refine sx_want (by rfl) ?_
        refine sx_rd 23 (.bool true) (by rfl) (bv c_5 (by kernel_rfl)) ?_
        refine sx_rd 24 (.bool true) (by rfl) (by kernel_rfl) ?_
        refine sx_rd 25 (.bool true) (by rfl) (by kernel_rfl) ?_
        refine sx_skip 26 (by rfl) (by rfl) (by rfl) ?_
        refine sx_skip 27 (by rfl) (by rfl) (by rfl) ?_
        refine sx_skip 28 (by rfl) (by rfl) (by rfl) ?_
        refine sx_skip 29 (by rfl) (by rfl) (by rfl) ?_
        refine sx_skip 30 (by rfl) (by rfl) (by rfl) ?_
        refine sx_skip 31 (by rfl) (by rfl) (by rfl) ?_
        refine sx_skip 32 (by rfl) (by rfl) (by rfl) ?_
        refine sx_skip 33 (by rfl) (by rfl) (by rfl) ?_
        refine sx_skip 34 (by rfl) (by rfl) (by rfl) ?_
        refine sx_rd 35 (.bool true) (by rfl) (by kernel_rfl) ?_
        refine sx_rd 36 (.bool true) (by rfl) (by kernel_rfl) ?_
        refine sx_skip 37 (by rfl) (by rfl) (by rfl) ?_
        refine sx_skip 38 (by rfl) (by rfl) (by rfl) ?_
        refine sx_skip 39 (by rfl) (by rfl) (by rfl) ?_
        refine sx_rd 40 (.bool true) (by rfl) (by kernel_rfl) ?_
        refine sx_nil ?_
        refine ex_then_n ?_
        refine sx_then true (by rfl) rfl ?_
        refine wp_seq ?_
        refine sx_region ?_
        refine sx_rd 6 (.slice none 0 0) (by rfl) (by kernel_rfl) ?_
        refine sx_rd 7 (.slice none 0 0) (by rfl) (by kernel_rfl) ?_
        refine sx_rd 8 (.bool false) (by rfl) (by kernel_rfl) ?_
        refine sx_nil ?_
        refine ex_then_n ?_
        refine wp_ret ?_
        refine ex_then_r ?_
        refine sx_end (.tuple #[.slice none 0 0, .slice none 0 0, .bool false]) (res3 6 7 8 (by rfl)) ?_
        rw [if_neg (fun q => by obtain ⟨q1, q2, q3, q4, q5⟩ := okDeal_c q; exact (by omega))] at h; simp only [Option.some.injEq, Prod.mk.injEq] at h; obtain ⟨rfl, rfl, rfl⟩ := h
        exact ⟨_, _, rfl, Kd.R_nil _ _ _ _ _, Kd.R_nil _ _ _ _ _, hc2 _ (hp)⟩
      ·
        have c_5p := of_decide_eq_false c_5
        rcases Bool.eq_false_or_eq_true (decide ((2 * a1) > (((a0 + 1) * (a0 + 2)) / 2))) with c_7 | c_7
        ·
          have c_7p := of_decide_eq_true c_7
          refine sx_region ?_
          refine sx_rd 14 (.int .i64 a0) (by rfl) (by kernel_rfl) ?_
          refine sx_call 15 (by rfl) (by kernel_rfl) ((spec_tiNumber.calls a0 _ _ (tiNumberD a0)).mono ?_)
          rintro _ W_8 ⟨rfl, hb⟩
          refine ⟨.bool true, congrArg (fun b => Ending.returned (.bool b)) (not_eq c_1), ?_⟩
          replace hp := hp.below hb.below
          clear hb
          refine sx_rd 16 (.bool false) (by rfl) (by kernel_rfl) ?_
          refine sx_rd 17 (.bool false) (by rfl) (by kernel_rfl) ?_
          refine sx_want (by rfl) ?_
          refine sx_rd 18 (.int .i64 a1) (by rfl) (by kernel_rfl) ?_
          refine sx_want (by rfl) ?_
          refine sx_rd 19 (.bool false) (by rfl) (bv c_3 (by kernel_rfl)) ?_
          refine sx_rd 20 (.bool false) (by rfl) (by kernel_rfl) ?_
          refine sx_rd 21 (.bool false) (by rfl) (by kernel_rfl) ?_
          refine sx_want (by rfl) ?_
          refine sx_rd 22 (.int .i64 a1) (by rfl) (by kernel_rfl) ?_
          refine sx_want (by rfl) ?_
          refine sx_rd 23 (.bool false) (by rfl) (bv c_5 (by kernel_rfl)) ?_
          refine sx_rd 24 (.bool false) (by rfl) (by kernel_rfl) ?_
          refine sx_rd 25 (.bool false) (by rfl) (by kernel_rfl) ?_
          refine sx_want (by rfl) ?_
          refine sx_rd 26 (.int .i64 a1) (by rfl) (by kernel_rfl) ?_
          refine sx_want (by rfl) ?_
          refine sx_rd 27 (.int .i64 (2 * a1)) (by rfl) (wr_ok (by omega) (by kernel_rfl)) ?_
          refine sx_want (by rfl) ?_
          refine sx_rd 28 (.int .i64 a0) (by rfl) (by kernel_rfl) ?_
          refine sx_want (by rfl) ?_
          refine sx_rd 29 (.int .i64 (a0 + 1)) (by rfl) (wr_ok (by omega) (by kernel_rfl)) ?_
          refine sx_want (by rfl) ?_
          refine sx_rd 30 (.int .i64 a0) (by rfl) (by kernel_rfl) ?_
          refine sx_want (by rfl) ?_
          refine sx_rd 31 (.int .i64 (a0 + 2)) (by rfl) (wr_ok (by omega) (by kernel_rfl)) ?_
          refine sx_want (by rfl) ?_
          refine sx_rd 32 (.int .i64 ((a0 + 1) * (a0 + 2))) (by rfl) (wr_ok (by omega) (by kernel_rfl)) ?_
          refine sx_want (by rfl) ?_
          refine sx_rd 33 (.int .i64 (((a0 + 1) * (a0 + 2)) / 2)) (by rfl) (quo_ok (by omega) (by omega) (by omega) (by kernel_rfl)) ?_
          refine sx_want (by rfl) ?_
          refine sx_rd 34 (.bool true) (by rfl) (bv c_7 (by kernel_rfl)) ?_
          refine sx_rd 35 (.bool true) (by rfl) (by kernel_rfl) ?_
          refine sx_rd 36 (.bool true) (by rfl) (by kernel_rfl) ?_
          refine sx_skip 37 (by rfl) (by rfl) (by rfl) ?_
          refine sx_skip 38 (by rfl) (by rfl) (by rfl) ?_
          refine sx_skip 39 (by rfl) (by rfl) (by rfl) ?_
          refine sx_rd 40 (.bool true) (by rfl) (by kernel_rfl) ?_
          refine sx_nil ?_
          refine ex_then_n ?_
          refine sx_then true (by rfl) rfl ?_
          refine wp_seq ?_
          refine sx_region ?_
          refine sx_rd 6 (.slice none 0 0) (by rfl) (by kernel_rfl) ?_
          refine sx_rd 7 (.slice none 0 0) (by rfl) (by kernel_rfl) ?_
          refine sx_rd 8 (.bool false) (by rfl) (by kernel_rfl) ?_
          refine sx_nil ?_
          refine ex_then_n ?_
          refine wp_ret ?_
          refine ex_then_r ?_
          refine sx_end (.tuple #[.slice none 0 0, .slice none 0 0, .bool false]) (res3 6 7 8 (by rfl)) ?_
          rw [if_neg (fun q => by obtain ⟨q1, q2, q3, q4, q5⟩ := okDeal_c q; exact (by omega))] at h; simp only [Option.some.injEq, Prod.mk.injEq] at h; obtain ⟨rfl, rfl, rfl⟩ := h
          exact ⟨_, _, rfl, Kd.R_nil _ _ _ _ _, Kd.R_nil _ _ _ _ _, hc2 _ (hp)⟩
        ·
          have c_7p := of_decide_eq_false c_7
          refine sx_region ?_
          refine sx_rd 14 (.int .i64 a0) (by rfl) (by kernel_rfl) ?_
          refine sx_call 15 (by rfl) (by kernel_rfl) ((spec_tiNumber.calls a0 _ _ (tiNumberD a0)).mono ?_)
          rintro _ W_9 ⟨rfl, hb⟩
          refine ⟨.bool true, congrArg (fun b => Ending.returned (.bool b)) (not_eq c_1), ?_⟩
          replace hp := hp.below hb.below
          clear hb
          refine sx_rd 16 (.bool false) (by rfl) (by kernel_rfl) ?_
          refine sx_rd 17 (.bool false) (by rfl) (by kernel_rfl) ?_
          refine sx_want (by rfl) ?_
          refine sx_rd 18 (.int .i64 a1) (by rfl) (by kernel_rfl) ?_
          refine sx_want (by rfl) ?_
          refine sx_rd 19 (.bool false) (by rfl) (bv c_3 (by kernel_rfl)) ?_
          refine sx_rd 20 (.bool false) (by rfl) (by kernel_rfl) ?_
          refine sx_rd 21 (.bool false) (by rfl) (by kernel_rfl) ?_
          refine sx_want (by rfl) ?_
          refine sx_rd 22 (.int .i64 a1) (by rfl) (by kernel_rfl) ?_
          refine sx_want (by rfl) ?_
          refine sx_rd 23 (.bool false) (by rfl) (bv c_5 (by kernel_rfl)) ?_
          refine sx_rd 24 (.bool false) (by rfl) (by kernel_rfl) ?_
          refine sx_rd 25 (.bool false) (by rfl) (by kernel_rfl) ?_
          refine sx_want (by rfl) ?_
          refine sx_rd 26 (.int .i64 a1) (by rfl) (by kernel_rfl) ?_
          refine sx_want (by rfl) ?_
          refine sx_rd 27 (.int .i64 (2 * a1)) (by rfl) (wr_ok (by omega) (by kernel_rfl)) ?_
          refine sx_want (by rfl) ?_
          refine sx_rd 28 (.int .i64 a0) (by rfl) (by kernel_rfl) ?_
          refine sx_want (by rfl) ?_
          refine sx_rd 29 (.int .i64 (a0 + 1)) (by rfl) (wr_ok (by omega) (by kernel_rfl)) ?_
          refine sx_want (by rfl) ?_
          refine sx_rd 30 (.int .i64 a0) (by rfl) (by kernel_rfl) ?_
          refine sx_want (by rfl) ?_
          refine sx_rd 31 (.int .i64 (a0 + 2)) (by rfl) (wr_ok (by omega) (by kernel_rfl)) ?_
          refine sx_want (by rfl) ?_
          refine sx_rd 32 (.int .i64 ((a0 + 1) * (a0 + 2))) (by rfl) (wr_ok (by omega) (by kernel_rfl)) ?_
          refine sx_want (by rfl) ?_
          refine sx_rd 33 (.int .i64 (((a0 + 1) * (a0 + 2)) / 2)) (by rfl) (quo_ok (by omega) (by omega) (by omega) (by kernel_rfl)) ?_
          refine sx_want (by rfl) ?_
          refine sx_rd 34 (.bool false) (by rfl) (bv c_7 (by kernel_rfl)) ?_
          refine sx_rd 35 (.bool false) (by rfl) (by kernel_rfl) ?_
          refine sx_rd 36 (.bool false) (by rfl) (by kernel_rfl) ?_
          refine sx_want (by rfl) ?_
          refine sx_rd 37 (.int .i64 a2) (by rfl) (by kernel_rfl) ?_
          refine sx_want (by rfl) ?_
          refine sx_call 38 (by rfl) (by kernel_rfl) ((spec_l1In.calls a2 0 9999 _ _ (l1In_eq a2 0 9999)).mono ?_)
          rintro _ W_10 ⟨rfl, hb⟩
          refine ⟨_, rfl, ?_⟩
          replace hp := hp.below hb.below
          clear hb
          refine sx_want (by rfl) ?_
          refine sx_rd 39 (.bool (!(inB 0 9999 a2))) (by rfl) (by kernel_rfl) ?_
          refine sx_rd 40 (.bool (!(inB 0 9999 a2))) (by rfl) (by kernel_rfl) ?_
          refine sx_nil ?_
          refine ex_then_n ?_
          refine sx_cond (!(inB 0 9999 a2)) (by rfl) (fun c_11 => ?_) (fun c_11 => ?_)
          ·
            refine wp_seq ?_
            refine sx_region ?_
            refine sx_rd 6 (.slice none 0 0) (by rfl) (by kernel_rfl) ?_
            refine sx_rd 7 (.slice none 0 0) (by rfl) (by kernel_rfl) ?_
            refine sx_rd 8 (.bool false) (by rfl) (by kernel_rfl) ?_
            refine sx_nil ?_
            refine ex_then_n ?_
            refine wp_ret ?_
            refine ex_then_r ?_
            refine sx_end (.tuple #[.slice none 0 0, .slice none 0 0, .bool false]) (res3 6 7 8 (by rfl)) ?_
            rw [if_neg (fun q => by obtain ⟨q1, q2, q3, q4, q5⟩ := okDeal_c q; exact absurd q5 (by rw [(not_eq c_11)]; simp))] at h; simp only [Option.some.injEq, Prod.mk.injEq] at h; obtain ⟨rfl, rfl, rfl⟩ := h
            exact ⟨_, _, rfl, Kd.R_nil _ _ _ _ _, Kd.R_nil _ _ _ _ _, hc2 _ (hp)⟩
          ·
            have hok0 : okDeal a0 a1 a2 = true := okDeal_mk (not_eq c_1) (by omega) (by omega) (not_eq c_11)
            refine wp_skip ?_
            refine ex_then_n ?_
            refine wp_seq ?_
            refine sx_region ?_
            refine sx_rd 41 (.int .i64 a0) (by rfl) (by kernel_rfl) ?_
            obtain ⟨k_12, hk_k_12⟩ := Ev.rounds (tiSet_evZ a0 (not_eq c_1))
            refine sx_call 42 (by rfl) (by kernel_rfl) ((spec_tiSet.calls k_12 a0 _ _ hk_k_12).mono ?_)
            rintro _ W_18 ⟨v_14, rfl, hR_13, hb⟩
            refine ⟨_, rfl, ?_⟩
            obtain ⟨A_15, c_16, rfl, hcc_c_16, _⟩ := Kd.R_reads hR_13
            obtain ⟨F_17, hp⟩ : ∃ F, Hp w (row k82 82 w.heap.size (.slice A_15 (setT a0.toNat).length c_16) (setT a0.toNat) F :: cs) _ := ⟨_, Hp.made hp hb hR_13⟩
            refine sx_rd 9 (.slice A_15 ((setT a0.toNat).length) c_16) (by rfl) (by kernel_rfl) ?_
            refine sx_nil ?_
            refine ex_then_n ?_
            refine wp_seq ?_
            refine sx_region ?_
            refine sx_box 10 hp #[.slice none 0 0, .slice none 0 0] 85 (by rfl) (fun W => by kernel_rfl) ?_
            intro g_19 W_20 hp
            refine sx_nil ?_
            refine ex_then_n ?_
            refine wp_seq ?_
            refine sx_region ?_
            refine sx_rd 43 (.int .i64 a2) (by rfl) (by kernel_rfl) ?_
            refine sx_rd 11 (.int .i64 a2) (by rfl) (by kernel_rfl) ?_
            refine sx_nil ?_
            refine ex_then_n ?_
            refine wp_seq ?_
            refine wp_seq ?_
            refine sx_region ?_
            refine sx_rd 12 (.int .i64 0) (by rfl) (by kernel_rfl) ?_
            refine sx_nil ?_
            refine ex_then_n ?_
            refine wp_block ?_
            have e0_21 : (setT a0.toNat) = (dealS (setT a0.toNat) a2 0).left := rfl
            have hp : Hp w (blk g_19 #[.slice none 0 0, .slice none 0 0] 85 :: row k82 82 w.heap.size (.slice A_15 ((setT a0.toNat).length) c_16) ((dealS (setT a0.toNat) a2 0).left) F_17 :: cs) W_20 := by rw [← e0_21]; exact hp
            have hp := hp.nilrow k82 82 w.heap.size
            have e0_22 : ([] : List S_Tile) = (dealS (setT a0.toNat) a2 0).a := rfl
            have hp : Hp w (row k82 82 w.heap.size (.slice none 0 0) ((dealS (setT a0.toNat) a2 0).a) (fun _ => False) :: blk g_19 #[.slice none 0 0, .slice none 0 0] 85 :: row k82 82 w.heap.size (.slice A_15 ((setT a0.toNat).length) c_16) ((dealS (setT a0.toNat) a2 0).left) F_17 :: cs) W_20 := by rw [← e0_22]; exact hp
            have hp := hp.nilrow k82 82 w.heap.size
            have e0_23 : ([] : List S_Tile) = (dealS (setT a0.toNat) a2 0).b := rfl
            have hp : Hp w (row k82 82 w.heap.size (.slice none 0 0) ((dealS (setT a0.toNat) a2 0).b) (fun _ => False) :: row k82 82 w.heap.size (.slice none 0 0) ((dealS (setT a0.toNat) a2 0).a) (fun _ => False) :: blk g_19 #[.slice none 0 0, .slice none 0 0] 85 :: row k82 82 w.heap.size (.slice A_15 ((setT a0.toNat).length) c_16) ((dealS (setT a0.toNat) a2 0).left) F_17 :: cs) W_20 := by rw [← e0_23]; exact hp
            refine wp_loop_ghost (fun n a W => ∃ (r : List (Nat × Value)) (i : Nat) (Ai9 : Option Addr) (ni9 ci9 : Nat) (Fi9 : Nat → Prop) (Aix10x0 : Option Addr) (nix10x0 cix10x0 : Nat) (Fix10x0 : Nat → Prop) (Aix10x1 : Option Addr) (nix10x1 cix10x1 : Nat) (Fix10x1 : Nat → Prop), n = (2 * a1).toNat - i ∧ a = fr 80 ([(1, .int .i64 a1), (9, .slice Ai9 ni9 ci9), (10, .pointer (some ⟨g_19, 0, none⟩)), (11, .int .i64 ((dealS (setT a0.toNat) a2 i).z)), (12, .int .i64 (i : Int))] ++ r) ∧ Hp w (row k82 82 w.heap.size (.slice Ai9 ni9 ci9) ((dealS (setT a0.toNat) a2 i).left) Fi9 :: row k82 82 w.heap.size (.slice Aix10x0 nix10x0 cix10x0) ((dealS (setT a0.toNat) a2 i).a) Fix10x0 :: row k82 82 w.heap.size (.slice Aix10x1 nix10x1 cix10x1) ((dealS (setT a0.toNat) a2 i).b) Fix10x1 :: blk g_19 #[.slice Aix10x0 nix10x0 cix10x0, .slice Aix10x1 nix10x1 cix10x1] 85 :: cs) W ∧ (i ≤ (2 * a1).toNat)) _ ⟨_, 0, _, _, _, _, _, _, _, _, _, _, _, _, rfl, fr_front [(1, .int .i64 a1), (9, .slice A_15 ((setT a0.toNat).length) c_16), (10, .pointer (some ⟨g_19, 0, none⟩)), (11, .int .i64 a2), (12, .int .i64 0)] ⟨rfl, rfl, rfl, rfl, rfl, trivial⟩, (hp.take [3, 1, 0, 2] 4 (by decide) (by simp)), Nat.zero_le _⟩ ?_
            rintro _ _ W_24 ⟨r, i, Ai9, ni9, ci9, Fi9, Aix10x0, nix10x0, cix10x0, Fix10x0, Aix10x1, nix10x1, cix10x1, Fix10x1, rfl, rfl, hp, hi⟩
            obtain ⟨rfl, hcci9⟩ := row_len (hp.at_ 0 _ (by rfl))
            obtain ⟨rfl, hccix10x0⟩ := row_len (hp.at_ 1 _ (by rfl))
            obtain ⟨rfl, hccix10x1⟩ := row_len (hp.at_ 2 _ (by rfl))
            have hok := okDeal_n hok0
            have hSl := setT_len hok.1
            have hlen := deal_len (setT a0.toNat) a2 i (by omega)
            have hal := deal_alen (setT a0.toNat) a2 i (by omega)
            have hz := deal_z (setT a0.toNat) a2 (by omega) i
            refine wp_seq ?_
            refine wp_seq ?_
            refine sx_region ?_
            refine sx_rd 44 (.int .i64 (i : Int)) (by rfl) (by kernel_rfl) ?_
            refine sx_rd 45 (.int .i64 a1) (by rfl) (by kernel_rfl) ?_
            refine sx_rd 46 (.int .i64 (2 * a1)) (by rfl) (wr_ok (by omega) (by kernel_rfl)) ?_
            refine sx_rd 47 (.bool (decide ((i : Int) < (2 * a1)))) (by rfl) (by kernel_rfl) ?_
            refine sx_nil ?_
            refine ex_then_n ?_
            refine sx_cond (decide ((i : Int) < (2 * a1))) (by rfl) (fun c_25 => ?_) (fun c_25 => ?_)
            ·
              have c_25p := of_decide_eq_true c_25
              have hI := dealI_eq (dealS (setT a0.toNat) a2 i) (by omega)
              have hIlt := dealI_lt (dealS (setT a0.toNat) a2 i) (by omega)
              refine wp_skip ?_
              refine ex_then_n ?_
              refine wp_seq ?_
              refine wp_block ?_
              refine wp_seq ?_
              refine sx_region ?_
              refine sx_rd 50 (.int .i64 ((dealS (setT a0.toNat) a2 i).z)) (by rfl) (by kernel_rfl) ?_
              refine sx_rd 51 (.int .i64 ((dealS (setT a0.toNat) a2 i).z * 163)) (by rfl) (wr_ok (by omega) (by kernel_rfl)) ?_
              refine sx_rd 52 (.int .i64 (((dealS (setT a0.toNat) a2 i).z * 163) + 229)) (by rfl) (wr_ok (by omega) (by kernel_rfl)) ?_
              refine sx_rd 53 (.int .i64 ((((dealS (setT a0.toNat) a2 i).z * 163) + 229) % 10007)) (by rfl) (rem_ok (by omega) (by kernel_rfl)) ?_
              refine sx_rd 11 (.int .i64 ((((dealS (setT a0.toNat) a2 i).z * 163) + 229) % 10007)) (by rfl) (by kernel_rfl) ?_
              refine sx_nil ?_
              refine ex_then_n ?_
              refine wp_seq ?_
              refine sx_region ?_
              refine sx_rd 54 (.slice Ai9 (((dealS (setT a0.toNat) a2 i).left).length) ci9) (by rfl) (by kernel_rfl) ?_
              refine sx_rd 55 (.int .i64 ((((dealS (setT a0.toNat) a2 i).z * 163) + 229) % 10007)) (by rfl) (by kernel_rfl) ?_
              refine sx_rd 56 (.slice Ai9 (((dealS (setT a0.toNat) a2 i).left).length) ci9) (by rfl) (by kernel_rfl) ?_
              refine sx_rd 57 (.int .i64 (((dealS (setT a0.toNat) a2 i).left).length : Int)) (by rfl) (by kernel_rfl) ?_
              refine sx_rd 58 (.int .i64 ((dealI (dealS (setT a0.toNat) a2 i) : Nat) : Int)) (by rfl) (by rw [hI]; exact rem_run (by rfl) (by rfl) (by rfl) (by omega) (by omega)) ?_
              refine sx_rd 59 (.pointer (some (adr Ai9 ((dealI (dealS (setT a0.toNat) a2 i) : Nat) : Int) 2))) (by rfl) (ix_run (d := k82) (row_C (hp.at_ 0 _ (by rfl))) (t := 37) (by rfl) (by rfl) (by rfl) Try.underlying37 (by kernel_rfl) (by omega) (by omega)) ?_
              refine sx_rd 60 (.agg #[.int .i64 ((rd_Tile ((dealS (setT a0.toNat) a2 i).left) ((dealI (dealS (setT a0.toNat) a2 i) : Nat) : Int)).f0), .int .i64 ((rd_Tile ((dealS (setT a0.toNat) a2 i).left) ((dealI (dealS (setT a0.toNat) a2 i) : Nat) : Int)).f1)]) (by rfl) (el_run (d := k82) (row_C (hp.at_ 0 _ (by rfl))) z82 ((dealI (dealS (setT a0.toNat) a2 i) : Nat) : Int) (by omega) (by omega) (cells := [.int .i64 ((rd_Tile ((dealS (setT a0.toNat) a2 i).left) ((dealI (dealS (setT a0.toNat) a2 i) : Nat) : Int)).f0), .int .i64 ((rd_Tile ((dealS (setT a0.toNat) a2 i).left) ((dealI (dealS (setT a0.toNat) a2 i) : Nat) : Int)).f1)]) (fun cs h => k82_open h) 0 [.int .i64 ((rd_Tile ((dealS (setT a0.toNat) a2 i).left) ((dealI (dealS (setT a0.toNat) a2 i) : Nat) : Int)).f0), .int .i64 ((rd_Tile ((dealS (setT a0.toNat) a2 i).left) ((dealI (dealS (setT a0.toNat) a2 i) : Nat) : Int)).f1)] (by rfl) (t := 82) (p := (.tmp 59)) (by rfl) (by rfl) (by kernel_rfl) (by kernel_rfl)) ?_
              refine sx_box 13 hp #[.int .i64 0, .int .i64 0] 82 (by rfl) (fun W => by kernel_rfl) ?_
              intro g_26 W_27 hp
              refine sx_store (t := 82) (p := (.tmp 13)) (x := (.tmp 60)) (by rfl) (by rfl) 0 (by rfl) 0 [.int .i64 ((rd_Tile ((dealS (setT a0.toNat) a2 i).left) ((dealI (dealS (setT a0.toNat) a2 i) : Nat) : Int)).f0), .int .i64 ((rd_Tile ((dealS (setT a0.toNat) a2 i).left) ((dealI (dealS (setT a0.toNat) a2 i) : Nat) : Int)).f1)] (by rfl) (by rfl) (by kernel_rfl) (by simp [Value.oneCell']) (by show 2 ≤ 2; omega) #[.int .i64 ((rd_Tile ((dealS (setT a0.toNat) a2 i).left) ((dealI (dealS (setT a0.toNat) a2 i) : Nat) : Int)).f0), .int .i64 ((rd_Tile ((dealS (setT a0.toNat) a2 i).left) ((dealI (dealS (setT a0.toNat) a2 i) : Nat) : Int)).f1)] (by rfl) hp ?_
              intro W_28 hp; simp only [List.set_cons_succ, List.set_cons_zero] at hp
              refine sx_nil ?_
              refine ex_then_n ?_
              refine wp_seq ?_
              have c_29 : ((i : Int) % 2) = ((0 : Nat) : Int) ∨ ((i : Int) % 2) = ((1 : Nat) : Int) := by omega
              rcases c_29 with c_29 | c_29
              ·
                refine sx_drawT [0, 1, 2, 3, 4] (.rd 5 (.rd 6 (.alt 7 (.fin) .non))) 8 (C := Hp w (blk g_26 #[.int .i64 ((rd_Tile ((dealS (setT a0.toNat) a2 i).left) ((dealI (dealS (setT a0.toNat) a2 i) : Nat) : Int)).f0), .int .i64 ((rd_Tile ((dealS (setT a0.toNat) a2 i).left) ((dealI (dealS (setT a0.toNat) a2 i) : Nat) : Int)).f1)] 82 :: row k82 82 w.heap.size (.slice Ai9 (((dealS (setT a0.toNat) a2 i).left).length) ci9) ((dealS (setT a0.toNat) a2 i).left) Fi9 :: row k82 82 w.heap.size (.slice Aix10x0 (((dealS (setT a0.toNat) a2 i).a).length) cix10x0) ((dealS (setT a0.toNat) a2 i).a) Fix10x0 :: row k82 82 w.heap.size (.slice Aix10x1 (((dealS (setT a0.toNat) a2 i).b).length) cix10x1) ((dealS (setT a0.toNat) a2 i).b) Fix10x1 :: blk g_19 #[.slice Aix10x0 (((dealS (setT a0.toNat) a2 i).a).length) cix10x0, .slice Aix10x1 (((dealS (setT a0.toNat) a2 i).b).length) cix10x1] 85 :: cs)) (by kernel_rfl) (by kernel_rfl) (fun d _ _ _ _ h => by cases d <;> exact h) (fun W h => h.drew) hp ?_
                refine preI_read rfl ?_
                refine sxq_val 61 (.int .i64 (i : Int)) (by rfl) (fun W _ => (by kernel_rfl)) ?_
                refine sxq_nil ?_
                refine preI_read rfl ?_
                refine sxq_val 62 (.int .i64 ((i : Int) % 2)) (by rfl) (fun W _ => (rem_ok (by omega) (by kernel_rfl))) ?_
                refine sxq_nil ?_
                refine preI_read rfl ?_
                refine sxq_val 63 (.int .i64 (i : Int)) (by rfl) (fun W _ => (by kernel_rfl)) ?_
                refine sxq_nil ?_
                refine preI_read rfl ?_
                refine sxq_val 64 (.int .i64 ((i : Int) % 2)) (by rfl) (fun W _ => (rem_ok (by omega) (by kernel_rfl))) ?_
                refine sxq_nil ?_
                refine preI_read rfl ?_
                refine sxq_val 65 (.pointer (some ⟨g_19, 0, none⟩)) (by rfl) (fun W _ => (ixa_run 0 (t := 85) (by rfl) (by rfl) (by rfl) c_29 Try.underlying85 (by decide) (by decide) 1 (by kernel_rfl))) ?_
                refine sxq_nil ?_
                refine preI_nil ?_
                intro W_30 hp
                refine treeI_rd rfl ?_
                refine sxq_val 66 (.slice Aix10x0 (((dealS (setT a0.toNat) a2 i).a).length) cix10x0) (by rfl) (fun W hp => (ld1 (t := 37) (p := (.tmp 65)) (by rfl) (by rfl) (by kernel_rfl) (hp.cell 4 (by rfl) 0 _ (by rfl)))) ?_
                refine sxq_nil ?_
                refine treeI_rd rfl ?_
                refine sxq_val 67 (.agg #[.int .i64 ((rd_Tile ((dealS (setT a0.toNat) a2 i).left) ((dealI (dealS (setT a0.toNat) a2 i) : Nat) : Int)).f0), .int .i64 ((rd_Tile ((dealS (setT a0.toNat) a2 i).left) ((dealI (dealS (setT a0.toNat) a2 i) : Nat) : Int)).f1)]) (by rfl) (fun W hp => (ldn (t := 82) (p := (.tmp 13)) (by rfl) (by rfl) (by kernel_rfl) (by kernel_rfl) (by kernel_rfl) (hp.at_ 0 _ (by rfl)))) ?_
                refine sxq_nil ?_
                refine treeI_ev rfl ?_
                refine sx_lit 68 (by rfl) k82 w.heap.size 82 ([(rd_Tile ((dealS (setT a0.toNat) a2 i).left) ((dealI (dealS (setT a0.toNat) a2 i) : Nat) : Int))]) [.int .i64 ((rd_Tile ((dealS (setT a0.toNat) a2 i).left) ((dealI (dealS (setT a0.toNat) a2 i) : Nat) : Int)).f0), .int .i64 ((rd_Tile ((dealS (setT a0.toNat) a2 i).left) ((dealI (dealS (setT a0.toNat) a2 i) : Nat) : Int)).f1)] (fun W => by kernel_rfl) (tile_reps _ _ _) (by simp) hp.size hp ?_
                intro g_31 F_32 W_33 hp hz; clear hz
                refine step_fin hp.tail ?_
                refine treeI_fin ?_
                refine tail_of [8, 9, 10] (by rfl) ?_
                refine tailI_op rfl ?_
                refine sx_append 69 (by rfl) k82 3 (by rfl) (.agg #[.int .i64 0, .int .i64 0]) 16 (by rfl) Try.underlying37 (by kernel_rfl) rfl (by decide) (by decide) ([(rd_Tile ((dealS (setT a0.toNat) a2 i).left) ((dealI (dealS (setT a0.toNat) a2 i) : Nat) : Int))]) (by rfl) (by rfl) (row_C (hp.at_ 0 _ (by rfl))) tile_kp hp.size (by first | omega | (simp; omega)) hp ?_
                intro A_34 c_35 F_36 W_37 hp hz; clear hz; simp only [List.set_cons_succ, List.set_cons_zero] at hp
                refine tailI_next ?_
                refine tailI_op rfl ?_
                refine sx_rd 70 (.pointer (some ⟨g_19, 0, none⟩)) (by rfl) (ixa_run 0 (t := 85) (by rfl) (by rfl) (by rfl) c_29 Try.underlying85 (by decide) (by decide) 1 (by kernel_rfl)) ?_
                refine tailI_next ?_
                refine tailI_op rfl ?_
                refine sx_store (t := 37) (p := (.tmp 70)) (x := (.tmp 69)) (by rfl) (by rfl) 5 (by rfl) 0 [.slice A_34 (((dealS (setT a0.toNat) a2 i).a ++ [(rd_Tile ((dealS (setT a0.toNat) a2 i).left) ((dealI (dealS (setT a0.toNat) a2 i) : Nat) : Int))]).length) c_35] (by rfl) (by rfl) (by kernel_rfl) (by simp [Value.oneCell']) (by show 1 ≤ 2; omega) #[.slice A_34 (((dealS (setT a0.toNat) a2 i).a ++ [(rd_Tile ((dealS (setT a0.toNat) a2 i).left) ((dealI (dealS (setT a0.toNat) a2 i) : Nat) : Int))]).length) c_35, .slice Aix10x1 (((dealS (setT a0.toNat) a2 i).b).length) cix10x1] (by rfl) hp ?_
                intro W_38 hp; simp only [List.set_cons_succ, List.set_cons_zero] at hp
                refine tailI_next ?_
                refine tailI_nil ?_
                refine ex_then_n ?_
                refine sx_region ?_
                refine sx_rd 71 (.slice Ai9 (((dealS (setT a0.toNat) a2 i).left).length) ci9) (by rfl) (by kernel_rfl) ?_
                refine sx_rd 72 (.agg #[.int .i64 ((rd_Tile ((dealS (setT a0.toNat) a2 i).left) ((dealI (dealS (setT a0.toNat) a2 i) : Nat) : Int)).f0), .int .i64 ((rd_Tile ((dealS (setT a0.toNat) a2 i).left) ((dealI (dealS (setT a0.toNat) a2 i) : Nat) : Int)).f1)]) (by rfl) (ldn (t := 82) (p := (.tmp 13)) (by rfl) (by rfl) (by kernel_rfl) (by kernel_rfl) (by kernel_rfl) (hp.at_ 1 _ (by rfl))) ?_
                obtain ⟨k_39, hk_k_39⟩ := Ev.rounds (without_ev (dealS (setT a0.toNat) a2 i).left (deal_nodup a0.toNat hok.1 a2 i (by omega)).1 (dealI (dealS (setT a0.toNat) a2 i)) hIlt (by omega))
                refine sx_call 73 (by rfl) (by kernel_rfl) ((spec_plWithout.calls k_39 Ai9 ci9 ((dealS (setT a0.toNat) a2 i).left) ((rd_Tile ((dealS (setT a0.toNat) a2 i).left) ((dealI (dealS (setT a0.toNat) a2 i) : Nat) : Int)).f0) ((rd_Tile ((dealS (setT a0.toNat) a2 i).left) ((dealI (dealS (setT a0.toNat) a2 i) : Nat) : Int)).f1) _ _ (row_C (hp.at_ 2 _ (by rfl))) (row_len (hp.at_ 2 _ (by rfl))).2 hk_k_39).mono ?_)
                rintro _ W_45 ⟨v_41, rfl, hR_40, hb⟩
                refine ⟨_, rfl, ?_⟩
                obtain ⟨A_42, c_43, rfl, hcc_c_43, _⟩ := Kd.R_reads hR_40
                obtain ⟨F_44, hp⟩ : ∃ F, Hp w (row k82 82 w.heap.size (.slice A_42 ((dealS (setT a0.toNat) a2 i).left.eraseIdx (dealI (dealS (setT a0.toNat) a2 i))).length c_43) ((dealS (setT a0.toNat) a2 i).left.eraseIdx (dealI (dealS (setT a0.toNat) a2 i))) F :: row k82 82 w.heap.size (.slice (some ⟨g_31, 0, none⟩) ([(rd_Tile ((dealS (setT a0.toNat) a2 i).left) ((dealI (dealS (setT a0.toNat) a2 i) : Nat) : Int))].length) ([(rd_Tile ((dealS (setT a0.toNat) a2 i).left) ((dealI (dealS (setT a0.toNat) a2 i) : Nat) : Int))].length)) ([(rd_Tile ((dealS (setT a0.toNat) a2 i).left) ((dealI (dealS (setT a0.toNat) a2 i) : Nat) : Int))]) F_32 :: blk g_26 #[.int .i64 ((rd_Tile ((dealS (setT a0.toNat) a2 i).left) ((dealI (dealS (setT a0.toNat) a2 i) : Nat) : Int)).f0), .int .i64 ((rd_Tile ((dealS (setT a0.toNat) a2 i).left) ((dealI (dealS (setT a0.toNat) a2 i) : Nat) : Int)).f1)] 82 :: row k82 82 w.heap.size (.slice Ai9 (((dealS (setT a0.toNat) a2 i).left).length) ci9) ((dealS (setT a0.toNat) a2 i).left) Fi9 :: row k82 82 w.heap.size (.slice A_34 (((dealS (setT a0.toNat) a2 i).a ++ [(rd_Tile ((dealS (setT a0.toNat) a2 i).left) ((dealI (dealS (setT a0.toNat) a2 i) : Nat) : Int))]).length) c_35) ((dealS (setT a0.toNat) a2 i).a ++ [(rd_Tile ((dealS (setT a0.toNat) a2 i).left) ((dealI (dealS (setT a0.toNat) a2 i) : Nat) : Int))]) F_36 :: row k82 82 w.heap.size (.slice Aix10x1 (((dealS (setT a0.toNat) a2 i).b).length) cix10x1) ((dealS (setT a0.toNat) a2 i).b) Fix10x1 :: blk g_19 #[.slice A_34 (((dealS (setT a0.toNat) a2 i).a ++ [(rd_Tile ((dealS (setT a0.toNat) a2 i).left) ((dealI (dealS (setT a0.toNat) a2 i) : Nat) : Int))]).length) c_35, .slice Aix10x1 (((dealS (setT a0.toNat) a2 i).b).length) cix10x1] 85 :: cs) _ := ⟨_, Hp.made hp hb hR_40⟩
                refine sx_rd 9 (.slice A_42 (((dealS (setT a0.toNat) a2 i).left.eraseIdx (dealI (dealS (setT a0.toNat) a2 i))).length) c_43) (by rfl) (by kernel_rfl) ?_
                refine sx_nil ?_
                refine ex_blk_n ?_
                refine ex_then_n ?_
                refine sx_region ?_
                refine sx_rd 48 (.int .i64 (i : Int)) (by rfl) (by kernel_rfl) ?_
                refine sx_rd 49 (.int .i64 ((i : Int) + 1)) (by rfl) (wr_ok (by omega) (by kernel_rfl)) ?_
                refine sx_rd 12 (.int .i64 ((i : Int) + 1)) (by rfl) (by kernel_rfl) ?_
                refine sx_nil ?_
                refine ex_then_n ?_
                have hq_46 : ((((dealS (setT a0.toNat) a2 i).z * 163) + 229) % 10007) = (dealS (setT a0.toNat) a2 (i + 1)).z := by rw [show (dealS (setT a0.toNat) a2 (i + 1)) = dealStep i (dealS (setT a0.toNat) a2 i) from rfl]; simp only [dealStep, dealT] <;> first | rfl | (rw [if_pos (by omega)]; rfl) | (rw [if_neg (by omega)]; rfl) | (rw [if_pos (by omega)]) | (rw [if_neg (by omega)])
                have hq_47 : ((dealS (setT a0.toNat) a2 i).left.eraseIdx (dealI (dealS (setT a0.toNat) a2 i))) = (dealS (setT a0.toNat) a2 (i + 1)).left := by rw [show (dealS (setT a0.toNat) a2 (i + 1)) = dealStep i (dealS (setT a0.toNat) a2 i) from rfl]; simp only [dealStep, dealT] <;> first | rfl | (rw [if_pos (by omega)]; rfl) | (rw [if_neg (by omega)]; rfl) | (rw [if_pos (by omega)]) | (rw [if_neg (by omega)])
                rw [hq_47] at hp
                have hq_48 : ((dealS (setT a0.toNat) a2 i).a ++ [(rd_Tile ((dealS (setT a0.toNat) a2 i).left) ((dealI (dealS (setT a0.toNat) a2 i) : Nat) : Int))]) = (dealS (setT a0.toNat) a2 (i + 1)).a := by rw [show (dealS (setT a0.toNat) a2 (i + 1)) = dealStep i (dealS (setT a0.toNat) a2 i) from rfl]; simp only [dealStep, dealT] <;> first | rfl | (rw [if_pos (by omega)]; rfl) | (rw [if_neg (by omega)]; rfl) | (rw [if_pos (by omega)]) | (rw [if_neg (by omega)])
                rw [hq_48] at hp
                have hq_49 : (dealS (setT a0.toNat) a2 i).b = (dealS (setT a0.toNat) a2 (i + 1)).b := by rw [show (dealS (setT a0.toNat) a2 (i + 1)) = dealStep i (dealS (setT a0.toNat) a2 i) from rfl]; simp only [dealStep, dealT] <;> first | rfl | (rw [if_pos (by omega)]; rfl) | (rw [if_neg (by omega)]; rfl) | (rw [if_pos (by omega)]) | (rw [if_neg (by omega)])
                rw [hq_49] at hp
                exact ⟨_, (by omega), _, (i + 1), _, _, _, _, _, _, _, _, _, _, _, _, rfl, fr_front [(1, .int .i64 a1), (9, .slice A_42 (((dealS (setT a0.toNat) a2 (i + 1)).left).length) c_43), (10, .pointer (some ⟨g_19, 0, none⟩)), (11, .int .i64 ((dealS (setT a0.toNat) a2 (i + 1)).z)), (12, .int .i64 ((i + 1 : Nat) : Int))] ⟨rfl, congrArg (fun z : List S_Tile => Value.slice A_42 z.length c_43) hq_47, rfl, congrArg (Value.int .i64) hq_46, rfl, trivial⟩, (hp.take [0, 4, 5, 6] 7 (by decide) (by simp)), (by omega)⟩
              ·
                refine sx_drawT [0, 1, 2, 3, 4] (.rd 5 (.rd 6 (.alt 7 (.fin) .non))) 8 (C := Hp w (blk g_26 #[.int .i64 ((rd_Tile ((dealS (setT a0.toNat) a2 i).left) ((dealI (dealS (setT a0.toNat) a2 i) : Nat) : Int)).f0), .int .i64 ((rd_Tile ((dealS (setT a0.toNat) a2 i).left) ((dealI (dealS (setT a0.toNat) a2 i) : Nat) : Int)).f1)] 82 :: row k82 82 w.heap.size (.slice Ai9 (((dealS (setT a0.toNat) a2 i).left).length) ci9) ((dealS (setT a0.toNat) a2 i).left) Fi9 :: row k82 82 w.heap.size (.slice Aix10x0 (((dealS (setT a0.toNat) a2 i).a).length) cix10x0) ((dealS (setT a0.toNat) a2 i).a) Fix10x0 :: row k82 82 w.heap.size (.slice Aix10x1 (((dealS (setT a0.toNat) a2 i).b).length) cix10x1) ((dealS (setT a0.toNat) a2 i).b) Fix10x1 :: blk g_19 #[.slice Aix10x0 (((dealS (setT a0.toNat) a2 i).a).length) cix10x0, .slice Aix10x1 (((dealS (setT a0.toNat) a2 i).b).length) cix10x1] 85 :: cs)) (by kernel_rfl) (by kernel_rfl) (fun d _ _ _ _ h => by cases d <;> exact h) (fun W h => h.drew) hp ?_
                refine preI_read rfl ?_
                refine sxq_val 61 (.int .i64 (i : Int)) (by rfl) (fun W _ => (by kernel_rfl)) ?_
                refine sxq_nil ?_
                refine preI_read rfl ?_
                refine sxq_val 62 (.int .i64 ((i : Int) % 2)) (by rfl) (fun W _ => (rem_ok (by omega) (by kernel_rfl))) ?_
                refine sxq_nil ?_
                refine preI_read rfl ?_
                refine sxq_val 63 (.int .i64 (i : Int)) (by rfl) (fun W _ => (by kernel_rfl)) ?_
                refine sxq_nil ?_
                refine preI_read rfl ?_
                refine sxq_val 64 (.int .i64 ((i : Int) % 2)) (by rfl) (fun W _ => (rem_ok (by omega) (by kernel_rfl))) ?_
                refine sxq_nil ?_
                refine preI_read rfl ?_
                refine sxq_val 65 (.pointer (some ⟨g_19, 1, none⟩)) (by rfl) (fun W _ => (ixa_run 1 (t := 85) (by rfl) (by rfl) (by rfl) c_29 Try.underlying85 (by decide) (by decide) 1 (by kernel_rfl))) ?_
                refine sxq_nil ?_
                refine preI_nil ?_
                intro W_50 hp
                refine treeI_rd rfl ?_
                refine sxq_val 66 (.slice Aix10x1 (((dealS (setT a0.toNat) a2 i).b).length) cix10x1) (by rfl) (fun W hp => (ld1 (t := 37) (p := (.tmp 65)) (by rfl) (by rfl) (by kernel_rfl) (hp.cell 4 (by rfl) 1 _ (by rfl)))) ?_
                refine sxq_nil ?_
                refine treeI_rd rfl ?_
                refine sxq_val 67 (.agg #[.int .i64 ((rd_Tile ((dealS (setT a0.toNat) a2 i).left) ((dealI (dealS (setT a0.toNat) a2 i) : Nat) : Int)).f0), .int .i64 ((rd_Tile ((dealS (setT a0.toNat) a2 i).left) ((dealI (dealS (setT a0.toNat) a2 i) : Nat) : Int)).f1)]) (by rfl) (fun W hp => (ldn (t := 82) (p := (.tmp 13)) (by rfl) (by rfl) (by kernel_rfl) (by kernel_rfl) (by kernel_rfl) (hp.at_ 0 _ (by rfl)))) ?_
                refine sxq_nil ?_
                refine treeI_ev rfl ?_
                refine sx_lit 68 (by rfl) k82 w.heap.size 82 ([(rd_Tile ((dealS (setT a0.toNat) a2 i).left) ((dealI (dealS (setT a0.toNat) a2 i) : Nat) : Int))]) [.int .i64 ((rd_Tile ((dealS (setT a0.toNat) a2 i).left) ((dealI (dealS (setT a0.toNat) a2 i) : Nat) : Int)).f0), .int .i64 ((rd_Tile ((dealS (setT a0.toNat) a2 i).left) ((dealI (dealS (setT a0.toNat) a2 i) : Nat) : Int)).f1)] (fun W => by kernel_rfl) (tile_reps _ _ _) (by simp) hp.size hp ?_
                intro g_51 F_52 W_53 hp hz; clear hz
                refine step_fin hp.tail ?_
                refine treeI_fin ?_
                refine tail_of [8, 9, 10] (by rfl) ?_
                refine tailI_op rfl ?_
                refine sx_append 69 (by rfl) k82 4 (by rfl) (.agg #[.int .i64 0, .int .i64 0]) 16 (by rfl) Try.underlying37 (by kernel_rfl) rfl (by decide) (by decide) ([(rd_Tile ((dealS (setT a0.toNat) a2 i).left) ((dealI (dealS (setT a0.toNat) a2 i) : Nat) : Int))]) (by rfl) (by rfl) (row_C (hp.at_ 0 _ (by rfl))) tile_kp hp.size (by first | omega | (simp; omega)) hp ?_
                intro A_54 c_55 F_56 W_57 hp hz; clear hz; simp only [List.set_cons_succ, List.set_cons_zero] at hp
                refine tailI_next ?_
                refine tailI_op rfl ?_
                refine sx_rd 70 (.pointer (some ⟨g_19, 1, none⟩)) (by rfl) (ixa_run 1 (t := 85) (by rfl) (by rfl) (by rfl) c_29 Try.underlying85 (by decide) (by decide) 1 (by kernel_rfl)) ?_
                refine tailI_next ?_
                refine tailI_op rfl ?_
                refine sx_store (t := 37) (p := (.tmp 70)) (x := (.tmp 69)) (by rfl) (by rfl) 5 (by rfl) 1 [.slice A_54 (((dealS (setT a0.toNat) a2 i).b ++ [(rd_Tile ((dealS (setT a0.toNat) a2 i).left) ((dealI (dealS (setT a0.toNat) a2 i) : Nat) : Int))]).length) c_55] (by rfl) (by rfl) (by kernel_rfl) (by simp [Value.oneCell']) (by show 2 ≤ 2; omega) #[.slice Aix10x0 (((dealS (setT a0.toNat) a2 i).a).length) cix10x0, .slice A_54 (((dealS (setT a0.toNat) a2 i).b ++ [(rd_Tile ((dealS (setT a0.toNat) a2 i).left) ((dealI (dealS (setT a0.toNat) a2 i) : Nat) : Int))]).length) c_55] (by rfl) hp ?_
                intro W_58 hp; simp only [List.set_cons_succ, List.set_cons_zero] at hp
                refine tailI_next ?_
                refine tailI_nil ?_
                refine ex_then_n ?_
                refine sx_region ?_
                refine sx_rd 71 (.slice Ai9 (((dealS (setT a0.toNat) a2 i).left).length) ci9) (by rfl) (by kernel_rfl) ?_
                refine sx_rd 72 (.agg #[.int .i64 ((rd_Tile ((dealS (setT a0.toNat) a2 i).left) ((dealI (dealS (setT a0.toNat) a2 i) : Nat) : Int)).f0), .int .i64 ((rd_Tile ((dealS (setT a0.toNat) a2 i).left) ((dealI (dealS (setT a0.toNat) a2 i) : Nat) : Int)).f1)]) (by rfl) (ldn (t := 82) (p := (.tmp 13)) (by rfl) (by rfl) (by kernel_rfl) (by kernel_rfl) (by kernel_rfl) (hp.at_ 1 _ (by rfl))) ?_
                obtain ⟨k_59, hk_k_59⟩ := Ev.rounds (without_ev (dealS (setT a0.toNat) a2 i).left (deal_nodup a0.toNat hok.1 a2 i (by omega)).1 (dealI (dealS (setT a0.toNat) a2 i)) hIlt (by omega))
                refine sx_call 73 (by rfl) (by kernel_rfl) ((spec_plWithout.calls k_59 Ai9 ci9 ((dealS (setT a0.toNat) a2 i).left) ((rd_Tile ((dealS (setT a0.toNat) a2 i).left) ((dealI (dealS (setT a0.toNat) a2 i) : Nat) : Int)).f0) ((rd_Tile ((dealS (setT a0.toNat) a2 i).left) ((dealI (dealS (setT a0.toNat) a2 i) : Nat) : Int)).f1) _ _ (row_C (hp.at_ 2 _ (by rfl))) (row_len (hp.at_ 2 _ (by rfl))).2 hk_k_59).mono ?_)
                rintro _ W_65 ⟨v_61, rfl, hR_60, hb⟩
                refine ⟨_, rfl, ?_⟩
                obtain ⟨A_62, c_63, rfl, hcc_c_63, _⟩ := Kd.R_reads hR_60
                obtain ⟨F_64, hp⟩ : ∃ F, Hp w (row k82 82 w.heap.size (.slice A_62 ((dealS (setT a0.toNat) a2 i).left.eraseIdx (dealI (dealS (setT a0.toNat) a2 i))).length c_63) ((dealS (setT a0.toNat) a2 i).left.eraseIdx (dealI (dealS (setT a0.toNat) a2 i))) F :: row k82 82 w.heap.size (.slice (some ⟨g_51, 0, none⟩) ([(rd_Tile ((dealS (setT a0.toNat) a2 i).left) ((dealI (dealS (setT a0.toNat) a2 i) : Nat) : Int))].length) ([(rd_Tile ((dealS (setT a0.toNat) a2 i).left) ((dealI (dealS (setT a0.toNat) a2 i) : Nat) : Int))].length)) ([(rd_Tile ((dealS (setT a0.toNat) a2 i).left) ((dealI (dealS (setT a0.toNat) a2 i) : Nat) : Int))]) F_52 :: blk g_26 #[.int .i64 ((rd_Tile ((dealS (setT a0.toNat) a2 i).left) ((dealI (dealS (setT a0.toNat) a2 i) : Nat) : Int)).f0), .int .i64 ((rd_Tile ((dealS (setT a0.toNat) a2 i).left) ((dealI (dealS (setT a0.toNat) a2 i) : Nat) : Int)).f1)] 82 :: row k82 82 w.heap.size (.slice Ai9 (((dealS (setT a0.toNat) a2 i).left).length) ci9) ((dealS (setT a0.toNat) a2 i).left) Fi9 :: row k82 82 w.heap.size (.slice Aix10x0 (((dealS (setT a0.toNat) a2 i).a).length) cix10x0) ((dealS (setT a0.toNat) a2 i).a) Fix10x0 :: row k82 82 w.heap.size (.slice A_54 (((dealS (setT a0.toNat) a2 i).b ++ [(rd_Tile ((dealS (setT a0.toNat) a2 i).left) ((dealI (dealS (setT a0.toNat) a2 i) : Nat) : Int))]).length) c_55) ((dealS (setT a0.toNat) a2 i).b ++ [(rd_Tile ((dealS (setT a0.toNat) a2 i).left) ((dealI (dealS (setT a0.toNat) a2 i) : Nat) : Int))]) F_56 :: blk g_19 #[.slice Aix10x0 (((dealS (setT a0.toNat) a2 i).a).length) cix10x0, .slice A_54 (((dealS (setT a0.toNat) a2 i).b ++ [(rd_Tile ((dealS (setT a0.toNat) a2 i).left) ((dealI (dealS (setT a0.toNat) a2 i) : Nat) : Int))]).length) c_55] 85 :: cs) _ := ⟨_, Hp.made hp hb hR_60⟩
                refine sx_rd 9 (.slice A_62 (((dealS (setT a0.toNat) a2 i).left.eraseIdx (dealI (dealS (setT a0.toNat) a2 i))).length) c_63) (by rfl) (by kernel_rfl) ?_
                refine sx_nil ?_
                refine ex_blk_n ?_
                refine ex_then_n ?_
                refine sx_region ?_
                refine sx_rd 48 (.int .i64 (i : Int)) (by rfl) (by kernel_rfl) ?_
                refine sx_rd 49 (.int .i64 ((i : Int) + 1)) (by rfl) (wr_ok (by omega) (by kernel_rfl)) ?_
                refine sx_rd 12 (.int .i64 ((i : Int) + 1)) (by rfl) (by kernel_rfl) ?_
                refine sx_nil ?_
                refine ex_then_n ?_
                have hq_66 : ((((dealS (setT a0.toNat) a2 i).z * 163) + 229) % 10007) = (dealS (setT a0.toNat) a2 (i + 1)).z := by rw [show (dealS (setT a0.toNat) a2 (i + 1)) = dealStep i (dealS (setT a0.toNat) a2 i) from rfl]; simp only [dealStep, dealT] <;> first | rfl | (rw [if_pos (by omega)]; rfl) | (rw [if_neg (by omega)]; rfl) | (rw [if_pos (by omega)]) | (rw [if_neg (by omega)])
                have hq_67 : ((dealS (setT a0.toNat) a2 i).left.eraseIdx (dealI (dealS (setT a0.toNat) a2 i))) = (dealS (setT a0.toNat) a2 (i + 1)).left := by rw [show (dealS (setT a0.toNat) a2 (i + 1)) = dealStep i (dealS (setT a0.toNat) a2 i) from rfl]; simp only [dealStep, dealT] <;> first | rfl | (rw [if_pos (by omega)]; rfl) | (rw [if_neg (by omega)]; rfl) | (rw [if_pos (by omega)]) | (rw [if_neg (by omega)])
                rw [hq_67] at hp
                have hq_68 : (dealS (setT a0.toNat) a2 i).a = (dealS (setT a0.toNat) a2 (i + 1)).a := by rw [show (dealS (setT a0.toNat) a2 (i + 1)) = dealStep i (dealS (setT a0.toNat) a2 i) from rfl]; simp only [dealStep, dealT] <;> first | rfl | (rw [if_pos (by omega)]; rfl) | (rw [if_neg (by omega)]; rfl) | (rw [if_pos (by omega)]) | (rw [if_neg (by omega)])
                rw [hq_68] at hp
                have hq_69 : ((dealS (setT a0.toNat) a2 i).b ++ [(rd_Tile ((dealS (setT a0.toNat) a2 i).left) ((dealI (dealS (setT a0.toNat) a2 i) : Nat) : Int))]) = (dealS (setT a0.toNat) a2 (i + 1)).b := by rw [show (dealS (setT a0.toNat) a2 (i + 1)) = dealStep i (dealS (setT a0.toNat) a2 i) from rfl]; simp only [dealStep, dealT] <;> first | rfl | (rw [if_pos (by omega)]; rfl) | (rw [if_neg (by omega)]; rfl) | (rw [if_pos (by omega)]) | (rw [if_neg (by omega)])
                rw [hq_69] at hp
                exact ⟨_, (by omega), _, (i + 1), _, _, _, _, _, _, _, _, _, _, _, _, rfl, fr_front [(1, .int .i64 a1), (9, .slice A_62 (((dealS (setT a0.toNat) a2 (i + 1)).left).length) c_63), (10, .pointer (some ⟨g_19, 0, none⟩)), (11, .int .i64 ((dealS (setT a0.toNat) a2 (i + 1)).z)), (12, .int .i64 ((i + 1 : Nat) : Int))] ⟨rfl, congrArg (fun z : List S_Tile => Value.slice A_62 z.length c_63) hq_67, rfl, congrArg (Value.int .i64) hq_66, rfl, trivial⟩, (hp.take [0, 4, 5, 6] 7 (by decide) (by simp)), (by omega)⟩
            ·
              have c_25p := of_decide_eq_false c_25
              refine wp_exit ?_
              refine ex_then_e (ex_then_e (ex_blk_here ?_))
              refine ex_then_n ?_
              refine wp_seq ?_
              refine sx_drawT [0, 3] (.rd 1 (.rd 4 (.alt 2 (.alt 5 (.rd 6 (.rd 7 (.rd 8 (.fin)))) .non) .non))) 9 (C := Hp w (row k82 82 w.heap.size (.slice Ai9 (((dealS (setT a0.toNat) a2 i).left).length) ci9) ((dealS (setT a0.toNat) a2 i).left) Fi9 :: row k82 82 w.heap.size (.slice Aix10x0 (((dealS (setT a0.toNat) a2 i).a).length) cix10x0) ((dealS (setT a0.toNat) a2 i).a) Fix10x0 :: row k82 82 w.heap.size (.slice Aix10x1 (((dealS (setT a0.toNat) a2 i).b).length) cix10x1) ((dealS (setT a0.toNat) a2 i).b) Fix10x1 :: blk g_19 #[.slice Aix10x0 (((dealS (setT a0.toNat) a2 i).a).length) cix10x0, .slice Aix10x1 (((dealS (setT a0.toNat) a2 i).b).length) cix10x1] 85 :: cs)) (by kernel_rfl) (by kernel_rfl) (fun d _ _ _ _ h => by cases d <;> exact h) (fun W h => h.drew) hp ?_
              refine preI_read rfl ?_
              refine sxq_val 74 (.pointer (some ⟨g_19, 0, none⟩)) (by rfl) (fun W _ => (by kernel_rfl)) ?_
              refine sxq_nil ?_
              refine preI_read rfl ?_
              refine sxq_val 77 (.pointer (some ⟨g_19, 1, none⟩)) (by rfl) (fun W _ => (by kernel_rfl)) ?_
              refine sxq_nil ?_
              refine preI_nil ?_
              intro W_70 hp
              refine treeI_rd rfl ?_
              refine sxq_val 75 (.slice Aix10x0 (((dealS (setT a0.toNat) a2 i).a).length) cix10x0) (by rfl) (fun W hp => (ld1 (t := 37) (p := (.tmp 74)) (by rfl) (by rfl) (by kernel_rfl) (hp.cell 3 (by rfl) 0 _ (by rfl)))) ?_
              refine sxq_nil ?_
              refine treeI_rd rfl ?_
              refine sxq_val 78 (.slice Aix10x1 (((dealS (setT a0.toNat) a2 i).b).length) cix10x1) (by rfl) (fun W hp => (ld1 (t := 37) (p := (.tmp 77)) (by rfl) (by rfl) (by kernel_rfl) (hp.cell 3 (by rfl) 1 _ (by rfl)))) ?_
              refine sxq_nil ?_
              refine treeI_ev rfl ?_
              obtain ⟨k_71, hk_k_71⟩ := Ev.rounds (tiSort_ev (dealS (setT a0.toNat) a2 i).a (by omega))
              refine sx_call 76 (by rfl) (by kernel_rfl) ((spec_tiSort.calls k_71 Aix10x0 cix10x0 ((dealS (setT a0.toNat) a2 i).a) _ _ (row_C (hp.at_ 1 _ (by rfl))) (row_len (hp.at_ 1 _ (by rfl))).2 hk_k_71).mono ?_)
              rintro _ W_77 ⟨v_73, rfl, hR_72, hb⟩
              refine ⟨_, rfl, ?_⟩
              obtain ⟨A_74, c_75, rfl, hcc_c_75, _⟩ := Kd.R_reads hR_72
              obtain ⟨F_76, hp⟩ : ∃ F, Hp w (row k82 82 w.heap.size (.slice A_74 (sortT (dealS (setT a0.toNat) a2 i).a).length c_75) (sortT (dealS (setT a0.toNat) a2 i).a) F :: row k82 82 w.heap.size (.slice Ai9 (((dealS (setT a0.toNat) a2 i).left).length) ci9) ((dealS (setT a0.toNat) a2 i).left) Fi9 :: row k82 82 w.heap.size (.slice Aix10x0 (((dealS (setT a0.toNat) a2 i).a).length) cix10x0) ((dealS (setT a0.toNat) a2 i).a) Fix10x0 :: row k82 82 w.heap.size (.slice Aix10x1 (((dealS (setT a0.toNat) a2 i).b).length) cix10x1) ((dealS (setT a0.toNat) a2 i).b) Fix10x1 :: blk g_19 #[.slice Aix10x0 (((dealS (setT a0.toNat) a2 i).a).length) cix10x0, .slice Aix10x1 (((dealS (setT a0.toNat) a2 i).b).length) cix10x1] 85 :: cs) _ := ⟨_, Hp.made hp hb hR_72⟩
              refine step_fin hp.tail ?_
              refine treeI_ev rfl ?_
              obtain ⟨k_78, hk_k_78⟩ := Ev.rounds (tiSort_ev (dealS (setT a0.toNat) a2 i).b (by omega))
              refine sx_call 79 (by rfl) (by kernel_rfl) ((spec_tiSort.calls k_78 Aix10x1 cix10x1 ((dealS (setT a0.toNat) a2 i).b) _ _ (row_C (hp.at_ 3 _ (by rfl))) (row_len (hp.at_ 3 _ (by rfl))).2 hk_k_78).mono ?_)
              rintro _ W_84 ⟨v_80, rfl, hR_79, hb⟩
              refine ⟨_, rfl, ?_⟩
              obtain ⟨A_81, c_82, rfl, hcc_c_82, _⟩ := Kd.R_reads hR_79
              obtain ⟨F_83, hp⟩ : ∃ F, Hp w (row k82 82 w.heap.size (.slice A_81 (sortT (dealS (setT a0.toNat) a2 i).b).length c_82) (sortT (dealS (setT a0.toNat) a2 i).b) F :: row k82 82 w.heap.size (.slice A_74 ((sortT (dealS (setT a0.toNat) a2 i).a).length) c_75) (sortT (dealS (setT a0.toNat) a2 i).a) F_76 :: row k82 82 w.heap.size (.slice Ai9 (((dealS (setT a0.toNat) a2 i).left).length) ci9) ((dealS (setT a0.toNat) a2 i).left) Fi9 :: row k82 82 w.heap.size (.slice Aix10x0 (((dealS (setT a0.toNat) a2 i).a).length) cix10x0) ((dealS (setT a0.toNat) a2 i).a) Fix10x0 :: row k82 82 w.heap.size (.slice Aix10x1 (((dealS (setT a0.toNat) a2 i).b).length) cix10x1) ((dealS (setT a0.toNat) a2 i).b) Fix10x1 :: blk g_19 #[.slice Aix10x0 (((dealS (setT a0.toNat) a2 i).a).length) cix10x0, .slice Aix10x1 (((dealS (setT a0.toNat) a2 i).b).length) cix10x1] 85 :: cs) _ := ⟨_, Hp.made hp hb hR_79⟩
              refine step_fin hp.tail.tail ?_
              refine treeI_rd rfl ?_
              refine sxq_val 6 (.slice A_74 ((sortT (dealS (setT a0.toNat) a2 i).a).length) c_75) (by rfl) (fun W hp => (by kernel_rfl)) ?_
              refine sxq_nil ?_
              refine treeI_rd rfl ?_
              refine sxq_val 7 (.slice A_81 ((sortT (dealS (setT a0.toNat) a2 i).b).length) c_82) (by rfl) (fun W hp => (by kernel_rfl)) ?_
              refine sxq_nil ?_
              refine treeI_rd rfl ?_
              refine sxq_val 8 (.bool true) (by rfl) (fun W hp => (by kernel_rfl)) ?_
              refine sxq_nil ?_
              refine treeI_fin ?_
              refine sx_nil ?_
              refine ex_then_n ?_
              refine wp_ret ?_
              refine sx_end (.tuple #[.slice A_74 ((sortT (dealS (setT a0.toNat) a2 i).a).length) c_75, .slice A_81 ((sortT (dealS (setT a0.toNat) a2 i).b).length) c_82, .bool true]) (res3 6 7 8 (by rfl)) ?_
              obtain rfl : i = (2 * a1).toNat := by omega
              rw [if_pos hok0] at h; obtain ⟨rfl, rfl, rfl⟩ := (by simpa using h : _ ∧ _ ∧ _)
              exact ⟨_, _, rfl, Kd.R_mono (row_R (hp.at_ 1 _ (by rfl))) (fun k_ hk_ => Hp.apart_rows hp 1 0 (by decide) (by rfl) (by rfl) k_ hk_), Kd.R_mono (row_R (hp.at_ 0 _ (by rfl))) (fun k_ hk_ => Hp.apart_rows hp 0 1 (by decide) (by rfl) (by rfl) k_ hk_), hc2 _ (hp.tail.tail.tail.tail.tail.tail)⟩
end Go.Proofs.Ytdcjapdkbocgmaa.Hd
