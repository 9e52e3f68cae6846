-- Printed by hprint.py and laid together by pack.py (this session's programs over the kit's print program). Lean checks it.
import Derived.Test.YtipkmbgebpeeoaaMSx5
import Derived.Test.YtipkmbgebpeeoaaMSxL
import Derived.Test.YtipkmbgebpeeoaaG0
import Derived.Test.YtipkmbgebpeeoaaMTileR
namespace Go.Proofs.Ytipkmbgebpeeoaa.Hd
section
open Go.RowKit Go.Proofs.YtipkmbgebpeeoaaW.PrintWords Go.Proofs.YtipkmbgebpeeoaaW.PrintLast Go.Proofs.YtipkmbgebpeeoaaW.PrintMore
attribute [local go_sem] max2_int min2_int max_two min_two max_three min_three max_four min_four   -- for this text's walks alone
set_option linter.unusedVariables false
set_option linter.unusedSimpArgs false

def spec_tiGood.f (a0_0 : Int) (a0_1 : Int) : Option (Bool) := (spec_l1In.f a0_0 0 a0_1).bind fun t106 => (if t106 = true then (some (decide (a0_1 ≤ 9))) else (some false))
set_option maxRecDepth 100000 in
set_option maxHeartbeats 40000000 in
theorem spec_tiGood.calls (a0_0 : Int) (a0_1 : Int) (r : Bool) (w : World) (h : spec_tiGood.f a0_0 a0_1 = some r) :
    Calls Try.prog 33 #[.agg #[.int .i64 a0_0, .int .i64 a0_1]] w fun e w' => e = .returned (.bool r) ∧ Below w.heap.size w w' := by
  obtain ⟨cs, hcs⟩ : ∃ cs, cs = [old w w.heap.size] := ⟨_, rfl⟩
  have hp : Hp w cs w := by rw [hcs]; exact Hp.old_start w
  have hc2 : ∀ W, Hp w cs W → Below w.heap.size w W := fun W h => by rw [hcs] at h; exact h.since 0 _ rfl
  clear hcs
  unfold spec_tiGood.f at h
  obtain ⟨t_2, hv_1, h⟩ := Option.bind_eq_some_iff.mp h
  try dsimp only at h
  refine sx_enter (N := 13) (l := [.agg #[.int .i64 a0_0, .int .i64 a0_1]]) Try.func33 rfl rfl rfl ?_
  refine wp_seq ?_
  refine sx_region ?_
  refine sx_box 1 hp #[.int .i64 a0_0, .int .i64 a0_1] 43 (by rfl) (fun W => by kernel_rfl) ?_
  intro g_3 W_4 hp
  refine sx_rd 2 (.bool false) (by rfl) (by kernel_rfl) ?_
  refine sx_nil ?_
  refine ex_then_n ?_
  refine wp_seq ?_
  by_cases hc_5 : t_2 = true
  ·
    rw [if_pos hc_5] at h
    refine sx_region ?_
    refine sx_rd 3 (.pointer (some ⟨g_3, 0, none⟩)) (by rfl) (by kernel_rfl) ?_
    refine sx_rd 4 (.int .i64 a0_0) (by rfl) (ld1 (t := 3) (p := (.tmp 3)) (by rfl) (by rfl) (by kernel_rfl) (hp.cell 0 (by rfl) 0 _ (by rfl))) ?_
    refine sx_rd 5 (.pointer (some ⟨g_3, 1, none⟩)) (by rfl) (by kernel_rfl) ?_
    refine sx_rd 6 (.int .i64 a0_1) (by rfl) (ld1 (t := 3) (p := (.tmp 5)) (by rfl) (by rfl) (by kernel_rfl) (hp.cell 0 (by rfl) 1 _ (by rfl))) ?_
    refine sx_call 7 (by rfl) (by kernel_rfl) ((spec_l1In.calls a0_0 0 a0_1 _ _ hv_1).mono ?_)
    rintro _ W_6 ⟨rfl, hb⟩
    refine ⟨.bool true, congrArg (fun b => Ending.returned (.bool b)) hc_5, ?_⟩
    replace hp := hp.below hb.below
    clear hb
    refine sx_rd 8 (.bool true) (by rfl) (by kernel_rfl) ?_
    refine sx_want (by rfl) ?_
    refine sx_rd 9 (.pointer (some ⟨g_3, 1, none⟩)) (by rfl) (by kernel_rfl) ?_
    refine sx_want (by rfl) ?_
    refine sx_rd 10 (.int .i64 a0_1) (by rfl) (ld1 (t := 3) (p := (.tmp 9)) (by rfl) (by rfl) (by kernel_rfl) (hp.cell 0 (by rfl) 1 _ (by rfl))) ?_
    refine sx_want (by rfl) ?_
    refine sx_rd 11 (.bool (decide (a0_1 ≤ 9))) (by rfl) (by kernel_rfl) ?_
    refine sx_rd 12 (.bool (decide (a0_1 ≤ 9))) (by rfl) (by kernel_rfl) ?_
    refine sx_rd 2 (.bool (decide (a0_1 ≤ 9))) (by rfl) (by kernel_rfl) ?_
    refine sx_nil ?_
    refine ex_then_n ?_
    refine wp_ret ?_
    refine sx_end (.bool (decide (a0_1 ≤ 9))) (res1 2 (by rfl)) ?_
    obtain rfl := Option.some.inj h
    exact ⟨rfl, hc2 _ (hp.tail)⟩
  ·
    rw [if_neg hc_5] at h
    refine sx_region ?_
    refine sx_rd 3 (.pointer (some ⟨g_3, 0, none⟩)) (by rfl) (by kernel_rfl) ?_
    refine sx_rd 4 (.int .i64 a0_0) (by rfl) (ld1 (t := 3) (p := (.tmp 3)) (by rfl) (by rfl) (by kernel_rfl) (hp.cell 0 (by rfl) 0 _ (by rfl))) ?_
    refine sx_rd 5 (.pointer (some ⟨g_3, 1, none⟩)) (by rfl) (by kernel_rfl) ?_
    refine sx_rd 6 (.int .i64 a0_1) (by rfl) (ld1 (t := 3) (p := (.tmp 5)) (by rfl) (by rfl) (by kernel_rfl) (hp.cell 0 (by rfl) 1 _ (by rfl))) ?_
    refine sx_call 7 (by rfl) (by kernel_rfl) ((spec_l1In.calls a0_0 0 a0_1 _ _ hv_1).mono ?_)
    rintro _ W_7 ⟨rfl, hb⟩
    refine ⟨.bool false, congrArg (fun b => Ending.returned (.bool b)) (Bool.eq_false_iff.mpr hc_5), ?_⟩
    replace hp := hp.below hb.below
    clear hb
    refine sx_rd 8 (.bool false) (by rfl) (by kernel_rfl) ?_
    refine sx_skip 9 (by rfl) (by rfl) (by rfl) ?_
    refine sx_skip 10 (by rfl) (by rfl) (by rfl) ?_
    refine sx_skip 11 (by rfl) (by rfl) (by rfl) ?_
    refine sx_rd 12 (.bool false) (by rfl) (by kernel_rfl) ?_
    refine sx_rd 2 (.bool false) (by rfl) (by kernel_rfl) ?_
    refine sx_nil ?_
    refine ex_then_n ?_
    refine wp_ret ?_
    refine sx_end (.bool false) (res1 2 (by rfl)) ?_
    obtain rfl := Option.some.inj h
    exact ⟨rfl, hc2 _ (hp.tail)⟩
end
section
open Go.RowKit Go.Proofs.YtipkmbgebpeeoaaW.PrintWords Go.Proofs.YtipkmbgebpeeoaaW.PrintLast Go.Proofs.YtipkmbgebpeeoaaW.PrintMore
attribute [local go_sem] max2_int min2_int max_two min_two max_three min_three max_four min_four   -- for this text's walks alone
set_option linter.unusedVariables false
set_option linter.unusedSimpArgs false

attribute [local go_sem high] eqA43
def spec_tiPlace.l0 : Nat → List (S_Tile) → Int → Int → Int → Int → Option (Int)
  | 0, _, _, _, _, _ => none
  | k + 1, x7, x8, x9, x108000, x108001 => if x9 < x8 then (if 0 ≤ x9 then (if x9 < (x7.length : Int) then (if (((rd_Tile x7 x9).f0) == x108000 && (((rd_Tile x7 x9).f1) == x108001)) = true then (some x9) else (spec_tiPlace.l0 k x7 x8 (wrap64 (x9 + 1)) x108000 x108001)) else (none)) else (none)) else (some (-1))
def spec_tiPlace.f (k : Nat) (l0 : List (S_Tile)) (a1_0 : Int) (a1_1 : Int) : Option (Int) := spec_tiPlace.l0 k l0 (l0.length : Int) 0 a1_0 a1_1
set_option maxRecDepth 100000 in
set_option maxHeartbeats 40000000 in
theorem spec_tiPlace.calls (k : Nat) (A0 : Option Addr) (c0 : Nat) (l0 : List (S_Tile)) (a1_0 : Int) (a1_1 : Int) (r : Int) (w : World) (hr0 : Kd.C k43 w A0 l0.length l0) (hc0 : l0.length ≤ c0) (h : spec_tiPlace.f k l0 a1_0 a1_1 = some r) :
    Calls Try.prog 34 #[.slice A0 l0.length c0, .agg #[.int .i64 a1_0, .int .i64 a1_1]] w fun e w' => e = .returned (.int .i64 r) ∧ Below w.heap.size w w' := by
  obtain ⟨cs, hcs⟩ : ∃ cs, cs = [old w w.heap.size] := ⟨_, rfl⟩
  have hp : Hp w cs w := by rw [hcs]; exact Hp.old_start w
  have hc2 : ∀ W, Hp w cs W → Below w.heap.size w W := fun W h => by rw [hcs] at h; exact h.since 0 _ rfl
  have hC0 : ∀ W, Hp w cs W → Kd.C k43 W A0 l0.length l0 := fun W h => Kd.C_below hr0 (hc2 W h)
  clear hcs
  unfold spec_tiPlace.f at h
  refine sx_enter (N := 19) (l := [.slice A0 l0.length c0, .agg #[.int .i64 a1_0, .int .i64 a1_1]]) Try.func34 rfl rfl rfl ?_
  refine wp_seq ?_
  refine sx_region ?_
  refine sx_box 3 hp #[.int .i64 a1_0, .int .i64 a1_1] 43 (by rfl) (fun W => by kernel_rfl) ?_
  intro g_1 W_2 hp
  refine sx_rd 4 (.int .i64 0) (by rfl) (by kernel_rfl) ?_
  refine sx_nil ?_
  refine ex_then_n ?_
  refine wp_seq ?_
  refine wp_seq ?_
  refine sx_region ?_
  refine sx_rd 7 (.slice A0 l0.length c0) (by rfl) (by kernel_rfl) ?_
  refine sx_rd 8 (.int .i64 (l0.length : Int)) (by rfl) (by kernel_rfl) ?_
  refine sx_rd 9 (.int .i64 0) (by rfl) (by kernel_rfl) ?_
  refine sx_nil ?_
  refine ex_then_n ?_
  refine wp_block ?_
  refine wp_loop_ghost (fun n_ a_ W => ∃ (r_ : List (Nat × Value)) (k_4 : Nat) (x_3 : Int)  , n_ = k_4 + 1 ∧ a_ = fr 19 ([(3, .pointer (some ⟨g_1, 0, none⟩)), (7, .slice A0 l0.length c0), (8, .int .i64 (l0.length : Int)), (9, .int .i64 x_3)] ++ r_) ∧ Hp w (blk g_1 #[.int .i64 a1_0, .int .i64 a1_1] 43 :: cs) W ∧ (spec_tiPlace.l0 k_4 l0 (l0.length : Int) x_3 a1_0 a1_1 = some r) ∧ (k_4 ≤ k)) _ ⟨_, k, 0, rfl, fr_front [(3, .pointer (some ⟨g_1, 0, none⟩)), (7, .slice A0 l0.length c0), (8, .int .i64 (l0.length : Int)), (9, .int .i64 0)] ⟨rfl, rfl, rfl, rfl, trivial⟩, (hp.take [0] 1 (by decide) (by simp)), h, (Nat.le_refl _)⟩ ?_
  rintro _ _ W_6 ⟨r_, k_4, x_3, rfl, rfl, hp, h, hk_5⟩
  rcases k_4 with _ | k_4
  · simp [spec_tiPlace.l0] at h
  simp only [spec_tiPlace.l0] at h
  refine wp_seq ?_
  refine sx_region ?_
  refine sx_rd 10 (.bool (decide (x_3 < (l0.length : Int)))) (by rfl) (by kernel_rfl) ?_
  refine sx_nil ?_
  refine ex_then_n ?_
  refine wp_seq ?_
  by_cases hc_7 : x_3 < (l0.length : Int)
  ·
    rw [if_pos hc_7] at h
    by_cases hc_8 : 0 ≤ x_3
    case neg => rw [if_neg hc_8] at h; cases h
    rw [if_pos hc_8] at h
    by_cases hc_9 : x_3 < (l0.length : Int)
    case neg => rw [if_neg hc_9] at h; cases h
    rw [if_pos hc_9] at h
    refine sx_then (decide (x_3 < (l0.length : Int))) (by rfl) (decide_eq_true hc_7) ?_
    refine wp_skip ?_
    refine ex_then_n ?_
    refine wp_seq ?_
    refine wp_block ?_
    refine wp_seq ?_
    refine sx_region ?_
    refine sx_rd 11 (.int .i64 x_3) (by rfl) (by kernel_rfl) ?_
    refine sx_rd 12 (.pointer (some (adr A0 x_3 2))) (by rfl) (ix_run (d := k43) (hC0 _ hp.tail) (t := 37) (by rfl) (by rfl) (by rfl) Try.underlying37 (by kernel_rfl) (by omega) (by omega)) ?_
    refine sx_rd 13 (.agg #[.int .i64 ((rd_Tile l0 x_3).f0), .int .i64 ((rd_Tile l0 x_3).f1)]) (by rfl) (el_run (d := k43) (hC0 _ hp.tail) z43 x_3 (by omega) (by omega) (cells := [.int .i64 ((rd_Tile l0 x_3).f0), .int .i64 ((rd_Tile l0 x_3).f1)]) (fun cs h => k43_open h) 0 [.int .i64 ((rd_Tile l0 x_3).f0), .int .i64 ((rd_Tile l0 x_3).f1)] (by rfl) (t := 43) (p := (.tmp 12)) (by rfl) (by rfl) (by kernel_rfl) (by kernel_rfl)) ?_
    refine sx_box 6 hp #[.int .i64 0, .int .i64 0] 43 (by rfl) (fun W => by kernel_rfl) ?_
    intro g_10 W_11 hp
    refine sx_rd 5 (.int .i64 x_3) (by rfl) (by kernel_rfl) ?_
    refine sx_store (t := 43) (p := (.tmp 6)) (x := (.tmp 13)) (by rfl) (by rfl) 0 (by rfl) 0 [.int .i64 ((rd_Tile l0 x_3).f0), .int .i64 ((rd_Tile l0 x_3).f1)] (by rfl) (by rfl) (by kernel_rfl) (by simp [Value.oneCell']) (by show 2 ≤ 2; omega) #[.int .i64 ((rd_Tile l0 x_3).f0), .int .i64 ((rd_Tile l0 x_3).f1)] (by rfl) hp ?_
    intro W_12 hp; simp only [List.set_cons_succ, List.set_cons_zero] at hp
    refine sx_nil ?_
    refine ex_then_n ?_
    refine wp_seq ?_
    refine sx_region ?_
    refine sx_rd 14 (.agg #[.int .i64 ((rd_Tile l0 x_3).f0), .int .i64 ((rd_Tile l0 x_3).f1)]) (by rfl) (ldn (t := 43) (p := (.tmp 6)) (by rfl) (by rfl) (by kernel_rfl) (by kernel_rfl) (by kernel_rfl) (hp.at_ 0 _ (by rfl))) ?_
    refine sx_rd 15 (.agg #[.int .i64 a1_0, .int .i64 a1_1]) (by rfl) (ldn (t := 43) (p := (.tmp 3)) (by rfl) (by rfl) (by kernel_rfl) (by kernel_rfl) (by kernel_rfl) (hp.at_ 1 _ (by rfl))) ?_
    refine sx_rd 16 (.bool ((rd_Tile l0 x_3).f0 == a1_0 && ((rd_Tile l0 x_3).f1 == a1_1))) (by rfl) (eqagg_run (by rfl) (by rfl) (by rfl) (fun d w => eqA43 d w _ _ _ _) (by kernel_rfl)) ?_
    refine sx_nil ?_
    refine ex_then_n ?_
    by_cases hc_13 : (((rd_Tile l0 x_3).f0) == a1_0 && (((rd_Tile l0 x_3).f1) == a1_1)) = true
    ·
      rw [if_pos hc_13] at h
      refine sx_then ((rd_Tile l0 x_3).f0 == a1_0 && ((rd_Tile l0 x_3).f1 == a1_1)) (by rfl) hc_13 ?_
      refine wp_seq ?_
      refine sx_region ?_
      refine sx_rd 17 (.int .i64 x_3) (by rfl) (by kernel_rfl) ?_
      refine sx_rd 4 (.int .i64 x_3) (by rfl) (by kernel_rfl) ?_
      refine sx_nil ?_
      refine ex_then_n ?_
      refine wp_ret ?_
      refine ex_blk_r (ex_then_r (ex_then_r (ex_blk_r (ex_then_r ?_))))
      refine sx_end (.int .i64 x_3) (res1 4 (by rfl)) ?_
      obtain rfl := Option.some.inj h
      exact ⟨rfl, hc2 _ (hp.tail.tail)⟩
    ·
      rw [if_neg hc_13] at h
      refine sx_else ((rd_Tile l0 x_3).f0 == a1_0 && ((rd_Tile l0 x_3).f1 == a1_1)) (by rfl) (Bool.eq_false_iff.mpr hc_13) ?_
      refine wp_skip ?_
      refine ex_blk_n ?_
      refine ex_then_n ?_
      refine sx_region ?_
      refine sx_rd 18 (.int .i64 (wrap64 (x_3 + 1))) (by rfl) (wr_w (by kernel_rfl)) ?_
      refine sx_rd 9 (.int .i64 (wrap64 (x_3 + 1))) (by rfl) (by kernel_rfl) ?_
      refine sx_nil ?_
      refine ex_then_n ?_
      exact ⟨_, (by omega), _, k_4, (wrap64 (x_3 + 1)), rfl, fr_front [(3, .pointer (some ⟨g_1, 0, none⟩)), (7, .slice A0 l0.length c0), (8, .int .i64 (l0.length : Int)), (9, .int .i64 (wrap64 (x_3 + 1)))] ⟨rfl, rfl, rfl, rfl, trivial⟩, (hp.take [1] 2 (by decide) (by simp)), h, (by omega)⟩
  ·
    rw [if_neg hc_7] at h
    refine sx_else (decide (x_3 < (l0.length : Int))) (by rfl) (decide_eq_false hc_7) ?_
    refine wp_exit ?_
    refine ex_then_e (ex_then_e (ex_blk_here ?_))
    refine ex_then_n ?_
    refine wp_seq ?_
    refine sx_region ?_
    refine sx_rd 4 (.int .i64 (-1)) (by rfl) (by kernel_rfl) ?_
    refine sx_nil ?_
    refine ex_then_n ?_
    refine wp_ret ?_
    refine sx_end (.int .i64 (-1)) (res1 4 (by rfl)) ?_
    obtain rfl := Option.some.inj h
    exact ⟨rfl, hc2 _ (hp.tail)⟩
end
section
open Go.RowKit Go.Proofs.YtipkmbgebpeeoaaW.PrintWords Go.Proofs.YtipkmbgebpeeoaaW.PrintLast Go.Proofs.YtipkmbgebpeeoaaW.PrintMore
attribute [local go_sem] max2_int min2_int max_two min_two max_three min_three max_four min_four   -- for this text's walks alone
set_option linter.unusedVariables false
set_option linter.unusedSimpArgs false

def spec_tiHand.l0 : Nat → List (S_Tile) → List (S_Tile) → Int → Int → Option (Bool)
  | 0, _, _, _, _ => none
  | k + 1, x0, x8, x9, x10 => if x10 < x9 then (if 0 ≤ x10 then (if x10 < (x8.length : Int) then ((spec_tiGood.f ((rd_Tile x8 x10).f0) ((rd_Tile x8 x10).f1)).bind fun t112 => (if t112 = true then (if x10 ≤ (x0.length : Int) then ((spec_tiPlace.f k (x0.take (x10 : Int).toNat) ((rd_Tile x8 x10).f0) ((rd_Tile x8 x10).f1)).bind fun t117 => (if t117 ≥ 0 then (some false) else (spec_tiHand.l0 k x0 x8 x9 (wrap64 (x10 + 1))))) else (none)) else (some false))) else (none)) else (none)) else (some true)
def spec_tiHand.f (k : Nat) (l0 : List (S_Tile)) : Option (Bool) := if (l0.length : Int) > 55 then (some false) else (spec_tiHand.l0 k l0 l0 (l0.length : Int) 0)
set_option maxRecDepth 100000 in
set_option maxHeartbeats 40000000 in
theorem spec_tiHand.calls (k : Nat) (A0 : Option Addr) (c0 : Nat) (l0 : List (S_Tile)) (r : Bool) (w : World) (hr0 : Kd.C k43 w A0 l0.length l0) (hc0 : l0.length ≤ c0) (h : spec_tiHand.f k l0 = some r) :
    Calls Try.prog 23 #[.slice A0 l0.length c0] w fun e w' => e = .returned (.bool r) ∧ Below w.heap.size w w' := by
  obtain ⟨cs, hcs⟩ : ∃ cs, cs = [old w w.heap.size] := ⟨_, rfl⟩
  have hp : Hp w cs w := by rw [hcs]; exact Hp.old_start w
  have hc2 : ∀ W, Hp w cs W → Below w.heap.size w W := fun W h => by rw [hcs] at h; exact h.since 0 _ rfl
  have hC0 : ∀ W, Hp w cs W → Kd.C k43 W A0 l0.length l0 := fun W h => Kd.C_below hr0 (hc2 W h)
  clear hcs
  unfold spec_tiHand.f at h
  refine sx_enter (N := 27) (l := [.slice A0 l0.length c0]) Try.func23 rfl rfl rfl ?_
  refine wp_seq ?_
  refine sx_region ?_
  refine sx_rd 2 (.bool false) (by rfl) (by kernel_rfl) ?_
  refine sx_nil ?_
  refine ex_then_n ?_
  refine wp_seq ?_
  refine wp_seq ?_
  refine sx_region ?_
  refine sx_rd 5 (.slice A0 l0.length c0) (by rfl) (by kernel_rfl) ?_
  refine sx_rd 6 (.int .i64 (l0.length : Int)) (by rfl) (by kernel_rfl) ?_
  refine sx_rd 7 (.bool (decide ((l0.length : Int) > 55))) (by rfl) (by kernel_rfl) ?_
  refine sx_nil ?_
  refine ex_then_n ?_
  by_cases hc_1 : (l0.length : Int) > 55
  ·
    rw [if_pos hc_1] at h
    refine sx_then (decide ((l0.length : Int) > 55)) (by rfl) (decide_eq_true hc_1) ?_
    refine wp_seq ?_
    refine sx_region ?_
    refine sx_rd 2 (.bool false) (by rfl) (by kernel_rfl) ?_
    refine sx_nil ?_
    refine ex_then_n ?_
    refine wp_ret ?_
    refine ex_then_r ?_
    refine sx_end (.bool false) (res1 2 (by rfl)) ?_
    obtain rfl := Option.some.inj h
    exact ⟨rfl, hc2 _ (hp)⟩
  ·
    rw [if_neg hc_1] at h
    refine sx_else (decide ((l0.length : Int) > 55)) (by rfl) (decide_eq_false hc_1) ?_
    refine wp_skip ?_
    refine ex_then_n ?_
    refine wp_seq ?_
    refine wp_seq ?_
    refine sx_region ?_
    refine sx_rd 8 (.slice A0 l0.length c0) (by rfl) (by kernel_rfl) ?_
    refine sx_rd 9 (.int .i64 (l0.length : Int)) (by rfl) (by kernel_rfl) ?_
    refine sx_rd 10 (.int .i64 0) (by rfl) (by kernel_rfl) ?_
    refine sx_nil ?_
    refine ex_then_n ?_
    refine wp_block ?_
    refine wp_loop_ghost (fun n_ a_ W => ∃ (r_ : List (Nat × Value)) (k_3 : Nat) (x_2 : Int)  , n_ = k_3 + 1 ∧ a_ = fr 27 ([(0, .slice A0 l0.length c0), (8, .slice A0 l0.length c0), (9, .int .i64 (l0.length : Int)), (10, .int .i64 x_2)] ++ r_) ∧ Hp w (cs) W ∧ (spec_tiHand.l0 k_3 l0 l0 (l0.length : Int) x_2 = some r) ∧ (k_3 ≤ k)) _ ⟨_, k, 0, rfl, fr_front [(0, .slice A0 l0.length c0), (8, .slice A0 l0.length c0), (9, .int .i64 (l0.length : Int)), (10, .int .i64 0)] ⟨rfl, rfl, rfl, rfl, trivial⟩, (hp.take [] 0 (by decide) (by simp)), h, (Nat.le_refl _)⟩ ?_
    rintro _ _ W_5 ⟨r_, k_3, x_2, rfl, rfl, hp, h, hk_4⟩
    rcases k_3 with _ | k_3
    · simp [spec_tiHand.l0] at h
    simp only [spec_tiHand.l0] at h
    refine wp_seq ?_
    refine sx_region ?_
    refine sx_rd 11 (.bool (decide (x_2 < (l0.length : Int)))) (by rfl) (by kernel_rfl) ?_
    refine sx_nil ?_
    refine ex_then_n ?_
    refine wp_seq ?_
    by_cases hc_6 : x_2 < (l0.length : Int)
    ·
      rw [if_pos hc_6] at h
      by_cases hc_7 : 0 ≤ x_2
      case neg => rw [if_neg hc_7] at h; cases h
      rw [if_pos hc_7] at h
      by_cases hc_8 : x_2 < (l0.length : Int)
      case neg => rw [if_neg hc_8] at h; cases h
      rw [if_pos hc_8] at h
      obtain ⟨t_10, hv_9, h⟩ := Option.bind_eq_some_iff.mp h
      try dsimp only at h
      refine sx_then (decide (x_2 < (l0.length : Int))) (by rfl) (decide_eq_true hc_6) ?_
      refine wp_skip ?_
      refine ex_then_n ?_
      refine wp_seq ?_
      refine wp_block ?_
      refine wp_seq ?_
      refine sx_region ?_
      refine sx_rd 12 (.int .i64 x_2) (by rfl) (by kernel_rfl) ?_
      refine sx_rd 13 (.pointer (some (adr A0 x_2 2))) (by rfl) (ix_run (d := k43) (hC0 _ hp) (t := 37) (by rfl) (by rfl) (by rfl) Try.underlying37 (by kernel_rfl) (by omega) (by omega)) ?_
      refine sx_rd 14 (.agg #[.int .i64 ((rd_Tile l0 x_2).f0), .int .i64 ((rd_Tile l0 x_2).f1)]) (by rfl) (el_run (d := k43) (hC0 _ hp) z43 x_2 (by omega) (by omega) (cells := [.int .i64 ((rd_Tile l0 x_2).f0), .int .i64 ((rd_Tile l0 x_2).f1)]) (fun cs h => k43_open h) 0 [.int .i64 ((rd_Tile l0 x_2).f0), .int .i64 ((rd_Tile l0 x_2).f1)] (by rfl) (t := 43) (p := (.tmp 13)) (by rfl) (by rfl) (by kernel_rfl) (by kernel_rfl)) ?_
      refine sx_box 4 hp #[.int .i64 0, .int .i64 0] 43 (by rfl) (fun W => by kernel_rfl) ?_
      intro g_11 W_12 hp
      refine sx_rd 3 (.int .i64 x_2) (by rfl) (by kernel_rfl) ?_
      refine sx_store (t := 43) (p := (.tmp 4)) (x := (.tmp 14)) (by rfl) (by rfl) 0 (by rfl) 0 [.int .i64 ((rd_Tile l0 x_2).f0), .int .i64 ((rd_Tile l0 x_2).f1)] (by rfl) (by rfl) (by kernel_rfl) (by simp [Value.oneCell']) (by show 2 ≤ 2; omega) #[.int .i64 ((rd_Tile l0 x_2).f0), .int .i64 ((rd_Tile l0 x_2).f1)] (by rfl) hp ?_
      intro W_13 hp; simp only [List.set_cons_succ, List.set_cons_zero] at hp
      refine sx_nil ?_
      refine ex_then_n ?_
      refine wp_seq ?_
      by_cases hc_14 : t_10 = true
      ·
        rw [if_pos hc_14] at h
        by_cases hc_15 : x_2 ≤ (l0.length : Int)
        case neg => rw [if_neg hc_15] at h; cases h
        rw [if_pos hc_15] at h
        obtain ⟨t_17, hv_16, h⟩ := Option.bind_eq_some_iff.mp h
        try dsimp only at h
        refine sx_drawT [] (.rd 0 (.alt 1 (.rd 2 (.rd 3 (.rd 4 (.rd 5 (.rd 7 (.alt 6 (.alt 8 (.rd 9 (.rd 10 (.fin))) .non) .non)))))) .non)) 11 (C := Hp w (blk g_11 #[.int .i64 ((rd_Tile l0 x_2).f0), .int .i64 ((rd_Tile l0 x_2).f1)] 43 :: cs)) (by kernel_rfl) (by kernel_rfl) (fun d _ _ _ _ h => by cases d <;> exact h) (fun W h => h.drew) hp ?_
        refine preI_nil ?_
        intro W_18 hp
        refine treeI_rd rfl ?_
        refine sxq_val 15 (.agg #[.int .i64 ((rd_Tile l0 x_2).f0), .int .i64 ((rd_Tile l0 x_2).f1)]) (by rfl) (fun W hp => (ldn (t := 43) (p := (.tmp 4)) (by rfl) (by rfl) (by kernel_rfl) (by kernel_rfl) (by kernel_rfl) (hp.at_ 0 _ (by rfl)))) ?_
        refine sxq_nil ?_
        refine treeI_ev rfl ?_
        refine sx_call 16 (by rfl) (by kernel_rfl) ((spec_tiGood.calls ((rd_Tile l0 x_2).f0) ((rd_Tile l0 x_2).f1) _ _ hv_9).mono ?_)
        rintro _ W_19 ⟨rfl, hb⟩
        refine ⟨_, rfl, ?_⟩
        replace hp := hp.below hb
        clear hb
        refine step_fin hp ?_
        refine treeI_rd rfl ?_
        refine sxq_val 17 (.bool false) (by rfl) (fun W hp => (bv (show (!t_10) = false from by rw [hc_14]; rfl) (by kernel_rfl))) ?_
        refine sxq_nil ?_
        refine treeI_rd rfl ?_
        refine sxq_val 18 (.bool false) (by rfl) (fun W hp => (by kernel_rfl)) ?_
        refine sxq_nil ?_
        refine treeI_rd rfl ?_
        refine sxq_want (by rfl) ?_
        refine sxq_val 19 (.slice A0 l0.length c0) (by rfl) (fun W hp => (by kernel_rfl)) ?_
        refine sxq_nil ?_
        refine treeI_rd rfl ?_
        refine sxq_want (by rfl) ?_
        refine sxq_val 20 (.int .i64 x_2) (by rfl) (fun W hp => (by kernel_rfl)) ?_
        refine sxq_nil ?_
        refine treeI_rd rfl ?_
        refine sxq_want (by rfl) ?_
        refine sxq_val 22 (.agg #[.int .i64 ((rd_Tile l0 x_2).f0), .int .i64 ((rd_Tile l0 x_2).f1)]) (by rfl) (fun W hp => (ldn (t := 43) (p := (.tmp 4)) (by rfl) (by rfl) (by kernel_rfl) (by kernel_rfl) (by kernel_rfl) (hp.at_ 0 _ (by rfl)))) ?_
        refine sxq_nil ?_
        refine treeI_ev rfl ?_
        refine sx_want (by rfl) ?_
        have hcap_20 : l0.length ≤ c0 := hc0
        refine sx_rd 21 (.slice A0 ((l0.take (x_2).toNat).length) c0) (by rfl) (sl_hi (x_2).toNat (sz := 2) (xs := l0) (by rfl) (by rfl) (by rfl) (by omega) Try.underlying37 (by kernel_rfl) (by omega) hcap_20) ?_
        refine step_fin hp ?_
        refine treeI_ev rfl ?_
        refine sx_want (by rfl) ?_
        refine sx_call 23 (by rfl) (by kernel_rfl) ((spec_tiPlace.calls _ A0 c0 (l0.take (x_2).toNat) ((rd_Tile l0 x_2).f0) ((rd_Tile l0 x_2).f1) _ _ (Kd.C_take (hC0 _ hp.tail) (by omega)) (show (l0.take (x_2).toNat).length ≤ c0 by simp; omega) hv_16).mono ?_)
        rintro _ W_21 ⟨rfl, hb⟩
        refine ⟨_, rfl, ?_⟩
        replace hp := hp.below hb
        clear hb
        refine step_fin hp ?_
        refine treeI_rd rfl ?_
        refine sxq_want (by rfl) ?_
        refine sxq_val 24 (.bool (decide (t_17 ≥ 0))) (by rfl) (fun W hp => (by kernel_rfl)) ?_
        refine sxq_nil ?_
        refine treeI_rd rfl ?_
        refine sxq_val 25 (.bool (decide (t_17 ≥ 0))) (by rfl) (fun W hp => (by kernel_rfl)) ?_
        refine sxq_nil ?_
        refine treeI_fin ?_
        refine sx_nil ?_
        refine ex_then_n ?_
        by_cases hc_22 : t_17 ≥ 0
        ·
          rw [if_pos hc_22] at h
          refine sx_then (decide (t_17 ≥ 0)) (by rfl) (decide_eq_true hc_22) ?_
          refine wp_seq ?_
          refine sx_region ?_
          refine sx_rd 2 (.bool false) (by rfl) (by kernel_rfl) ?_
          refine sx_nil ?_
          refine ex_then_n ?_
          refine wp_ret ?_
          refine ex_blk_r (ex_then_r (ex_then_r (ex_blk_r (ex_then_r ?_))))
          refine sx_end (.bool false) (res1 2 (by rfl)) ?_
          obtain rfl := Option.some.inj h
          exact ⟨rfl, hc2 _ (hp.tail)⟩
        ·
          rw [if_neg hc_22] at h
          refine sx_else (decide (t_17 ≥ 0)) (by rfl) (decide_eq_false hc_22) ?_
          refine wp_skip ?_
          refine ex_blk_n ?_
          refine ex_then_n ?_
          refine sx_region ?_
          refine sx_rd 26 (.int .i64 (wrap64 (x_2 + 1))) (by rfl) (wr_w (by kernel_rfl)) ?_
          refine sx_rd 10 (.int .i64 (wrap64 (x_2 + 1))) (by rfl) (by kernel_rfl) ?_
          refine sx_nil ?_
          refine ex_then_n ?_
          exact ⟨_, (by omega), _, k_3, (wrap64 (x_2 + 1)), rfl, fr_front [(0, .slice A0 l0.length c0), (8, .slice A0 l0.length c0), (9, .int .i64 (l0.length : Int)), (10, .int .i64 (wrap64 (x_2 + 1)))] ⟨rfl, rfl, rfl, rfl, trivial⟩, (hp.take [] 1 (by decide) (by simp)), h, (by omega)⟩
      ·
        rw [if_neg hc_14] at h
        refine sx_drawT [] (.rd 0 (.alt 1 (.rd 2 (.rd 3 (.rd 4 (.rd 5 (.rd 7 (.alt 6 (.alt 8 (.rd 9 (.rd 10 (.fin))) .non) .non)))))) .non)) 11 (C := Hp w (blk g_11 #[.int .i64 ((rd_Tile l0 x_2).f0), .int .i64 ((rd_Tile l0 x_2).f1)] 43 :: cs)) (by kernel_rfl) (by kernel_rfl) (fun d _ _ _ _ h => by cases d <;> exact h) (fun W h => h.drew) hp ?_
        refine preI_nil ?_
        intro W_23 hp
        refine treeI_rd rfl ?_
        refine sxq_val 15 (.agg #[.int .i64 ((rd_Tile l0 x_2).f0), .int .i64 ((rd_Tile l0 x_2).f1)]) (by rfl) (fun W hp => (ldn (t := 43) (p := (.tmp 4)) (by rfl) (by rfl) (by kernel_rfl) (by kernel_rfl) (by kernel_rfl) (hp.at_ 0 _ (by rfl)))) ?_
        refine sxq_nil ?_
        refine treeI_ev rfl ?_
        refine sx_call 16 (by rfl) (by kernel_rfl) ((spec_tiGood.calls ((rd_Tile l0 x_2).f0) ((rd_Tile l0 x_2).f1) _ _ hv_9).mono ?_)
        rintro _ W_24 ⟨rfl, hb⟩
        refine ⟨_, rfl, ?_⟩
        replace hp := hp.below hb
        clear hb
        refine step_fin hp ?_
        refine treeI_rd rfl ?_
        refine sxq_val 17 (.bool true) (by rfl) (fun W hp => (bv (show (!t_10) = true from by rw [(Bool.eq_false_iff.mpr hc_14)]; rfl) (by kernel_rfl))) ?_
        refine sxq_nil ?_
        refine treeI_rd rfl ?_
        refine sxq_val 18 (.bool true) (by rfl) (fun W hp => (by kernel_rfl)) ?_
        refine sxq_nil ?_
        refine treeI_rd rfl ?_
        refine sxq_skip 19 (by rfl) (by rfl) (by rfl) ?_
        refine sxq_nil ?_
        refine treeI_rd rfl ?_
        refine sxq_skip 20 (by rfl) (by rfl) (by rfl) ?_
        refine sxq_nil ?_
        refine treeI_rd rfl ?_
        refine sxq_skip 22 (by rfl) (by rfl) (by rfl) ?_
        refine sxq_nil ?_
        refine treeI_ev rfl ?_
        refine sx_skip 21 (by rfl) (by rfl) (by rfl) ?_
        refine step_fin hp ?_
        refine treeI_ev rfl ?_
        refine sx_skip 23 (by rfl) (by rfl) (by rfl) ?_
        refine step_fin hp ?_
        refine treeI_rd rfl ?_
        refine sxq_skip 24 (by rfl) (by rfl) (by rfl) ?_
        refine sxq_nil ?_
        refine treeI_rd rfl ?_
        refine sxq_val 25 (.bool true) (by rfl) (fun W hp => (by kernel_rfl)) ?_
        refine sxq_nil ?_
        refine treeI_fin ?_
        refine sx_nil ?_
        refine ex_then_n ?_
        refine sx_then true (by rfl) rfl ?_
        refine wp_seq ?_
        refine sx_region ?_
        refine sx_rd 2 (.bool false) (by rfl) (by kernel_rfl) ?_
        refine sx_nil ?_
        refine ex_then_n ?_
        refine wp_ret ?_
        refine ex_blk_r (ex_then_r (ex_then_r (ex_blk_r (ex_then_r ?_))))
        refine sx_end (.bool false) (res1 2 (by rfl)) ?_
        obtain rfl := Option.some.inj h
        exact ⟨rfl, hc2 _ (hp.tail)⟩
    ·
      rw [if_neg hc_6] at h
      refine sx_else (decide (x_2 < (l0.length : Int))) (by rfl) (decide_eq_false hc_6) ?_
      refine wp_exit ?_
      refine ex_then_e (ex_then_e (ex_blk_here ?_))
      refine ex_then_n ?_
      refine wp_seq ?_
      refine sx_region ?_
      refine sx_rd 2 (.bool true) (by rfl) (by kernel_rfl) ?_
      refine sx_nil ?_
      refine ex_then_n ?_
      refine wp_ret ?_
      refine sx_end (.bool true) (res1 2 (by rfl)) ?_
      obtain rfl := Option.some.inj h
      exact ⟨rfl, hc2 _ (hp)⟩
end
section
open Go.RowKit Go.Proofs.YtipkmbgebpeeoaaW.PrintWords Go.Proofs.YtipkmbgebpeeoaaW.PrintLast Go.Proofs.YtipkmbgebpeeoaaW.PrintMore
attribute [local go_sem] max2_int min2_int max_two min_two max_three min_three max_four min_four   -- for this text's walks alone
set_option linter.unusedVariables false
set_option linter.unusedSimpArgs false

def spec_tiOf.f (a0 : Int) (a1 : Int) : Option (Int × Int) := (spec_l1Least.f a0 a1).bind fun t119 => ((spec_l1Most.f a0 a1).bind fun t120 => (some (t119, t120)))
set_option maxRecDepth 100000 in
set_option maxHeartbeats 40000000 in
theorem spec_tiOf.calls (a0 : Int) (a1 : Int) (r1 : Int) (r2 : Int) (w : World) (h : spec_tiOf.f a0 a1 = some (r1, r2)) :
    Calls Try.prog 41 #[.int .i64 a0, .int .i64 a1] w fun e w' => e = .returned (.agg #[.int .i64 r1, .int .i64 r2]) ∧ Below w.heap.size w w' := by
  obtain ⟨cs, hcs⟩ : ∃ cs, cs = [old w w.heap.size] := ⟨_, rfl⟩
  have hp : Hp w cs w := by rw [hcs]; exact Hp.old_start w
  have hc2 : ∀ W, Hp w cs W → Below w.heap.size w W := fun W h => by rw [hcs] at h; exact h.since 0 _ rfl
  clear hcs
  unfold spec_tiOf.f at h
  obtain ⟨t_2, hv_1, h⟩ := Option.bind_eq_some_iff.mp h
  try dsimp only at h
  obtain ⟨t_4, hv_3, h⟩ := Option.bind_eq_some_iff.mp h
  try dsimp only at h
  refine sx_enter (N := 12) (l := [.int .i64 a0, .int .i64 a1]) Try.func41 rfl rfl rfl ?_
  refine wp_seq ?_
  refine sx_region ?_
  refine sx_box 4 hp #[.int .i64 0, .int .i64 0] 43 (by rfl) (fun W => by kernel_rfl) ?_
  intro g_5 W_6 hp
  refine sx_nil ?_
  refine ex_then_n ?_
  refine wp_seq ?_
  refine sx_region ?_
  refine sx_rd 5 (.int .i64 a0) (by rfl) (by kernel_rfl) ?_
  refine sx_rd 6 (.int .i64 a1) (by rfl) (by kernel_rfl) ?_
  refine sx_call 7 (by rfl) (by kernel_rfl) ((spec_l1Least.calls a0 a1 _ _ hv_1).mono ?_)
  rintro _ W_7 ⟨rfl, hb⟩
  refine ⟨_, rfl, ?_⟩
  replace hp := hp.below hb.below
  clear hb
  refine sx_rd 8 (.int .i64 a0) (by rfl) (by kernel_rfl) ?_
  refine sx_rd 9 (.int .i64 a1) (by rfl) (by kernel_rfl) ?_
  refine sx_call 10 (by rfl) (by kernel_rfl) ((spec_l1Most.calls a0 a1 _ _ hv_3).mono ?_)
  rintro _ W_8 ⟨rfl, hb⟩
  refine ⟨_, rfl, ?_⟩
  replace hp := hp.below hb.below
  clear hb
  refine sx_rd 11 (.agg #[.int .i64 t_2, .int .i64 t_4]) (by rfl) (by kernel_rfl) ?_
  refine sx_store (t := 43) (p := (.tmp 4)) (x := (.tmp 11)) (by rfl) (by rfl) 0 (by rfl) 0 [.int .i64 t_2, .int .i64 t_4] (by rfl) (by rfl) (by kernel_rfl) (by simp [Value.oneCell']) (by show 2 ≤ 2; omega) #[.int .i64 t_2, .int .i64 t_4] (by rfl) hp ?_
  intro W_9 hp; simp only [List.set_cons_succ, List.set_cons_zero] at hp
  refine sx_nil ?_
  refine ex_then_n ?_
  refine wp_ret ?_
  refine sx_end (.agg #[.int .i64 t_2, .int .i64 t_4]) (resc (by rfl) (by rfl) (by kernel_rfl) (by kernel_rfl) (hp.at_ 0 _ (by rfl))) ?_
  simp only [Option.some.injEq, Prod.mk.injEq] at h; obtain ⟨rfl, rfl⟩ := h
  exact ⟨rfl, hc2 _ (hp.tail)⟩
end
section
open Go.RowKit Go.Proofs.YtipkmbgebpeeoaaW.PrintWords Go.Proofs.YtipkmbgebpeeoaaW.PrintLast Go.Proofs.YtipkmbgebpeeoaaW.PrintMore
attribute [local go_sem] max2_int min2_int max_two min_two max_three min_three max_four min_four   -- for this text's walks alone
set_option linter.unusedVariables false
set_option linter.unusedSimpArgs false

def spec_wiTiles.l0 : Nat → List Int → List (S_Tile) → Int → Option ((List (S_Tile)))
  | 0, _, _, _ => none
  | k + 1, x0, x3, x4 => if (wrap64 (x4 + 1)) < (x0.length : Int) then (if 0 ≤ x4 then (if x4 < (x0.length : Int) then (if 0 ≤ (wrap64 (x4 + 1)) then ((spec_tiOf.f (rd x0 x4) (rd x0 (wrap64 (x4 + 1)))).bind fun bt123 => (if x3.length < 8796093022208 then (spec_wiTiles.l0 k x0 (x3 ++ [(⟨bt123.1, bt123.2⟩ : S_Tile)]) (wrap64 (x4 + 2))) else (none))) else (none)) else (none)) else (none)) else (some x3)
def spec_wiTiles.f (k : Nat) (l0 : List Int) : Option ((List (S_Tile))) := spec_wiTiles.l0 k l0 ([] : List (S_Tile)) 0
set_option maxRecDepth 100000 in
set_option maxHeartbeats 40000000 in
theorem spec_wiTiles.calls (k : Nat) (A0 : Option Addr) (c0 : Nat) (l0 : List Int) (r : List (S_Tile)) (w : World) (hr0 : Kd.C (Kd.int .i64) w A0 l0.length l0) (hc0 : l0.length ≤ c0) (h : spec_wiTiles.f k l0 = some r) :
    Calls Try.prog 35 #[.slice A0 l0.length c0] w fun e w' => ∃ v0_ : Value, e = .returned (v0_) ∧ Kd.R k43 43 w' w.heap.size (fun _ => True) v0_ r ∧ Below w.heap.size w w' := by
  obtain ⟨cs, hcs⟩ : ∃ cs, cs = [old w w.heap.size] := ⟨_, rfl⟩
  have hp : Hp w cs w := by rw [hcs]; exact Hp.old_start w
  have hc2 : ∀ W, Hp w cs W → Below w.heap.size w W := fun W h => by rw [hcs] at h; exact h.since 0 _ rfl
  have hC0 : ∀ W, Hp w cs W → Kd.C (Kd.int .i64) W A0 l0.length l0 := fun W h => Kd.C_below hr0 (hc2 W h)
  clear hcs
  unfold spec_wiTiles.f at h
  refine sx_enter (N := 26) (l := [.slice A0 l0.length c0]) Try.func35 rfl rfl rfl ?_
  refine wp_seq ?_
  refine sx_region ?_
  refine sx_rd 2 (.slice none 0 0) (by rfl) (by kernel_rfl) ?_
  refine sx_nil ?_
  refine ex_then_n ?_
  refine wp_seq ?_
  refine sx_region ?_
  refine sx_rd 3 (.slice none 0 0) (by rfl) (by kernel_rfl) ?_
  refine sx_nil ?_
  refine ex_then_n ?_
  refine wp_seq ?_
  refine wp_seq ?_
  refine sx_region ?_
  refine sx_rd 4 (.int .i64 0) (by rfl) (by kernel_rfl) ?_
  refine sx_nil ?_
  refine ex_then_n ?_
  refine wp_block ?_
  have hp := hp.nilrow k43 43 w.heap.size
  refine wp_loop_ghost (fun n_ a_ W => ∃ (r_ : List (Nat × Value)) (k_3 : Nat) (x_2 : Int) (x_1 : List (S_Tile)) (A_4 : Option Addr) (n_5 c_6 : Nat) (F_7 : Nat → Prop), n_ = k_3 + 1 ∧ a_ = fr 26 ([(0, .slice A0 l0.length c0), (3, .slice A_4 n_5 c_6), (4, .int .i64 x_2)] ++ r_) ∧ Hp w (row k43 43 w.heap.size (.slice A_4 n_5 c_6) x_1 F_7 :: cs) W ∧ (spec_wiTiles.l0 k_3 l0 x_1 x_2 = some r) ∧ (k_3 ≤ k)) _ ⟨_, k, 0, ([] : List (S_Tile)), _, _, _, _, rfl, fr_front [(0, .slice A0 l0.length c0), (3, .slice none 0 0), (4, .int .i64 0)] ⟨rfl, rfl, rfl, trivial⟩, (hp.take [0] 1 (by decide) (by simp)), h, (Nat.le_refl _)⟩ ?_
  rintro _ _ W_9 ⟨r_, k_3, x_2, x_1, A_4, n_5, c_6, F_7, rfl, rfl, hp, h, hk_8⟩
  obtain ⟨rfl, -⟩ := row_len (hp.at_ 0 _ (by rfl))
  rcases k_3 with _ | k_3
  · simp [spec_wiTiles.l0] at h
  simp only [spec_wiTiles.l0] at h
  refine wp_seq ?_
  refine wp_seq ?_
  refine sx_region ?_
  refine sx_rd 5 (.int .i64 x_2) (by rfl) (by kernel_rfl) ?_
  refine sx_rd 6 (.int .i64 (wrap64 (x_2 + 1))) (by rfl) (wr_w (by kernel_rfl)) ?_
  refine sx_rd 7 (.slice A0 l0.length c0) (by rfl) (by kernel_rfl) ?_
  refine sx_rd 8 (.int .i64 (l0.length : Int)) (by rfl) (by kernel_rfl) ?_
  refine sx_rd 9 (.bool (decide ((wrap64 (x_2 + 1)) < (l0.length : Int)))) (by rfl) (by kernel_rfl) ?_
  refine sx_nil ?_
  refine ex_then_n ?_
  by_cases hc_10 : (wrap64 (x_2 + 1)) < (l0.length : Int)
  ·
    rw [if_pos hc_10] at h
    by_cases hc_11 : 0 ≤ x_2
    case neg => rw [if_neg hc_11] at h; cases h
    rw [if_pos hc_11] at h
    by_cases hc_12 : x_2 < (l0.length : Int)
    case neg => rw [if_neg hc_12] at h; cases h
    rw [if_pos hc_12] at h
    by_cases hc_13 : 0 ≤ (wrap64 (x_2 + 1))
    case neg => rw [if_neg hc_13] at h; cases h
    rw [if_pos hc_13] at h
    obtain ⟨⟨t_15, t_16⟩, hv_14, h⟩ := Option.bind_eq_some_iff.mp h
    try dsimp only at h
    by_cases hc_17 : x_1.length < 8796093022208
    case neg => rw [if_neg hc_17] at h; cases h
    rw [if_pos hc_17] at h
    refine sx_then (decide ((wrap64 (x_2 + 1)) < (l0.length : Int))) (by rfl) (decide_eq_true hc_10) ?_
    refine wp_skip ?_
    refine ex_then_n ?_
    refine wp_seq ?_
    refine wp_block ?_
    refine sx_drawT [0, 1, 2, 5, 6, 7] (.rd 3 (.rd 4 (.rd 8 (.rd 9 (.alt 10 (.alt 11 (.fin) .non) .non))))) 12 (C := Hp w (row k43 43 w.heap.size (.slice A_4 x_1.length c_6) x_1 F_7 :: cs)) (by kernel_rfl) (by kernel_rfl) (fun d _ _ _ _ h => by cases d <;> exact h) (fun W h => h.drew) hp ?_
    refine preI_read rfl ?_
    refine sxq_val 12 (.slice A_4 x_1.length c_6) (by rfl) (fun W _ => (by kernel_rfl)) ?_
    refine sxq_nil ?_
    refine preI_read rfl ?_
    refine sxq_val 13 (.slice A0 l0.length c0) (by rfl) (fun W _ => (by kernel_rfl)) ?_
    refine sxq_nil ?_
    refine preI_read rfl ?_
    refine sxq_val 14 (.int .i64 x_2) (by rfl) (fun W _ => (by kernel_rfl)) ?_
    refine sxq_nil ?_
    refine preI_read rfl ?_
    refine sxq_val 17 (.slice A0 l0.length c0) (by rfl) (fun W _ => (by kernel_rfl)) ?_
    refine sxq_nil ?_
    refine preI_read rfl ?_
    refine sxq_val 18 (.int .i64 x_2) (by rfl) (fun W _ => (by kernel_rfl)) ?_
    refine sxq_nil ?_
    refine preI_read rfl ?_
    refine sxq_val 19 (.int .i64 (wrap64 (x_2 + 1))) (by rfl) (fun W _ => (wr_w (by kernel_rfl))) ?_
    refine sxq_nil ?_
    refine preI_nil ?_
    intro W_18 hp
    refine treeI_rd rfl ?_
    refine sxq_val 15 (.pointer (some (adr A0 x_2 1))) (by rfl) (fun W hp => (ix_run (d := (Kd.int .i64)) (hC0 _ hp.tail) (t := 30) (by rfl) (by rfl) (by rfl) Try.underlying30 (by kernel_rfl) (by omega) (by omega))) ?_
    refine sxq_nil ?_
    refine treeI_rd rfl ?_
    refine sxq_val 16 (.int .i64 (rd l0 x_2)) (by rfl) (fun W hp => (ld1 (t := 3) (p := (.tmp 15)) (by rfl) (by rfl) (by kernel_rfl) (el_cell (d := (Kd.int .i64)) (hC0 _ hp.tail) 0 x_2 (by omega) (by omega) (cells := [.int .i64 (rd l0 x_2)]) (fun cs h => h) 0 _ (by rfl)))) ?_
    refine sxq_nil ?_
    refine treeI_rd rfl ?_
    refine sxq_val 20 (.pointer (some (adr A0 (wrap64 (x_2 + 1)) 1))) (by rfl) (fun W hp => (ix_run (d := (Kd.int .i64)) (hC0 _ hp.tail) (t := 30) (by rfl) (by rfl) (by rfl) Try.underlying30 (by kernel_rfl) (by omega) (by omega))) ?_
    refine sxq_nil ?_
    refine treeI_rd rfl ?_
    refine sxq_val 21 (.int .i64 (rd l0 (wrap64 (x_2 + 1)))) (by rfl) (fun W hp => (ld1 (t := 3) (p := (.tmp 20)) (by rfl) (by rfl) (by kernel_rfl) (el_cell (d := (Kd.int .i64)) (hC0 _ hp.tail) 0 (wrap64 (x_2 + 1)) (by omega) (by omega) (cells := [.int .i64 (rd l0 (wrap64 (x_2 + 1)))]) (fun cs h => h) 0 _ (by rfl)))) ?_
    refine sxq_nil ?_
    refine treeI_ev rfl ?_
    refine sx_call 22 (by rfl) (by kernel_rfl) ((spec_tiOf.calls (rd l0 x_2) (rd l0 (wrap64 (x_2 + 1))) _ _ _ hv_14).mono ?_)
    rintro _ W_19 ⟨rfl, hb⟩
    refine ⟨_, rfl, ?_⟩
    replace hp := hp.below hb
    clear hb
    refine step_fin hp ?_
    refine treeI_ev rfl ?_
    refine sx_lit 23 (by rfl) k43 w.heap.size 43 ([(⟨t_15, t_16⟩ : S_Tile)]) [.int .i64 t_15, .int .i64 t_16] (fun W => by kernel_rfl) (tile_reps _ _ _) (by simp) hp.size hp ?_
    intro g_20 F_21 W_22 hp hz; clear hz
    refine step_fin hp.tail ?_
    refine treeI_fin ?_
    refine tail_of [12, 13] (by rfl) ?_
    refine tailI_op rfl ?_
    refine sx_append 24 (by rfl) k43 1 (by rfl) (.agg #[.int .i64 0, .int .i64 0]) 16 (by rfl) Try.underlying37 (by kernel_rfl) rfl (by decide) (by decide) ([(⟨t_15, t_16⟩ : S_Tile)]) (by rfl) (by rfl) (row_C (hp.at_ 0 _ (by rfl))) tile_kp hp.size (by first | omega | (simp; omega)) hp ?_
    intro A_23 c_24 F_25 W_26 hp hz; clear hz; simp only [List.set_cons_succ, List.set_cons_zero] at hp
    refine tailI_next ?_
    refine tailI_op rfl ?_
    refine sx_rd 3 (.slice A_23 ((x_1 ++ [(⟨t_15, t_16⟩ : S_Tile)]).length) c_24) (by rfl) (by kernel_rfl) ?_
    refine tailI_next ?_
    refine tailI_nil ?_
    refine ex_blk_n ?_
    refine ex_then_n ?_
    refine sx_region ?_
    refine sx_rd 10 (.int .i64 x_2) (by rfl) (by kernel_rfl) ?_
    refine sx_rd 11 (.int .i64 (wrap64 (x_2 + 2))) (by rfl) (wr_w (by kernel_rfl)) ?_
    refine sx_rd 4 (.int .i64 (wrap64 (x_2 + 2))) (by rfl) (by kernel_rfl) ?_
    refine sx_nil ?_
    refine ex_then_n ?_
    exact ⟨_, (by omega), _, k_3, (wrap64 (x_2 + 2)), (x_1 ++ [(⟨t_15, t_16⟩ : S_Tile)]), _, _, _, _, rfl, fr_front [(0, .slice A0 l0.length c0), (3, .slice A_23 ((x_1 ++ [(⟨t_15, t_16⟩ : S_Tile)]).length) c_24), (4, .int .i64 (wrap64 (x_2 + 2)))] ⟨rfl, rfl, rfl, trivial⟩, (hp.take [1] 2 (by decide) (by simp)), h, (by omega)⟩
  ·
    rw [if_neg hc_10] at h
    refine sx_else (decide ((wrap64 (x_2 + 1)) < (l0.length : Int))) (by rfl) (decide_eq_false hc_10) ?_
    refine wp_exit ?_
    refine ex_then_e (ex_then_e (ex_blk_here ?_))
    refine ex_then_n ?_
    refine wp_seq ?_
    refine sx_region ?_
    refine sx_rd 25 (.slice A_4 x_1.length c_6) (by rfl) (by kernel_rfl) ?_
    refine sx_rd 2 (.slice A_4 x_1.length c_6) (by rfl) (by kernel_rfl) ?_
    refine sx_nil ?_
    refine ex_then_n ?_
    refine wp_ret ?_
    refine sx_end (.slice A_4 x_1.length c_6) (res1 2 (by rfl)) ?_
    obtain rfl := Option.some.inj h
    exact ⟨_, rfl, Kd.R_mono (row_R (hp.at_ 0 _ (by rfl))) (fun _ _ => trivial), hc2 _ (hp.tail)⟩
end
section
open Go.RowKit Go.Proofs.YtipkmbgebpeeoaaW.PrintWords Go.Proofs.YtipkmbgebpeeoaaW.PrintLast Go.Proofs.YtipkmbgebpeeoaaW.PrintMore
attribute [local go_sem] max2_int min2_int max_two min_two max_three min_three max_four min_four   -- for this text's walks alone
set_option linter.unusedVariables false
set_option linter.unusedSimpArgs false

def spec_wiBlockTiles.l0 : Nat → List (S_Tile) → List (List Int) → Int → Int → Option ((List (S_Tile)))
  | 0, _, _, _, _ => none
  | k + 1, x3, x6, x7, x8 => if x8 < x7 then (if 0 ≤ x8 then (if x8 < (x6.length : Int) then ((spec_wiTiles.f k (rd_i64s x6 x8)).bind fun t129 => (if x3.length + t129.length < 8796093022208 then (spec_wiBlockTiles.l0 k (x3 ++ t129) x6 x7 (wrap64 (x8 + 1))) else (none))) else (none)) else (none)) else (some x3)
def spec_wiBlockTiles.f (k : Nat) (l0 : List (List Int)) : Option ((List (S_Tile))) := spec_wiBlockTiles.l0 k ([] : List (S_Tile)) l0 (l0.length : Int) 0
set_option maxHeartbeats 8000000 in
set_option maxRecDepth 100000 in
theorem spec_wiBlockTiles.calls (k : Nat) (A0 : Option Addr) (c0 : Nat) (l0 : List (List Int)) (r : List (S_Tile)) (w : World) (hr0 : Kd.C (Kd.slice 3 (Kd.int .i64)) w A0 l0.length l0) (hc0 : l0.length ≤ c0) (h : spec_wiBlockTiles.f k l0 = some r) :
    Calls Try.prog 24 #[.slice A0 l0.length c0] w fun e w' => ∃ v0_ : Value, e = .returned (v0_) ∧ Kd.R k43 43 w' w.heap.size (fun _ => True) v0_ r ∧ Below w.heap.size w w' := by
  have HR0 := Aside0.mk hr0
  have HC0 := Aside0.mk hc0
  clear hr0 hc0
  have HB := Aside0.mk (Below.refl w.heap.size w)
  have H : (spec_wiBlockTiles.l0 k ([] : List (S_Tile)) l0 (l0.length : Int) 0) = some r := h
  clear h
  have H' := Aside0.mk H
  clear H
  go_enter Try.func24, Try.ntmps24
  go_wp2
  go_loopg [3, 8] k (fun kq v3 v8 w' => ∃ (x3_1 : List (S_Tile)) (x8_1 : Int), v8 = .int .i64 x8_1 ∧ Aside0 (spec_wiBlockTiles.l0 kq x3_1 l0 (l0.length : Int) x8_1 = some r) ∧ Aside0 (kq ≤ k) ∧ Aside0 (Kd.R k43 43 w' w.heap.size (fun _ => True) v3 x3_1) ∧ Aside0 (Below w.heap.size w w'))
  case atStart => exact ⟨(([] : List (S_Tile))), (0), (by first | rfl | (simp; done) | (simp [*]; done)), H', ⟨Nat.le_refl _⟩, ⟨by first | exact Kd.R_nil _ _ _ _ _ | exact Kd.N_nil _ _ _ _ _ | exact Kd.V_nil _ _ _ _ _ | exact Kd.Q_nil _ _ _ _ _ | exact Kd.S_nil _ _ _ _ _⟩, ⟨by repeat (first | (with_reducible first | exact HB.out | apply below_alloc | apply pw_below_drewN | apply below_drew1) | exact HB.out)⟩⟩
  case round =>
    clear H'
    obtain ⟨x3_1, x8_1, rfl, HA, HK1, HO_3, HB⟩ := hrel
    cases gk with
    | zero => exact absurd HA.out (by simp [spec_wiBlockTiles.l0])
    | succ k1 =>
      have H := HA.out
      clear HA
      simp only [spec_wiBlockTiles.l0] at H
      by_cases c2 : x8_1 < (l0.length : Int)
      · rw [if_pos c2] at H
        have c2b0 : decide (x8_1 < (l0.length : Int)) = true := decide_eq_true c2
        clear c2
        by_cases c3 : 0 ≤ x8_1
        · rw [if_pos c3] at H
          have c3b0 : decide (0 ≤ x8_1) = true := decide_eq_true c3
          clear c3
          by_cases c4 : x8_1 < (l0.length : Int)
          · rw [if_pos c4] at H
            have c4b0 : decide (x8_1 < (l0.length : Int)) = true := decide_eq_true c4
            clear c4
            replace H := Option.bind_eq_some_iff.mp H
            obtain ⟨t129, A50, H⟩ := H
            replace H : (if x3_1.length + t129.length < 8796093022208 then (spec_wiBlockTiles.l0 k1 (x3_1 ++ t129) l0 (l0.length : Int) (wrap64 (x8_1 + 1))) else (none)) = some r := H
            have A5 := Aside0.mk A50
            clear A50
            by_cases c6 : x3_1.length + t129.length < 8796093022208
            · rw [if_pos c6] at H
              have LMc6 := Aside0.mk c6
              clear c6
              obtain ⟨y132, hy132⟩ : ∃ y_ : List (S_Tile), y_ = (x3_1 ++ t129) := ⟨_, rfl⟩
              replace H : (spec_wiBlockTiles.l0 k1 y132 l0 (l0.length : Int) (wrap64 (x8_1 + 1))) = some r := by first | (rw [hy132]; with_reducible exact H) | (have H2_ := (Option.bind_some _ _).symm.trans H; rw [hy132]; with_reducible exact H2_) | (have H2_ := (Option.bind_some _ _).symm.trans H; with_reducible exact H2_) | with_reducible exact H | (rw [hy132]; exact H) | exact H
              have Ny132 := Aside0.mk hy132
              clear hy132
              have H' := Aside0.mk H
              clear H
              have p128 : 0 ≤ (x8_1 : Int) := of_decide_eq_true (by first | (with_reducible assumption) | assumption)
              have q128 : x8_1 < (l0.length : Int) := of_decide_eq_true (by first | (with_reducible assumption) | assumption)
              obtain ⟨ad128, A128_0, c128_0, e128, hx128_0, hl128_0, hi128_0⟩ := at_i64s HR0.out x8_1 p128 q128
              cases e128
              replace hx128_0 := (HB.out.cell (World.block_lt_of_cell? w _ hx128_0)).trans hx128_0
              have HR128_0 := Aside0.mk hi128_0
              have HC128_0 := Aside0.mk hl128_0
              clear hi128_0 hl128_0
              replace p128 := eq_true p128
              replace q128 := eq_true q128
              go_wp2_with (first | ((with_reducible refine gate_callee (f := 35) rfl ?_); refine goesL_ (some 14) rfl rfl Try.func35 (by kernel_rfl) rfl #[.slice A128_0 (rd_i64s l0 x8_1).length c128_0] rfl (by (try simp only [List.map_toArray, List.map_cons, List.map_nil]); first | done | rfl | (simp only [List.length_drop, List.length_take]; rfl)) ?_; (with_reducible refine (spec_wiTiles.calls k1 _ _ (rd_i64s l0 x8_1) t129 _ ?side1 ?side2 A5.out).mono ?_); (case side1 => repeat (first | exact (Kd.C_below HR128_0.out HB.out) | (with_reducible refine Kd.C_alloc ?_ _) | (with_reducible refine Kd.C_drewN ?_ _) | (with_reducible refine Kd.C_drew ?_))); (case side2 => exact HC128_0.out); rintro e w7 ⟨v130, rfl, ho0, hb⟩; refine ⟨_, rfl, ?_⟩; have n0_ := Aside0.mk (Kd.R_elder' (by (with_reducible repeat (first | apply Kd.R_alloc | apply Kd.R_drewN | apply Kd.R_drew)); exact HO_3.out) (Kd.R_base ho0) hb); have n1_ := Aside0.mk (Kd.R_lower (Kd.R_new' ho0 (Kd.R_lt (by (with_reducible repeat (first | apply Kd.R_alloc | apply Kd.R_drewN | apply Kd.R_drew)); exact HO_3.out))) (below_size (by repeat (first | (with_reducible first | exact HB.out | apply below_alloc | apply pw_below_drewN | apply below_drew1) | exact HB.out)))); have n2_ := Aside0.mk (below_step (by repeat (first | (with_reducible first | exact HB.out | apply below_alloc | apply pw_below_drewN | apply below_drew1) | exact HB.out)) hb); clear HO_3; clear HB; have HO_3 := n0_; have HO131 := n1_; have HB := n2_; clear n0_ n1_ n2_; (try clear hb); (try clear hb2); (try clear hk); (try clear hi); (try clear ho0); obtain ⟨Ao9, co9, eo9⟩ := Kd.R_slice HO131.out; subst eo9) | ((with_reducible refine gate_builtin (b := .append) (xs := #[.tmp 12, .tmp 14]) rfl ?_); at_builtin; refine Kd.R_append_rows k43 (w0 := w) w.heap.size rfl (.tmp 12) (.tmp 14) 37 43 (.agg #[(.int .i64 0), (.int .i64 0)]) 16 rfl Try.underlying37 info43 rfl (by decide) (by omega) u3 x3_1 t129 _ _ _ (fun k_ => some k_ ≠ (.slice Ao9 t129.length co9 : Value).ownBlock) (fun _ => False) rfl rfl ?aO ?aR (fun _ _ h => h) (fun _ h => h.elim) ?aF ?aB ?aS ?aL ?_; (case aR => repeat (first | exact (Kd.R_reads' HO131.out).2.2 | (with_reducible refine Kd.C_alloc ?_ _) | (with_reducible refine Kd.C_drewN ?_ _) | (with_reducible refine Kd.C_drew ?_))); (case aB => exact (by repeat (first | (with_reducible first | exact HB.out | apply below_alloc | apply pw_below_drewN | apply below_drew1) | exact HB.out))); (case aF => exact (fun k_ hk => Kd.fresh' (Kd.R_lt (by (with_reducible repeat (first | apply Kd.R_alloc | apply Kd.R_drewN | apply Kd.R_drew)); exact HO131.out)) k_ hk)); (case aO => exact (by (with_reducible repeat (first | apply Kd.R_alloc | apply Kd.R_drewN | apply Kd.R_drew)); exact Kd.R_mono HO_3.out (fun _ hk => hk.2))); (case aS => exact (below_size (by repeat (first | (with_reducible first | exact HB.out | apply below_alloc | apply pw_below_drewN | apply below_drew1) | exact HB.out)))); (case aL => have := LMc6.out; omega); intro v133 w8 ho hb hg hat; rw [← Ny132.out] at ho; have n0_ := Aside0.mk (Kd.R_after (ok := (fun _ => True)) (by (with_reducible repeat (first | apply Kd.R_alloc | apply Kd.R_drewN | apply Kd.R_drew)); exact HO131.out) hg hat); have n1_ := Aside0.mk (hb); have n2_ := Aside0.mk (ho); clear HO131; clear HB; clear HO_3; have HO131 := n0_; have HB := n1_; have HO134 := n2_; clear n0_ n1_ n2_; clear ho hb hg hat))
              go_roundg k1
              case measure => have := HK1.out; omega
              case rel => exact ⟨(y132), (wrap64 (x8_1 + 1)), (by first | rfl | (simp; done) | (simp [*]; done)), H', ⟨by have := HK1.out; omega⟩, ⟨by (with_reducible repeat (first | apply Kd.R_alloc | apply Kd.R_drewN | apply Kd.R_drew)); exact Kd.R_mono HO134.out (fun _ hk => trivial)⟩, ⟨by repeat (first | (with_reducible first | exact HB.out | apply below_alloc | apply pw_below_drewN | apply below_drew1) | exact HB.out)⟩⟩
            · rw [if_neg c6] at H
              exact absurd H (by simp)
          · rw [if_neg c4] at H
            exact absurd H (by simp)
        · rw [if_neg c3] at H
          exact absurd H (by simp)
      · rw [if_neg c2] at H
        have c2b0 : decide (x8_1 < (l0.length : Int)) = false := decide_eq_false c2
        clear c2
        obtain rfl := Option.some.inj H
        go_wp2
        go_ret
        exact ⟨_, by first | rfl | (simp [errW_none, errW_some] <;> rfl) | (simp [*, errW_none, errW_some] <;> rfl), by (with_reducible repeat (first | apply Kd.R_alloc | apply Kd.R_drewN | apply Kd.R_drew)); exact HO_3.out, by repeat (first | (with_reducible first | exact HB.out | apply below_alloc | apply pw_below_drewN | apply below_drew1) | exact HB.out)⟩

end
section
open Go.RowKit Go.Proofs.YtipkmbgebpeeoaaW.PrintWords Go.Proofs.YtipkmbgebpeeoaaW.PrintLast Go.Proofs.YtipkmbgebpeeoaaW.PrintMore
attribute [local go_sem] max2_int min2_int max_two min_two max_three min_three max_four min_four   -- for this text's walks alone
set_option linter.unusedVariables false
set_option linter.unusedSimpArgs false

def spec_wiBlock.l0 : Nat → List (List Int) → List (List Int) → Int → Int → Option (Bool)
  | 0, _, _, _, _ => none
  | k + 1, x0, x9, x10, x11 => if x11 < x10 then (if 0 ≤ x11 then (if x11 < (x9.length : Int) then (if ((rd_i64s x9 x11).length : Int) = 2 then (if 0 < (x0.length : Int) then (if ((rd_i64s x9 x11).length : Int) = ((rd_i64s x0 0).length : Int) then ((spec_l1All.f k (rd_i64s x9 x11) 0 9).bind fun t138 => (if t138 = true then (spec_wiBlock.l0 k x0 x9 x10 (wrap64 (x11 + 1))) else (some false))) else (some false)) else (none)) else (if ((rd_i64s x9 x11).length : Int) = 4 then (if 0 < (x0.length : Int) then (if ((rd_i64s x9 x11).length : Int) = ((rd_i64s x0 0).length : Int) then ((spec_l1All.f k (rd_i64s x9 x11) 0 9).bind fun t140 => (if t140 = true then (spec_wiBlock.l0 k x0 x9 x10 (wrap64 (x11 + 1))) else (some false))) else (some false)) else (none)) else (some false))) else (none)) else (none)) else ((spec_wiBlockTiles.f k x0).bind fun t141 => ((spec_tiHand.f k t141).bind fun t144 => (some t144)))
def spec_wiBlock.f (k : Nat) (l0 : List (List Int)) : Option (Bool) := (spec_l1In.f (l0.length : Int) 1 3).bind fun t135 => (if t135 = true then (spec_wiBlock.l0 k l0 l0 (l0.length : Int) 0) else (some false))
set_option maxHeartbeats 8000000 in
set_option maxRecDepth 100000 in
theorem spec_wiBlock.calls (k : Nat) (A0 : Option Addr) (c0 : Nat) (l0 : List (List Int)) (r : Bool) (w : World) (hr0 : Kd.C (Kd.slice 3 (Kd.int .i64)) w A0 l0.length l0) (hc0 : l0.length ≤ c0) (h : spec_wiBlock.f k l0 = some r) :
    Calls Try.prog 12 #[.slice A0 l0.length c0] w fun e w' => e = .returned (.bool r) ∧ Below w.heap.size w w' := by
  have HR0 := Aside0.mk hr0
  have HC0 := Aside0.mk hc0
  clear hr0 hc0
  have HB := Aside0.mk (Below.refl w.heap.size w)
  have H : ((spec_l1In.f (l0.length : Int) 1 3).bind fun t135 => (if t135 = true then (spec_wiBlock.l0 k l0 l0 (l0.length : Int) 0) else (some false))) = some r := h
  clear h
  replace H := Option.bind_eq_some_iff.mp H
  obtain ⟨t135, A20, H⟩ := H
  replace H : (if t135 = true then (spec_wiBlock.l0 k l0 l0 (l0.length : Int) 0) else (some false)) = some r := H
  have A2 := Aside0.mk A20
  clear A20
  by_cases c3 : t135 = true
  · subst c3
    have H1 : (spec_wiBlock.l0 k l0 l0 (l0.length : Int) 0) = some r := by rw [if_pos rfl] at H; exact H
    clear H
    have H := H1
    clear H1
    have H' := Aside0.mk H
    clear H
    go_enter Try.func12, Try.ntmps12
    go_wp2_with (first | ((with_reducible refine gate_callee (f := 13) rfl ?_); refine goesL_ (some 7) rfl rfl Try.func13 (by kernel_rfl) rfl #[.int .i64 (l0.length : Int), .int .i64 1, .int .i64 3] rfl (by (try simp only [List.map_toArray, List.map_cons, List.map_nil]); first | done | rfl | (simp only [List.length_drop, List.length_take]; rfl)) ?_; (with_reducible refine (spec_l1In.calls (l0.length : Int) 1 3 true _ A2.out).mono ?_); rintro e w' ⟨rfl, ⟨nd, rfl⟩⟩; refine ⟨_, rfl, ?_⟩))
    go_loopg [11] k (fun kq v11 w' => ∃ (x11_1 : Int), v11 = .int .i64 x11_1 ∧ Aside0 (spec_wiBlock.l0 kq l0 l0 (l0.length : Int) x11_1 = some r) ∧ Aside0 (kq ≤ k) ∧ Aside0 (Below w.heap.size w w'))
    case atStart => exact ⟨(0), (by first | rfl | (simp; done) | (simp [*]; done)), H', ⟨Nat.le_refl _⟩, ⟨by repeat (first | (with_reducible first | exact HB.out | apply below_alloc | apply pw_below_drewN | apply below_drew1) | exact HB.out)⟩⟩
    case round =>
      clear H'
      try clear c1
      try clear p2
      try clear c3
      obtain ⟨x11_1, rfl, HA, HK1, HB⟩ := hrel
      cases gk with
      | zero => exact absurd HA.out (by simp [spec_wiBlock.l0])
      | succ k1 =>
        have H := HA.out
        clear HA
        simp only [spec_wiBlock.l0] at H
        by_cases c4 : x11_1 < (l0.length : Int)
        · rw [if_pos c4] at H
          have c4b0 : decide (x11_1 < (l0.length : Int)) = true := decide_eq_true c4
          clear c4
          by_cases c5 : 0 ≤ x11_1
          · rw [if_pos c5] at H
            have c5b0 : decide (0 ≤ x11_1) = true := decide_eq_true c5
            clear c5
            by_cases c6 : x11_1 < (l0.length : Int)
            · rw [if_pos c6] at H
              have c6b0 : decide (x11_1 < (l0.length : Int)) = true := decide_eq_true c6
              clear c6
              by_cases c7 : ((rd_i64s l0 x11_1).length : Int) = 2
              · rw [if_pos c7] at H
                have c7b0 : (((rd_i64s l0 x11_1).length : Int) == 2) = true := beq_iff_eq.mpr c7
                have c7b1 : (((rd_i64s l0 x11_1).length : Int) != 2) = false := bne_eq_false_iff_eq.mpr c7
                clear c7
                by_cases c8 : 0 < (l0.length : Int)
                · rw [if_pos c8] at H
                  have c8b0 : decide (0 < (l0.length : Int)) = true := decide_eq_true c8
                  have c8b1 : decide (0 < l0.length) = true := decide_eq_true (by omega)
                  clear c8
                  by_cases c9 : ((rd_i64s l0 x11_1).length : Int) = ((rd_i64s l0 0).length : Int)
                  · rw [if_pos c9] at H
                    have c9b0 : (((rd_i64s l0 x11_1).length : Int) == ((rd_i64s l0 0).length : Int)) = true := beq_iff_eq.mpr c9
                    have c9b1 : (((rd_i64s l0 x11_1).length : Int) != ((rd_i64s l0 0).length : Int)) = false := bne_eq_false_iff_eq.mpr c9
                    have c9b2 : ((rd_i64s l0 x11_1).length == (rd_i64s l0 0).length) = true := by first | simpa using c9 | (simp at c9 ⊢; omega)
                    clear c9
                    replace H := Option.bind_eq_some_iff.mp H
                    obtain ⟨t138, A100, H⟩ := H
                    replace H : (if t138 = true then (spec_wiBlock.l0 k1 l0 l0 (l0.length : Int) (wrap64 (x11_1 + 1))) else (some false)) = some r := H
                    have A10 := Aside0.mk A100
                    clear A100
                    by_cases c11 : t138 = true
                    · subst c11
                      have H1 : (spec_wiBlock.l0 k1 l0 l0 (l0.length : Int) (wrap64 (x11_1 + 1))) = some r := by rw [if_pos rfl] at H; exact H
                      clear H
                      have H := H1
                      clear H1
                      have H' := Aside0.mk H
                      clear H
                      have p136 : 0 ≤ (x11_1 : Int) := of_decide_eq_true (by first | (with_reducible assumption) | assumption)
                      have q136 : x11_1 < (l0.length : Int) := of_decide_eq_true (by first | (with_reducible assumption) | assumption)
                      obtain ⟨ad136, A136_0, c136_0, e136, hx136_0, hl136_0, hi136_0⟩ := at_i64s HR0.out x11_1 p136 q136
                      cases e136
                      replace hx136_0 := (HB.out.cell (World.block_lt_of_cell? w _ hx136_0)).trans hx136_0
                      have HR136_0 := Aside0.mk hi136_0
                      have HC136_0 := Aside0.mk hl136_0
                      clear hi136_0 hl136_0
                      replace p136 := eq_true p136
                      replace q136 := eq_true q136
                      have p137 : 0 ≤ (0 : Int) := (by omega)
                      have q137 : 0 < (l0.length : Int) := of_decide_eq_true (by first | (with_reducible assumption) | assumption)
                      obtain ⟨ad137, A137_0, c137_0, e137, hx137_0, hl137_0, hi137_0⟩ := at_i64s HR0.out 0 p137 q137
                      obtain rfl : ad136 = ad137 := (by injection e137)
                      have qi137 : (0 < l0.length) = True := eq_true (by omega)
                      (try rw [show ((0 : Int)).toNat = 0 from rfl] at hx137_0)
                      (try rw [Addr.add_zero'] at hx137_0)
                      replace hx137_0 := (HB.out.cell (World.block_lt_of_cell? w _ hx137_0)).trans hx137_0
                      have HR137_0 := Aside0.mk hi137_0
                      have HC137_0 := Aside0.mk hl137_0
                      clear hi137_0 hl137_0
                      replace p137 := eq_true p137
                      replace q137 := eq_true q137
                      go_wp2_with (first | (go_at_call 22; (with_reducible refine (spec_l1All.calls k1 _ _ (rd_i64s l0 x11_1) 0 9 true _ ?side1 ?side2 A10.out).mono ?_); (case side1 => repeat (first | exact (Kd.C_below HR136_0.out HB.out) | (with_reducible refine Kd.C_alloc ?_ _) | (with_reducible refine Kd.C_drewN ?_ _) | (with_reducible refine Kd.C_drew ?_))); (case side2 => exact HC136_0.out); rintro e w' ⟨rfl, ⟨nd, rfl⟩⟩))
                      go_roundg k1
                      case measure => have := HK1.out; omega
                      case rel => exact ⟨(wrap64 (x11_1 + 1)), (by first | rfl | (simp; done) | (simp [*]; done)), H', ⟨by have := HK1.out; omega⟩, ⟨by repeat (first | (with_reducible first | exact HB.out | apply below_alloc | apply pw_below_drewN | apply below_drew1) | exact HB.out)⟩⟩
                    · replace c11 := Bool.eq_false_iff.mpr c11
                      subst c11
                      have H1 : (some false) = some r := by rw [if_neg (show ¬ (false = true) by decide)] at H; exact H
                      clear H
                      have H := H1
                      clear H1
                      obtain rfl := Option.some.inj H
                      have p136 : 0 ≤ (x11_1 : Int) := of_decide_eq_true (by first | (with_reducible assumption) | assumption)
                      have q136 : x11_1 < (l0.length : Int) := of_decide_eq_true (by first | (with_reducible assumption) | assumption)
                      obtain ⟨ad136, A136_0, c136_0, e136, hx136_0, hl136_0, hi136_0⟩ := at_i64s HR0.out x11_1 p136 q136
                      cases e136
                      replace hx136_0 := (HB.out.cell (World.block_lt_of_cell? w _ hx136_0)).trans hx136_0
                      have HR136_0 := Aside0.mk hi136_0
                      have HC136_0 := Aside0.mk hl136_0
                      clear hi136_0 hl136_0
                      replace p136 := eq_true p136
                      replace q136 := eq_true q136
                      have p137 : 0 ≤ (0 : Int) := (by omega)
                      have q137 : 0 < (l0.length : Int) := of_decide_eq_true (by first | (with_reducible assumption) | assumption)
                      obtain ⟨ad137, A137_0, c137_0, e137, hx137_0, hl137_0, hi137_0⟩ := at_i64s HR0.out 0 p137 q137
                      obtain rfl : ad136 = ad137 := (by injection e137)
                      have qi137 : (0 < l0.length) = True := eq_true (by omega)
                      (try rw [show ((0 : Int)).toNat = 0 from rfl] at hx137_0)
                      (try rw [Addr.add_zero'] at hx137_0)
                      replace hx137_0 := (HB.out.cell (World.block_lt_of_cell? w _ hx137_0)).trans hx137_0
                      have HR137_0 := Aside0.mk hi137_0
                      have HC137_0 := Aside0.mk hl137_0
                      clear hi137_0 hl137_0
                      replace p137 := eq_true p137
                      replace q137 := eq_true q137
                      go_wp2_with (first | (go_at_call 22; (with_reducible refine (spec_l1All.calls k1 _ _ (rd_i64s l0 x11_1) 0 9 false _ ?side1 ?side2 A10.out).mono ?_); (case side1 => repeat (first | exact (Kd.C_below HR136_0.out HB.out) | (with_reducible refine Kd.C_alloc ?_ _) | (with_reducible refine Kd.C_drewN ?_ _) | (with_reducible refine Kd.C_drew ?_))); (case side2 => exact HC136_0.out); rintro e w' ⟨rfl, ⟨nd, rfl⟩⟩))
                      go_ret
                      exact ⟨by first | rfl | (simp [errW_none, errW_some] <;> rfl) | (simp [*, errW_none, errW_some] <;> rfl), by repeat (first | (with_reducible first | exact HB.out | apply below_alloc | apply pw_below_drewN | apply below_drew1) | exact HB.out)⟩
                  · rw [if_neg c9] at H
                    have c9b0 : (((rd_i64s l0 x11_1).length : Int) == ((rd_i64s l0 0).length : Int)) = false := beq_eq_false_iff_ne.mpr c9
                    have c9b1 : (((rd_i64s l0 x11_1).length : Int) != ((rd_i64s l0 0).length : Int)) = true := bne_iff_ne.mpr c9
                    have c9b2 : ((rd_i64s l0 x11_1).length == (rd_i64s l0 0).length) = false := by first | simpa using c9 | (simp at c9 ⊢; omega)
                    obtain rfl := Option.some.inj H
                    have p136 : 0 ≤ (x11_1 : Int) := of_decide_eq_true (by first | (with_reducible assumption) | assumption)
                    have q136 : x11_1 < (l0.length : Int) := of_decide_eq_true (by first | (with_reducible assumption) | assumption)
                    obtain ⟨ad136, A136_0, c136_0, e136, hx136_0, hl136_0, hi136_0⟩ := at_i64s HR0.out x11_1 p136 q136
                    cases e136
                    replace hx136_0 := (HB.out.cell (World.block_lt_of_cell? w _ hx136_0)).trans hx136_0
                    have HR136_0 := Aside0.mk hi136_0
                    have HC136_0 := Aside0.mk hl136_0
                    clear hi136_0 hl136_0
                    replace p136 := eq_true p136
                    replace q136 := eq_true q136
                    have p137 : 0 ≤ (0 : Int) := (by omega)
                    have q137 : 0 < (l0.length : Int) := of_decide_eq_true (by first | (with_reducible assumption) | assumption)
                    obtain ⟨ad137, A137_0, c137_0, e137, hx137_0, hl137_0, hi137_0⟩ := at_i64s HR0.out 0 p137 q137
                    obtain rfl : ad136 = ad137 := (by injection e137)
                    have qi137 : (0 < l0.length) = True := eq_true (by omega)
                    (try rw [show ((0 : Int)).toNat = 0 from rfl] at hx137_0)
                    (try rw [Addr.add_zero'] at hx137_0)
                    replace hx137_0 := (HB.out.cell (World.block_lt_of_cell? w _ hx137_0)).trans hx137_0
                    have HR137_0 := Aside0.mk hi137_0
                    have HC137_0 := Aside0.mk hl137_0
                    clear hi137_0 hl137_0
                    replace p137 := eq_true p137
                    replace q137 := eq_true q137
                    go_wp2
                    go_ret
                    exact ⟨by first | rfl | (simp [errW_none, errW_some] <;> rfl) | (simp [*, errW_none, errW_some] <;> rfl), by repeat (first | (with_reducible first | exact HB.out | apply below_alloc | apply pw_below_drewN | apply below_drew1) | exact HB.out)⟩
                · rw [if_neg c8] at H
                  exact absurd H (by simp)
              · rw [if_neg c7] at H
                have c7b0 : (((rd_i64s l0 x11_1).length : Int) == 2) = false := beq_eq_false_iff_ne.mpr c7
                have c7b1 : (((rd_i64s l0 x11_1).length : Int) != 2) = true := bne_iff_ne.mpr c7
                by_cases c12 : ((rd_i64s l0 x11_1).length : Int) = 4
                · rw [if_pos c12] at H
                  have c12b0 : (((rd_i64s l0 x11_1).length : Int) == 4) = true := beq_iff_eq.mpr c12
                  have c12b1 : (((rd_i64s l0 x11_1).length : Int) != 4) = false := bne_eq_false_iff_eq.mpr c12
                  clear c12
                  by_cases c13 : 0 < (l0.length : Int)
                  · rw [if_pos c13] at H
                    have c13b0 : decide (0 < (l0.length : Int)) = true := decide_eq_true c13
                    have c13b1 : decide (0 < l0.length) = true := decide_eq_true (by omega)
                    clear c13
                    by_cases c14 : ((rd_i64s l0 x11_1).length : Int) = ((rd_i64s l0 0).length : Int)
                    · rw [if_pos c14] at H
                      have c14b0 : (((rd_i64s l0 x11_1).length : Int) == ((rd_i64s l0 0).length : Int)) = true := beq_iff_eq.mpr c14
                      have c14b1 : (((rd_i64s l0 x11_1).length : Int) != ((rd_i64s l0 0).length : Int)) = false := bne_eq_false_iff_eq.mpr c14
                      have c14b2 : ((rd_i64s l0 x11_1).length == (rd_i64s l0 0).length) = true := by first | simpa using c14 | (simp at c14 ⊢; omega)
                      clear c14
                      replace H := Option.bind_eq_some_iff.mp H
                      obtain ⟨t140, A150, H⟩ := H
                      replace H : (if t140 = true then (spec_wiBlock.l0 k1 l0 l0 (l0.length : Int) (wrap64 (x11_1 + 1))) else (some false)) = some r := H
                      have A15 := Aside0.mk A150
                      clear A150
                      by_cases c16 : t140 = true
                      · subst c16
                        have H1 : (spec_wiBlock.l0 k1 l0 l0 (l0.length : Int) (wrap64 (x11_1 + 1))) = some r := by rw [if_pos rfl] at H; exact H
                        clear H
                        have H := H1
                        clear H1
                        have H' := Aside0.mk H
                        clear H
                        have p136 : 0 ≤ (x11_1 : Int) := of_decide_eq_true (by first | (with_reducible assumption) | assumption)
                        have q136 : x11_1 < (l0.length : Int) := of_decide_eq_true (by first | (with_reducible assumption) | assumption)
                        obtain ⟨ad136, A136_0, c136_0, e136, hx136_0, hl136_0, hi136_0⟩ := at_i64s HR0.out x11_1 p136 q136
                        cases e136
                        replace hx136_0 := (HB.out.cell (World.block_lt_of_cell? w _ hx136_0)).trans hx136_0
                        have HR136_0 := Aside0.mk hi136_0
                        have HC136_0 := Aside0.mk hl136_0
                        clear hi136_0 hl136_0
                        replace p136 := eq_true p136
                        replace q136 := eq_true q136
                        have p139 : 0 ≤ (0 : Int) := (by omega)
                        have q139 : 0 < (l0.length : Int) := of_decide_eq_true (by first | (with_reducible assumption) | assumption)
                        obtain ⟨ad139, A139_0, c139_0, e139, hx139_0, hl139_0, hi139_0⟩ := at_i64s HR0.out 0 p139 q139
                        obtain rfl : ad136 = ad139 := (by injection e139)
                        have qi139 : (0 < l0.length) = True := eq_true (by omega)
                        (try rw [show ((0 : Int)).toNat = 0 from rfl] at hx139_0)
                        (try rw [Addr.add_zero'] at hx139_0)
                        replace hx139_0 := (HB.out.cell (World.block_lt_of_cell? w _ hx139_0)).trans hx139_0
                        have HR139_0 := Aside0.mk hi139_0
                        have HC139_0 := Aside0.mk hl139_0
                        clear hi139_0 hl139_0
                        replace p139 := eq_true p139
                        replace q139 := eq_true q139
                        go_wp2_with (first | (go_at_call 22; (with_reducible refine (spec_l1All.calls k1 _ _ (rd_i64s l0 x11_1) 0 9 true _ ?side1 ?side2 A15.out).mono ?_); (case side1 => repeat (first | exact (Kd.C_below HR136_0.out HB.out) | (with_reducible refine Kd.C_alloc ?_ _) | (with_reducible refine Kd.C_drewN ?_ _) | (with_reducible refine Kd.C_drew ?_))); (case side2 => exact HC136_0.out); rintro e w' ⟨rfl, ⟨nd, rfl⟩⟩))
                        go_roundg k1
                        case measure => have := HK1.out; omega
                        case rel => exact ⟨(wrap64 (x11_1 + 1)), (by first | rfl | (simp; done) | (simp [*]; done)), H', ⟨by have := HK1.out; omega⟩, ⟨by repeat (first | (with_reducible first | exact HB.out | apply below_alloc | apply pw_below_drewN | apply below_drew1) | exact HB.out)⟩⟩
                      · replace c16 := Bool.eq_false_iff.mpr c16
                        subst c16
                        have H1 : (some false) = some r := by rw [if_neg (show ¬ (false = true) by decide)] at H; exact H
                        clear H
                        have H := H1
                        clear H1
                        obtain rfl := Option.some.inj H
                        have p136 : 0 ≤ (x11_1 : Int) := of_decide_eq_true (by first | (with_reducible assumption) | assumption)
                        have q136 : x11_1 < (l0.length : Int) := of_decide_eq_true (by first | (with_reducible assumption) | assumption)
                        obtain ⟨ad136, A136_0, c136_0, e136, hx136_0, hl136_0, hi136_0⟩ := at_i64s HR0.out x11_1 p136 q136
                        cases e136
                        replace hx136_0 := (HB.out.cell (World.block_lt_of_cell? w _ hx136_0)).trans hx136_0
                        have HR136_0 := Aside0.mk hi136_0
                        have HC136_0 := Aside0.mk hl136_0
                        clear hi136_0 hl136_0
                        replace p136 := eq_true p136
                        replace q136 := eq_true q136
                        have p139 : 0 ≤ (0 : Int) := (by omega)
                        have q139 : 0 < (l0.length : Int) := of_decide_eq_true (by first | (with_reducible assumption) | assumption)
                        obtain ⟨ad139, A139_0, c139_0, e139, hx139_0, hl139_0, hi139_0⟩ := at_i64s HR0.out 0 p139 q139
                        obtain rfl : ad136 = ad139 := (by injection e139)
                        have qi139 : (0 < l0.length) = True := eq_true (by omega)
                        (try rw [show ((0 : Int)).toNat = 0 from rfl] at hx139_0)
                        (try rw [Addr.add_zero'] at hx139_0)
                        replace hx139_0 := (HB.out.cell (World.block_lt_of_cell? w _ hx139_0)).trans hx139_0
                        have HR139_0 := Aside0.mk hi139_0
                        have HC139_0 := Aside0.mk hl139_0
                        clear hi139_0 hl139_0
                        replace p139 := eq_true p139
                        replace q139 := eq_true q139
                        go_wp2_with (first | (go_at_call 22; (with_reducible refine (spec_l1All.calls k1 _ _ (rd_i64s l0 x11_1) 0 9 false _ ?side1 ?side2 A15.out).mono ?_); (case side1 => repeat (first | exact (Kd.C_below HR136_0.out HB.out) | (with_reducible refine Kd.C_alloc ?_ _) | (with_reducible refine Kd.C_drewN ?_ _) | (with_reducible refine Kd.C_drew ?_))); (case side2 => exact HC136_0.out); rintro e w' ⟨rfl, ⟨nd, rfl⟩⟩))
                        go_ret
                        exact ⟨by first | rfl | (simp [errW_none, errW_some] <;> rfl) | (simp [*, errW_none, errW_some] <;> rfl), by repeat (first | (with_reducible first | exact HB.out | apply below_alloc | apply pw_below_drewN | apply below_drew1) | exact HB.out)⟩
                    · rw [if_neg c14] at H
                      have c14b0 : (((rd_i64s l0 x11_1).length : Int) == ((rd_i64s l0 0).length : Int)) = false := beq_eq_false_iff_ne.mpr c14
                      have c14b1 : (((rd_i64s l0 x11_1).length : Int) != ((rd_i64s l0 0).length : Int)) = true := bne_iff_ne.mpr c14
                      have c14b2 : ((rd_i64s l0 x11_1).length == (rd_i64s l0 0).length) = false := by first | simpa using c14 | (simp at c14 ⊢; omega)
                      obtain rfl := Option.some.inj H
                      have p136 : 0 ≤ (x11_1 : Int) := of_decide_eq_true (by first | (with_reducible assumption) | assumption)
                      have q136 : x11_1 < (l0.length : Int) := of_decide_eq_true (by first | (with_reducible assumption) | assumption)
                      obtain ⟨ad136, A136_0, c136_0, e136, hx136_0, hl136_0, hi136_0⟩ := at_i64s HR0.out x11_1 p136 q136
                      cases e136
                      replace hx136_0 := (HB.out.cell (World.block_lt_of_cell? w _ hx136_0)).trans hx136_0
                      have HR136_0 := Aside0.mk hi136_0
                      have HC136_0 := Aside0.mk hl136_0
                      clear hi136_0 hl136_0
                      replace p136 := eq_true p136
                      replace q136 := eq_true q136
                      have p139 : 0 ≤ (0 : Int) := (by omega)
                      have q139 : 0 < (l0.length : Int) := of_decide_eq_true (by first | (with_reducible assumption) | assumption)
                      obtain ⟨ad139, A139_0, c139_0, e139, hx139_0, hl139_0, hi139_0⟩ := at_i64s HR0.out 0 p139 q139
                      obtain rfl : ad136 = ad139 := (by injection e139)
                      have qi139 : (0 < l0.length) = True := eq_true (by omega)
                      (try rw [show ((0 : Int)).toNat = 0 from rfl] at hx139_0)
                      (try rw [Addr.add_zero'] at hx139_0)
                      replace hx139_0 := (HB.out.cell (World.block_lt_of_cell? w _ hx139_0)).trans hx139_0
                      have HR139_0 := Aside0.mk hi139_0
                      have HC139_0 := Aside0.mk hl139_0
                      clear hi139_0 hl139_0
                      replace p139 := eq_true p139
                      replace q139 := eq_true q139
                      go_wp2
                      go_ret
                      exact ⟨by first | rfl | (simp [errW_none, errW_some] <;> rfl) | (simp [*, errW_none, errW_some] <;> rfl), by repeat (first | (with_reducible first | exact HB.out | apply below_alloc | apply pw_below_drewN | apply below_drew1) | exact HB.out)⟩
                  · rw [if_neg c13] at H
                    exact absurd H (by simp)
                · rw [if_neg c12] at H
                  have c12b0 : (((rd_i64s l0 x11_1).length : Int) == 4) = false := beq_eq_false_iff_ne.mpr c12
                  have c12b1 : (((rd_i64s l0 x11_1).length : Int) != 4) = true := bne_iff_ne.mpr c12
                  obtain rfl := Option.some.inj H
                  have p136 : 0 ≤ (x11_1 : Int) := of_decide_eq_true (by first | (with_reducible assumption) | assumption)
                  have q136 : x11_1 < (l0.length : Int) := of_decide_eq_true (by first | (with_reducible assumption) | assumption)
                  obtain ⟨ad136, A136_0, c136_0, e136, hx136_0, hl136_0, hi136_0⟩ := at_i64s HR0.out x11_1 p136 q136
                  cases e136
                  replace hx136_0 := (HB.out.cell (World.block_lt_of_cell? w _ hx136_0)).trans hx136_0
                  have HR136_0 := Aside0.mk hi136_0
                  have HC136_0 := Aside0.mk hl136_0
                  clear hi136_0 hl136_0
                  replace p136 := eq_true p136
                  replace q136 := eq_true q136
                  go_wp2
                  go_ret
                  exact ⟨by first | rfl | (simp [errW_none, errW_some] <;> rfl) | (simp [*, errW_none, errW_some] <;> rfl), by repeat (first | (with_reducible first | exact HB.out | apply below_alloc | apply pw_below_drewN | apply below_drew1) | exact HB.out)⟩
            · rw [if_neg c6] at H
              exact absurd H (by simp)
          · rw [if_neg c5] at H
            exact absurd H (by simp)
        · rw [if_neg c4] at H
          have c4b0 : decide (x11_1 < (l0.length : Int)) = false := decide_eq_false c4
          clear c4
          replace H := Option.bind_eq_some_iff.mp H
          obtain ⟨t141, A170, H⟩ := H
          replace H : ((spec_tiHand.f k1 t141).bind fun t144 => (some t144)) = some r := H
          have A17 := Aside0.mk A170
          clear A170
          replace H := Option.bind_eq_some_iff.mp H
          obtain ⟨t144, A180, H⟩ := H
          replace H : (some t144) = some r := H
          have A18 := Aside0.mk A180
          clear A180
          obtain rfl := Option.some.inj H
          go_wp2_with (first | ((with_reducible refine gate_callee (f := 24) rfl ?_); refine goesL_ (some 39) rfl rfl Try.func24 (by kernel_rfl) rfl #[.slice A0 l0.length c0] rfl (by (try simp only [List.map_toArray, List.map_cons, List.map_nil]); first | done | rfl | (simp only [List.length_drop, List.length_take]; rfl)) ?_; (with_reducible refine (spec_wiBlockTiles.calls k1 _ _ l0 t141 _ ?side1 ?side2 A17.out).mono ?_); (case side1 => repeat (first | exact (Kd.C_below HR0.out HB.out) | (with_reducible refine Kd.C_alloc ?_ _) | (with_reducible refine Kd.C_drewN ?_ _) | (with_reducible refine Kd.C_drew ?_))); (case side2 => exact HC0.out); rintro e w19 ⟨v142, rfl, ho0, hb⟩; refine ⟨_, rfl, ?_⟩; have n0_ := Aside0.mk (Kd.R_lower ho0 (below_size (by repeat (first | (with_reducible first | exact HB.out | apply below_alloc | apply pw_below_drewN | apply below_drew1) | exact HB.out)))); have n1_ := Aside0.mk (below_step (by repeat (first | (with_reducible first | exact HB.out | apply below_alloc | apply pw_below_drewN | apply below_drew1) | exact HB.out)) hb); clear HB; have HO143 := n0_; have HB := n1_; clear n0_ n1_; (try clear hb); (try clear hb2); (try clear hk); (try clear hi); (try clear ho0); obtain ⟨Ao20, co20, eo20⟩ := Kd.R_slice HO143.out; subst eo20) | ((with_reducible refine gate_callee (f := 23) rfl ?_); refine goesL_ (some 40) rfl rfl Try.func23 (by kernel_rfl) rfl #[.slice Ao20 t141.length co20] rfl (by (try simp only [List.map_toArray, List.map_cons, List.map_nil]); first | done | rfl | (simp only [List.length_drop, List.length_take]; rfl)) ?_; (with_reducible refine (spec_tiHand.calls k1 _ _ t141 t144 _ ?side1 ?side2 A18.out).mono ?_); (case side1 => repeat (first | exact (Kd.R_reads' HO143.out).2.2 | (with_reducible refine Kd.C_alloc ?_ _) | (with_reducible refine Kd.C_drewN ?_ _) | (with_reducible refine Kd.C_drew ?_))); (case side2 => exact (Kd.R_reads' HO143.out).2.1); rintro e w21 ⟨rfl, hb⟩; refine ⟨_, rfl, ?_⟩; have n0_ := Aside0.mk (Kd.R_below (by (with_reducible repeat (first | apply Kd.R_alloc | apply Kd.R_drewN | apply Kd.R_drew)); exact HO143.out) hb); have n1_ := Aside0.mk (below_step (by repeat (first | (with_reducible first | exact HB.out | apply below_alloc | apply pw_below_drewN | apply below_drew1) | exact HB.out)) hb); clear HO143; clear HB; have HO143 := n0_; have HB := n1_; clear n0_ n1_; (try clear hb); (try clear hb2); (try clear hk); (try clear hi)))
          go_ret
          exact ⟨by first | rfl | (simp [errW_none, errW_some] <;> rfl) | (simp [*, errW_none, errW_some] <;> rfl), by repeat (first | (with_reducible first | exact HB.out | apply below_alloc | apply pw_below_drewN | apply below_drew1) | exact HB.out)⟩
  · replace c3 := Bool.eq_false_iff.mpr c3
    subst c3
    have H1 : (some false) = some r := by rw [if_neg (show ¬ (false = true) by decide)] at H; exact H
    clear H
    have H := H1
    clear H1
    obtain rfl := Option.some.inj H
    go_enter Try.func12, Try.ntmps12
    go_wp2_with (first | ((with_reducible refine gate_callee (f := 13) rfl ?_); refine goesL_ (some 7) rfl rfl Try.func13 (by kernel_rfl) rfl #[.int .i64 (l0.length : Int), .int .i64 1, .int .i64 3] rfl (by (try simp only [List.map_toArray, List.map_cons, List.map_nil]); first | done | rfl | (simp only [List.length_drop, List.length_take]; rfl)) ?_; (with_reducible refine (spec_l1In.calls (l0.length : Int) 1 3 false _ A2.out).mono ?_); rintro e w' ⟨rfl, ⟨nd, rfl⟩⟩; refine ⟨_, rfl, ?_⟩))
    go_ret
    exact ⟨by first | rfl | (simp [errW_none, errW_some] <;> rfl) | (simp [*, errW_none, errW_some] <;> rfl), by repeat (first | (with_reducible first | exact HB.out | apply below_alloc | apply pw_below_drewN | apply below_drew1) | exact HB.out)⟩

end
section
open Go.RowKit Go.Proofs.YtipkmbgebpeeoaaW.PrintWords Go.Proofs.YtipkmbgebpeeoaaW.PrintLast Go.Proofs.YtipkmbgebpeeoaaW.PrintMore
attribute [local go_sem] max2_int min2_int max_two min_two max_three min_three max_four min_four   -- for this text's walks alone
set_option linter.unusedVariables false
set_option linter.unusedSimpArgs false

def spec_l1Own.f (l0 : List Int) : Option (List Int) := (some (([] : List Int) : List Int)).bind fun y145 => (if y145.length + l0.length < 17592186044416 then (some (y145 ++ l0)) else (none))
set_option maxRecDepth 100000 in
set_option maxHeartbeats 40000000 in
theorem spec_l1Own.calls (A0 : Option Addr) (c0 : Nat) (l0 : List Int) (r : List Int) (w : World) (hr0 : Kd.C (Kd.int .i64) w A0 l0.length l0) (hc0 : l0.length ≤ c0) (h : spec_l1Own.f l0 = some r) :
    Calls Try.prog 14 #[.slice A0 l0.length c0] w fun e w' => ∃ v0_ : Value, e = .returned (v0_) ∧ Kd.R (Kd.int .i64) 3 w' w.heap.size (fun _ => True) v0_ r ∧ Below w.heap.size w w' := by
  obtain ⟨cs, hcs⟩ : ∃ cs, cs = [old w w.heap.size] := ⟨_, rfl⟩
  have hp : Hp w cs w := by rw [hcs]; exact Hp.old_start w
  have hc2 : ∀ W, Hp w cs W → Below w.heap.size w W := fun W h => by rw [hcs] at h; exact h.since 0 _ rfl
  have hC0 : ∀ W, Hp w cs W → Kd.C (Kd.int .i64) W A0 l0.length l0 := fun W h => Kd.C_below hr0 (hc2 W h)
  clear hcs
  unfold spec_l1Own.f at h
  try simp only [Option.bind_some] at h
  by_cases hc_1 : (([] : List Int) : List Int).length + l0.length < 17592186044416
  case neg => rw [if_neg hc_1] at h; cases h
  rw [if_pos hc_1] at h
  refine sx_enter (N := 6) (l := [.slice A0 l0.length c0]) Try.func14 rfl rfl rfl ?_
  refine wp_seq ?_
  refine sx_region ?_
  refine sx_rd 2 (.slice none 0 0) (by rfl) (by kernel_rfl) ?_
  refine sx_nil ?_
  refine ex_then_n ?_
  refine wp_seq ?_
  refine sx_region ?_
  refine sx_lit 3 (by rfl) (Kd.int .i64) w.heap.size 3 ([] : List Int) [] (fun W => by kernel_rfl) (Reps.none _ _) (by simp) hp.size hp ?_
  intro g_2 F_3 W_4 hp hz; clear hz
  refine sx_rd 4 (.slice A0 l0.length c0) (by rfl) (by kernel_rfl) ?_
  refine sx_append 5 (by rfl) (Kd.int .i64) 0 (by rfl) (.int .i64 0) 8 (by rfl) Try.underlying30 (by kernel_rfl) rfl (by decide) (by decide) l0 (by rfl) (by rfl) (hC0 _ hp.tail) (fun x cs h => h) hp.size (by first | omega | (simp; omega)) hp ?_
  intro A_5 c_6 F_7 W_8 hp hz; clear hz; simp only [List.set_cons_succ, List.set_cons_zero] at hp
  refine sx_rd 2 (.slice A_5 l0.length c_6) (by rfl) (by kernel_rfl) ?_
  refine sx_nil ?_
  refine ex_then_n ?_
  refine wp_ret ?_
  refine sx_end (.slice A_5 l0.length c_6) (res1 2 (by rfl)) ?_
  obtain rfl := Option.some.inj h
  exact ⟨_, rfl, Kd.R_mono (row_R (hp.at_ 0 _ (by rfl))) (fun _ _ => trivial), hc2 _ (hp.tail)⟩
end
section
open Go.RowKit Go.Proofs.YtipkmbgebpeeoaaW.PrintWords Go.Proofs.YtipkmbgebpeeoaaW.PrintLast Go.Proofs.YtipkmbgebpeeoaaW.PrintMore
attribute [local go_sem] max2_int min2_int max_two min_two max_three min_three max_four min_four   -- for this text's walks alone
set_option linter.unusedVariables false
set_option linter.unusedSimpArgs false

mutual
def spec_SwapRows.j0 : Nat → List (List Int) → Int → Int → Bool → Option ((List (List Int)) × Bool)
  | 0, _, _, _, _ => none
  | k + 1, x0, x1, x2, x29 => if x29 = true then (some (([] : List (List Int)), false)) else (spec_SwapRows.l0 k x0 x1 x2 ([] : List (List Int)) (x0.length : Int) 0)
def spec_SwapRows.l0 : Nat → List (List Int) → Int → Int → List (List Int) → Int → Int → Option ((List (List Int)) × Bool)
  | 0, _, _, _, _, _, _ => none
  | k + 1, x0, x1, x2, x8, x31, x32 => if x32 < x31 then (if x32 = x1 then (if 0 ≤ x2 then (if x2 < (x0.length : Int) then ((spec_l1Own.f (rd_i64s x0 x2)).bind fun t155 => (if x8.length < 5864062014805 then (spec_SwapRows.l0 k x0 x1 x2 (x8 ++ [t155]) x31 (wrap64 (x32 + 1))) else (none))) else (none)) else (none)) else (if x32 = x2 then (if 0 ≤ x1 then (if x1 < (x0.length : Int) then ((spec_l1Own.f (rd_i64s x0 x1)).bind fun t162 => (if x8.length < 5864062014805 then (spec_SwapRows.l0 k x0 x1 x2 (x8 ++ [t162]) x31 (wrap64 (x32 + 1))) else (none))) else (none)) else (none)) else (if 0 ≤ x32 then (if x32 < (x0.length : Int) then ((spec_l1Own.f (rd_i64s x0 x32)).bind fun t169 => (if x8.length < 5864062014805 then (spec_SwapRows.l0 k x0 x1 x2 (x8 ++ [t169]) x31 (wrap64 (x32 + 1))) else (none))) else (none)) else (none)))) else (some (x8, true))
end
def spec_SwapRows.f (k : Nat) (l0 : List (List Int)) (a1 : Int) (a2 : Int) : Option ((List (List Int)) × Bool) := (spec_wiBlock.f k l0).bind fun t151 => (if t151 = true then ((spec_l1In.f a1 0 (wrap64 ((l0.length : Int) - 1))).bind fun t152 => (if t152 = true then ((spec_l1In.f a2 0 (wrap64 ((l0.length : Int) - 1))).bind fun t153 => (spec_SwapRows.j0 k l0 a1 a2 (!t153))) else (spec_SwapRows.j0 k l0 a1 a2 true))) else (spec_SwapRows.j0 k l0 a1 a2 true))
set_option maxHeartbeats 8000000 in
set_option maxRecDepth 100000 in
theorem spec_SwapRows.calls (k : Nat) (A0 : Option Addr) (c0 : Nat) (l0 : List (List Int)) (a1 : Int) (a2 : Int) (r1 : List (List Int)) (r2 : Bool) (w : World) (hr0 : Kd.C (Kd.slice 3 (Kd.int .i64)) w A0 l0.length l0) (hc0 : l0.length ≤ c0) (h : spec_SwapRows.f k l0 a1 a2 = some (r1, r2)) :
    Calls Try.prog 5 #[.slice A0 l0.length c0, .int .i64 a1, .int .i64 a2] w fun e w' => ∃ v0_ : Value, e = .returned (.tuple #[v0_, .bool r2]) ∧ Kd.S (Kd.slice 3 (Kd.int .i64)) 30 w' w.heap.size (fun _ => True) v0_ r1 ∧ Below w.heap.size w w' := by
  have HR0 := Aside0.mk hr0
  have HC0 := Aside0.mk hc0
  clear hr0 hc0
  have HB := Aside0.mk (Below.refl w.heap.size w)
  have H : ((spec_wiBlock.f k l0).bind fun t151 => (if t151 = true then ((spec_l1In.f a1 0 (wrap64 ((l0.length : Int) - 1))).bind fun t152 => (if t152 = true then ((spec_l1In.f a2 0 (wrap64 ((l0.length : Int) - 1))).bind fun t153 => (spec_SwapRows.j0 k l0 a1 a2 (!t153))) else (spec_SwapRows.j0 k l0 a1 a2 true))) else (spec_SwapRows.j0 k l0 a1 a2 true))) = some (r1, r2) := h
  clear h
  have HC4 := Aside0.mk H
  clear H
  go_enter Try.func5, Try.ntmps5
  go_upto_region 1 with (fail)
  go_cut [29] (fun v29 wc => ∃ (kq : Nat) (x29_3 : Bool), v29 = .bool x29_3 ∧ Aside0 (spec_SwapRows.j0 kq l0 a1 a2 x29_3 = some (r1, r2)) ∧ Aside0 (kq ≤ k) ∧ Aside0 (Below w.heap.size w wc))
  case first =>
    have H := HC4.out
    clear HC4
    replace H := Option.bind_eq_some_iff.mp H
    obtain ⟨t151, A50, H⟩ := H
    replace H : (if t151 = true then ((spec_l1In.f a1 0 (wrap64 ((l0.length : Int) - 1))).bind fun t152 => (if t152 = true then ((spec_l1In.f a2 0 (wrap64 ((l0.length : Int) - 1))).bind fun t153 => (spec_SwapRows.j0 k l0 a1 a2 (!t153))) else (spec_SwapRows.j0 k l0 a1 a2 true))) else (spec_SwapRows.j0 k l0 a1 a2 true)) = some (r1, r2) := H
    have A5 := Aside0.mk A50
    clear A50
    by_cases c6 : t151 = true
    · subst c6
      have H1 : ((spec_l1In.f a1 0 (wrap64 ((l0.length : Int) - 1))).bind fun t152 => (if t152 = true then ((spec_l1In.f a2 0 (wrap64 ((l0.length : Int) - 1))).bind fun t153 => (spec_SwapRows.j0 k l0 a1 a2 (!t153))) else (spec_SwapRows.j0 k l0 a1 a2 true))) = some (r1, r2) := by rw [if_pos rfl] at H; exact H
      clear H
      have H := H1
      clear H1
      replace H := Option.bind_eq_some_iff.mp H
      obtain ⟨t152, A70, H⟩ := H
      replace H : (if t152 = true then ((spec_l1In.f a2 0 (wrap64 ((l0.length : Int) - 1))).bind fun t153 => (spec_SwapRows.j0 k l0 a1 a2 (!t153))) else (spec_SwapRows.j0 k l0 a1 a2 true)) = some (r1, r2) := H
      have A7 := Aside0.mk A70
      clear A70
      by_cases c8 : t152 = true
      · subst c8
        have H1 : ((spec_l1In.f a2 0 (wrap64 ((l0.length : Int) - 1))).bind fun t153 => (spec_SwapRows.j0 k l0 a1 a2 (!t153))) = some (r1, r2) := by rw [if_pos rfl] at H; exact H
        clear H
        have H := H1
        clear H1
        replace H := Option.bind_eq_some_iff.mp H
        obtain ⟨t153, A90, H⟩ := H
        replace H : (spec_SwapRows.j0 k l0 a1 a2 (!t153)) = some (r1, r2) := H
        have A9 := Aside0.mk A90
        clear A90
        have H' := Aside0.mk H
        clear H
        go_wp2_with (first | ((with_reducible refine gate_callee (f := 12) rfl ?_); refine goesL_ (some 12) rfl rfl Try.func12 (by kernel_rfl) rfl #[.slice A0 l0.length c0] rfl (by (try simp only [List.map_toArray, List.map_cons, List.map_nil]); first | done | rfl | (simp only [List.length_drop, List.length_take]; rfl)) ?_; (with_reducible refine (spec_wiBlock.calls k _ _ l0 true _ ?side1 ?side2 A5.out).mono ?_); (case side1 => repeat (first | exact (Kd.C_below HR0.out HB.out) | (with_reducible refine Kd.C_alloc ?_ _) | (with_reducible refine Kd.C_drewN ?_ _) | (with_reducible refine Kd.C_drew ?_))); (case side2 => exact HC0.out); rintro e w10 ⟨rfl, hb⟩; refine ⟨_, rfl, ?_⟩; have n0_ := Aside0.mk (below_step (by repeat (first | (with_reducible first | exact HB.out | apply below_alloc | apply pw_below_drewN | apply below_drew1) | exact HB.out)) hb); clear HB; have HB := n0_; clear n0_; (try clear hb); (try clear hb2); (try clear hk); (try clear hi)) | (go_at_call 13; (with_reducible refine (spec_l1In.calls a1 0 (wrap64 ((l0.length : Int) - 1)) true _ A7.out).mono ?_); rintro e w' ⟨rfl, ⟨nd, rfl⟩⟩) | (go_at_call 13; (with_reducible refine (spec_l1In.calls a2 0 (wrap64 ((l0.length : Int) - 1)) t153 _ A9.out).mono ?_); rintro e w' ⟨rfl, ⟨nd, rfl⟩⟩))
        go_meet
        case rel => exact ⟨_, (!t153), (by first | rfl | (simp; done) | (simp [*]; done)), H', ⟨by first | omega | exact Nat.le_refl _⟩, ⟨by repeat (first | (with_reducible first | exact HB.out | apply below_alloc | apply pw_below_drewN | apply below_drew1) | exact HB.out)⟩⟩
      · replace c8 := Bool.eq_false_iff.mpr c8
        subst c8
        have H1 : (spec_SwapRows.j0 k l0 a1 a2 true) = some (r1, r2) := by rw [if_neg (show ¬ (false = true) by decide)] at H; exact H
        clear H
        have H := H1
        clear H1
        have H' := Aside0.mk H
        clear H
        go_wp2_with (first | ((with_reducible refine gate_callee (f := 12) rfl ?_); refine goesL_ (some 12) rfl rfl Try.func12 (by kernel_rfl) rfl #[.slice A0 l0.length c0] rfl (by (try simp only [List.map_toArray, List.map_cons, List.map_nil]); first | done | rfl | (simp only [List.length_drop, List.length_take]; rfl)) ?_; (with_reducible refine (spec_wiBlock.calls k _ _ l0 true _ ?side1 ?side2 A5.out).mono ?_); (case side1 => repeat (first | exact (Kd.C_below HR0.out HB.out) | (with_reducible refine Kd.C_alloc ?_ _) | (with_reducible refine Kd.C_drewN ?_ _) | (with_reducible refine Kd.C_drew ?_))); (case side2 => exact HC0.out); rintro e w11 ⟨rfl, hb⟩; refine ⟨_, rfl, ?_⟩; have n0_ := Aside0.mk (below_step (by repeat (first | (with_reducible first | exact HB.out | apply below_alloc | apply pw_below_drewN | apply below_drew1) | exact HB.out)) hb); clear HB; have HB := n0_; clear n0_; (try clear hb); (try clear hb2); (try clear hk); (try clear hi)) | (go_at_call 13; (with_reducible refine (spec_l1In.calls a1 0 (wrap64 ((l0.length : Int) - 1)) false _ A7.out).mono ?_); rintro e w' ⟨rfl, ⟨nd, rfl⟩⟩))
        go_meet
        case rel => exact ⟨_, (true), (by first | rfl | (simp; done) | (simp [*]; done)), H', ⟨by first | omega | exact Nat.le_refl _⟩, ⟨by repeat (first | (with_reducible first | exact HB.out | apply below_alloc | apply pw_below_drewN | apply below_drew1) | exact HB.out)⟩⟩
    · replace c6 := Bool.eq_false_iff.mpr c6
      subst c6
      have H1 : (spec_SwapRows.j0 k l0 a1 a2 true) = some (r1, r2) := by rw [if_neg (show ¬ (false = true) by decide)] at H; exact H
      clear H
      have H := H1
      clear H1
      have H' := Aside0.mk H
      clear H
      go_wp2_with (first | ((with_reducible refine gate_callee (f := 12) rfl ?_); refine goesL_ (some 12) rfl rfl Try.func12 (by kernel_rfl) rfl #[.slice A0 l0.length c0] rfl (by (try simp only [List.map_toArray, List.map_cons, List.map_nil]); first | done | rfl | (simp only [List.length_drop, List.length_take]; rfl)) ?_; (with_reducible refine (spec_wiBlock.calls k _ _ l0 false _ ?side1 ?side2 A5.out).mono ?_); (case side1 => repeat (first | exact (Kd.C_below HR0.out HB.out) | (with_reducible refine Kd.C_alloc ?_ _) | (with_reducible refine Kd.C_drewN ?_ _) | (with_reducible refine Kd.C_drew ?_))); (case side2 => exact HC0.out); rintro e w12 ⟨rfl, hb⟩; refine ⟨_, rfl, ?_⟩; have n0_ := Aside0.mk (below_step (by repeat (first | (with_reducible first | exact HB.out | apply below_alloc | apply pw_below_drewN | apply below_drew1) | exact HB.out)) hb); clear HB; have HB := n0_; clear n0_; (try clear hb); (try clear hb2); (try clear hk); (try clear hi)))
      go_meet
      case rel => exact ⟨_, (true), (by first | rfl | (simp; done) | (simp [*]; done)), H', ⟨by first | omega | exact Nat.le_refl _⟩, ⟨by repeat (first | (with_reducible first | exact HB.out | apply below_alloc | apply pw_below_drewN | apply below_drew1) | exact HB.out)⟩⟩
  case rest =>
    clear HC4
    try clear c1
    try clear p2
    try clear c5
    try clear c6
    try clear p6
    try clear c8
    try clear c12
    obtain ⟨kq, x29_3, rfl, HA, HJ3, HB⟩ := hcut
    cases kq with
    | zero => exact absurd HA.out (by simp [spec_SwapRows.j0])
    | succ kj3 =>
      have H := HA.out
      clear HA
      simp only [spec_SwapRows.j0] at H
      by_cases c13 : x29_3 = true
      · subst c13
        have H1 : (some (([] : List (List Int)), false)) = some (r1, r2) := by rw [if_pos rfl] at H; exact H
        clear H
        have H := H1
        clear H1
        simp only [Option.some.injEq, Prod.mk.injEq] at H
        obtain ⟨rfl, rfl⟩ := H
        go_wp2
        go_ret2
        exact ⟨_, by first | rfl | (simp [errW_none, errW_some] <;> rfl) | (simp [*, errW_none, errW_some] <;> rfl), by first | exact Kd.S_nil _ _ _ _ _ | exact Kd.N_nil _ _ _ _ _ | exact Kd.V_nil _ _ _ _ _ | exact Kd.Q_nil _ _ _ _ _ | exact Kd.R_nil _ _ _ _ _, by repeat (first | (with_reducible first | exact HB.out | apply below_alloc | apply pw_below_drewN | apply below_drew1) | exact HB.out)⟩
      · replace c13 := Bool.eq_false_iff.mpr c13
        subst c13
        have H1 : (spec_SwapRows.l0 kj3 l0 a1 a2 ([] : List (List Int)) (l0.length : Int) 0) = some (r1, r2) := by rw [if_neg (show ¬ (false = true) by decide)] at H; exact H
        clear H
        have H := H1
        clear H1
        have H' := Aside0.mk H
        clear H
        go_wp2
        go_loopg [8, 32] kj3 (fun kq v8 v32 w' => ∃ (x8_2 : List (List Int)) (x32_2 : Int), v32 = .int .i64 x32_2 ∧ Aside0 (spec_SwapRows.l0 kq l0 a1 a2 x8_2 (l0.length : Int) x32_2 = some (r1, r2)) ∧ Aside0 (kq ≤ kj3) ∧ Aside0 (Kd.S (Kd.slice 3 (Kd.int .i64)) 30 w' w.heap.size (fun _ => True) v8 x8_2) ∧ Aside0 (Below w.heap.size w w'))
        case atStart => exact ⟨(([] : List (List Int))), (0), (by first | rfl | (simp; done) | (simp [*]; done)), H', ⟨Nat.le_refl _⟩, ⟨by first | exact Kd.S_nil _ _ _ _ _ | exact Kd.N_nil _ _ _ _ _ | exact Kd.V_nil _ _ _ _ _ | exact Kd.Q_nil _ _ _ _ _ | exact Kd.R_nil _ _ _ _ _⟩, ⟨by repeat (first | (with_reducible first | exact HB.out | apply below_alloc | apply pw_below_drewN | apply below_drew1) | exact HB.out)⟩⟩
        case round =>
          clear H'
          try clear c1
          try clear p2
          try clear c5
          try clear c6
          try clear p6
          try clear c8
          try clear c12
          try clear c13
          try clear p2
          try clear p6
          obtain ⟨x8_2, x32_2, rfl, HA, HK2, HO_8, HB⟩ := hrel
          cases gk with
          | zero => exact absurd HA.out (by simp [spec_SwapRows.l0])
          | succ k2 =>
            have H := HA.out
            clear HA
            simp only [spec_SwapRows.l0] at H
            by_cases c14 : x32_2 < (l0.length : Int)
            · rw [if_pos c14] at H
              have c14b0 : decide (x32_2 < (l0.length : Int)) = true := decide_eq_true c14
              clear c14
              by_cases c15 : x32_2 = a1
              · rw [if_pos c15] at H
                have c15b0 : (x32_2 == a1) = true := beq_iff_eq.mpr c15
                have c15b1 : (x32_2 != a1) = false := bne_eq_false_iff_eq.mpr c15
                clear c15
                by_cases c16 : 0 ≤ a2
                · rw [if_pos c16] at H
                  have c16b0 : decide (0 ≤ a2) = true := decide_eq_true c16
                  clear c16
                  by_cases c17 : a2 < (l0.length : Int)
                  · rw [if_pos c17] at H
                    have c17b0 : decide (a2 < (l0.length : Int)) = true := decide_eq_true c17
                    clear c17
                    replace H := Option.bind_eq_some_iff.mp H
                    obtain ⟨t155, A180, H⟩ := H
                    replace H : (if x8_2.length < 5864062014805 then (spec_SwapRows.l0 k2 l0 a1 a2 (x8_2 ++ [t155]) (l0.length : Int) (wrap64 (x32_2 + 1))) else (none)) = some (r1, r2) := H
                    have A18 := Aside0.mk A180
                    clear A180
                    by_cases c19 : x8_2.length < 5864062014805
                    · rw [if_pos c19] at H
                      have LMc19 := Aside0.mk c19
                      clear c19
                      obtain ⟨y158, hy158⟩ : ∃ y_ : List (List Int), y_ = (x8_2 ++ [t155]) := ⟨_, rfl⟩
                      replace H : (spec_SwapRows.l0 k2 l0 a1 a2 y158 (l0.length : Int) (wrap64 (x32_2 + 1))) = some (r1, r2) := by first | (rw [hy158]; with_reducible exact H) | (have H2_ := (Option.bind_some _ _).symm.trans H; rw [hy158]; with_reducible exact H2_) | (have H2_ := (Option.bind_some _ _).symm.trans H; with_reducible exact H2_) | with_reducible exact H | (rw [hy158]; exact H) | exact H
                      have Ny158 := Aside0.mk hy158
                      clear hy158
                      have H' := Aside0.mk H
                      clear H
                      have p154 : 0 ≤ (a2 : Int) := of_decide_eq_true (by first | (with_reducible assumption) | assumption)
                      have q154 : a2 < (l0.length : Int) := of_decide_eq_true (by first | (with_reducible assumption) | assumption)
                      obtain ⟨ad154, A154_0, c154_0, e154, hx154_0, hl154_0, hi154_0⟩ := at_i64s HR0.out a2 p154 q154
                      cases e154
                      replace hx154_0 := (HB.out.cell (World.block_lt_of_cell? w _ hx154_0)).trans hx154_0
                      have HR154_0 := Aside0.mk hi154_0
                      have HC154_0 := Aside0.mk hl154_0
                      clear hi154_0 hl154_0
                      replace p154 := eq_true p154
                      replace q154 := eq_true q154
                      go_wp2_with (first | ((with_reducible refine gate_callee (f := 14) rfl ?_); refine goesL_ (some 50) rfl rfl Try.func14 (by kernel_rfl) rfl #[.slice A154_0 (rd_i64s l0 a2).length c154_0] rfl (by (try simp only [List.map_toArray, List.map_cons, List.map_nil]); first | done | rfl | (simp only [List.length_drop, List.length_take]; rfl)) ?_; (with_reducible refine (spec_l1Own.calls _ _ (rd_i64s l0 a2) t155 _ ?side1 ?side2 A18.out).mono ?_); (case side1 => repeat (first | exact (Kd.C_below HR154_0.out HB.out) | (with_reducible refine Kd.C_alloc ?_ _) | (with_reducible refine Kd.C_drewN ?_ _) | (with_reducible refine Kd.C_drew ?_))); (case side2 => exact HC154_0.out); rintro e w20 ⟨v156, rfl, ho0, hb⟩; refine ⟨_, rfl, ?_⟩; have n0_ := Aside0.mk (Kd.S_elder' (by (with_reducible repeat (first | apply Kd.S_alloc | apply Kd.S_drewN | apply Kd.S_drew)); exact HO_8.out) (Kd.R_base ho0) hb); have n1_ := Aside0.mk (Kd.R_lower ho0 (below_size (by repeat (first | (with_reducible first | exact HB.out | apply below_alloc | apply pw_below_drewN | apply below_drew1) | exact HB.out)))); have n2_ := Aside0.mk (below_step (by repeat (first | (with_reducible first | exact HB.out | apply below_alloc | apply pw_below_drewN | apply below_drew1) | exact HB.out)) hb); clear HO_8; clear HB; have HO_8 := n0_; have HO157 := n1_; have HB := n2_; clear n0_ n1_ n2_; (try clear hb); (try clear hb2); (try clear hk); (try clear hi); (try clear ho0); obtain ⟨Ao22, co22, eo22⟩ := Kd.R_slice HO157.out; subst eo22) | ((with_reducible refine gate_builtin (b := .append) (xs := #[.tmp 45, .tmp 51]) rfl ?_); (try (refine gate_guard (by rfl) ?_; dsimp only)); at_builtin; refine Kd.S_append (Kd.slice 3 (Kd.int .i64)) (w0 := w) w.heap.size rfl (.tmp 45) (.tmp 51) 22 30 (.slice none 0 0) 24 rfl Try.underlying22 info30 rfl (by decide) (by omega) u8 x8_2 t155 [.slice Ao22 t155.length co22] (fun _ => True) (fun k_ => some k_ = (.slice Ao22 t155.length co22 : Value).ownBlock) rfl rfl ?aP (fun k_ hk_ => ((Kd.R_mono (ok' := fun k_ => ((fun _ => True)) k_ ∧ some k_ ≠ (u8 : Value).ownBlock) (Kd.R_apart' (HO157.out) (Kd.S_typed HO_8.out) (by decide)) (fun k_ hk => ⟨trivial, hk.2⟩))).1 k_ hk_.symm) ?aF ?aO ?aB ?aS ?aL ?_; (case aP => exact Kd.M_row (Kd.R_mono (Kd.R_tight rfl (Kd.R_mono (ok' := fun k_ => ((fun _ => True)) k_ ∧ some k_ ≠ (u8 : Value).ownBlock) (Kd.R_apart' (HO157.out) (Kd.S_typed HO_8.out) (by decide)) (fun k_ hk => ⟨trivial, hk.2⟩))) (fun _ h_ => h_))); (case aB => exact (by repeat (first | (with_reducible first | exact HB.out | apply below_alloc | apply pw_below_drewN | apply below_drew1) | exact HB.out))); (case aF => exact (fun _ _ => trivial)); (case aO => exact (by (with_reducible repeat (first | apply Kd.S_alloc | apply Kd.S_drewN | apply Kd.S_drew)); exact Kd.S_mono HO_8.out (fun k_ hk => ⟨trivial, fun e_ => hk.2 e_⟩))); (case aS => exact (below_size (by repeat (first | (with_reducible first | exact HB.out | apply below_alloc | apply pw_below_drewN | apply below_drew1) | exact HB.out)))); (case aL => have := LMc19.out; omega); intro v159 w21 ho hb hg hat; rw [← Ny158.out] at ho; have n0_ := Aside0.mk (hb); have n1_ := Aside0.mk (ho); clear HB; clear HO_8; clear HO157; have HB := n0_; have HO160 := n1_; clear n0_ n1_; clear ho hb hg hat))
                      go_roundg k2
                      case measure => have := HJ3.out; have := HK2.out; omega
                      case rel => exact ⟨(y158), (wrap64 (x32_2 + 1)), (by first | rfl | (simp; done) | (simp [*]; done)), H', ⟨by have := HJ3.out; have := HK2.out; omega⟩, ⟨by (with_reducible repeat (first | apply Kd.S_alloc | apply Kd.S_drewN | apply Kd.S_drew)); exact HO160.out⟩, ⟨by repeat (first | (with_reducible first | exact HB.out | apply below_alloc | apply pw_below_drewN | apply below_drew1) | exact HB.out)⟩⟩
                    · rw [if_neg c19] at H
                      exact absurd H (by simp)
                  · rw [if_neg c17] at H
                    exact absurd H (by simp)
                · rw [if_neg c16] at H
                  exact absurd H (by simp)
              · rw [if_neg c15] at H
                have c15b0 : (x32_2 == a1) = false := beq_eq_false_iff_ne.mpr c15
                have c15b1 : (x32_2 != a1) = true := bne_iff_ne.mpr c15
                by_cases c23 : x32_2 = a2
                · rw [if_pos c23] at H
                  have c23b0 : (x32_2 == a2) = true := beq_iff_eq.mpr c23
                  have c23b1 : (x32_2 != a2) = false := bne_eq_false_iff_eq.mpr c23
                  clear c23
                  by_cases c24 : 0 ≤ a1
                  · rw [if_pos c24] at H
                    have c24b0 : decide (0 ≤ a1) = true := decide_eq_true c24
                    clear c24
                    by_cases c25 : a1 < (l0.length : Int)
                    · rw [if_pos c25] at H
                      have c25b0 : decide (a1 < (l0.length : Int)) = true := decide_eq_true c25
                      clear c25
                      replace H := Option.bind_eq_some_iff.mp H
                      obtain ⟨t162, A260, H⟩ := H
                      replace H : (if x8_2.length < 5864062014805 then (spec_SwapRows.l0 k2 l0 a1 a2 (x8_2 ++ [t162]) (l0.length : Int) (wrap64 (x32_2 + 1))) else (none)) = some (r1, r2) := H
                      have A26 := Aside0.mk A260
                      clear A260
                      by_cases c27 : x8_2.length < 5864062014805
                      · rw [if_pos c27] at H
                        have LMc27 := Aside0.mk c27
                        clear c27
                        obtain ⟨y165, hy165⟩ : ∃ y_ : List (List Int), y_ = (x8_2 ++ [t162]) := ⟨_, rfl⟩
                        replace H : (spec_SwapRows.l0 k2 l0 a1 a2 y165 (l0.length : Int) (wrap64 (x32_2 + 1))) = some (r1, r2) := by first | (rw [hy165]; with_reducible exact H) | (have H2_ := (Option.bind_some _ _).symm.trans H; rw [hy165]; with_reducible exact H2_) | (have H2_ := (Option.bind_some _ _).symm.trans H; with_reducible exact H2_) | with_reducible exact H | (rw [hy165]; exact H) | exact H
                        have Ny165 := Aside0.mk hy165
                        clear hy165
                        have H' := Aside0.mk H
                        clear H
                        have p161 : 0 ≤ (a1 : Int) := of_decide_eq_true (by first | (with_reducible assumption) | assumption)
                        have q161 : a1 < (l0.length : Int) := of_decide_eq_true (by first | (with_reducible assumption) | assumption)
                        obtain ⟨ad161, A161_0, c161_0, e161, hx161_0, hl161_0, hi161_0⟩ := at_i64s HR0.out a1 p161 q161
                        cases e161
                        replace hx161_0 := (HB.out.cell (World.block_lt_of_cell? w _ hx161_0)).trans hx161_0
                        have HR161_0 := Aside0.mk hi161_0
                        have HC161_0 := Aside0.mk hl161_0
                        clear hi161_0 hl161_0
                        replace p161 := eq_true p161
                        replace q161 := eq_true q161
                        go_wp2_with (first | ((with_reducible refine gate_callee (f := 14) rfl ?_); refine goesL_ (some 50) rfl rfl Try.func14 (by kernel_rfl) rfl #[.slice A161_0 (rd_i64s l0 a1).length c161_0] rfl (by (try simp only [List.map_toArray, List.map_cons, List.map_nil]); first | done | rfl | (simp only [List.length_drop, List.length_take]; rfl)) ?_; (with_reducible refine (spec_l1Own.calls _ _ (rd_i64s l0 a1) t162 _ ?side1 ?side2 A26.out).mono ?_); (case side1 => repeat (first | exact (Kd.C_below HR161_0.out HB.out) | (with_reducible refine Kd.C_alloc ?_ _) | (with_reducible refine Kd.C_drewN ?_ _) | (with_reducible refine Kd.C_drew ?_))); (case side2 => exact HC161_0.out); rintro e w28 ⟨v163, rfl, ho0, hb⟩; refine ⟨_, rfl, ?_⟩; have n0_ := Aside0.mk (Kd.S_elder' (by (with_reducible repeat (first | apply Kd.S_alloc | apply Kd.S_drewN | apply Kd.S_drew)); exact HO_8.out) (Kd.R_base ho0) hb); have n1_ := Aside0.mk (Kd.R_lower ho0 (below_size (by repeat (first | (with_reducible first | exact HB.out | apply below_alloc | apply pw_below_drewN | apply below_drew1) | exact HB.out)))); have n2_ := Aside0.mk (below_step (by repeat (first | (with_reducible first | exact HB.out | apply below_alloc | apply pw_below_drewN | apply below_drew1) | exact HB.out)) hb); clear HO_8; clear HB; have HO_8 := n0_; have HO164 := n1_; have HB := n2_; clear n0_ n1_ n2_; (try clear hb); (try clear hb2); (try clear hk); (try clear hi); (try clear ho0); obtain ⟨Ao30, co30, eo30⟩ := Kd.R_slice HO164.out; subst eo30) | ((with_reducible refine gate_builtin (b := .append) (xs := #[.tmp 45, .tmp 51]) rfl ?_); (try (refine gate_guard (by rfl) ?_; dsimp only)); at_builtin; refine Kd.S_append (Kd.slice 3 (Kd.int .i64)) (w0 := w) w.heap.size rfl (.tmp 45) (.tmp 51) 22 30 (.slice none 0 0) 24 rfl Try.underlying22 info30 rfl (by decide) (by omega) u8 x8_2 t162 [.slice Ao30 t162.length co30] (fun _ => True) (fun k_ => some k_ = (.slice Ao30 t162.length co30 : Value).ownBlock) rfl rfl ?aP (fun k_ hk_ => ((Kd.R_mono (ok' := fun k_ => ((fun _ => True)) k_ ∧ some k_ ≠ (u8 : Value).ownBlock) (Kd.R_apart' (HO164.out) (Kd.S_typed HO_8.out) (by decide)) (fun k_ hk => ⟨trivial, hk.2⟩))).1 k_ hk_.symm) ?aF ?aO ?aB ?aS ?aL ?_; (case aP => exact Kd.M_row (Kd.R_mono (Kd.R_tight rfl (Kd.R_mono (ok' := fun k_ => ((fun _ => True)) k_ ∧ some k_ ≠ (u8 : Value).ownBlock) (Kd.R_apart' (HO164.out) (Kd.S_typed HO_8.out) (by decide)) (fun k_ hk => ⟨trivial, hk.2⟩))) (fun _ h_ => h_))); (case aB => exact (by repeat (first | (with_reducible first | exact HB.out | apply below_alloc | apply pw_below_drewN | apply below_drew1) | exact HB.out))); (case aF => exact (fun _ _ => trivial)); (case aO => exact (by (with_reducible repeat (first | apply Kd.S_alloc | apply Kd.S_drewN | apply Kd.S_drew)); exact Kd.S_mono HO_8.out (fun k_ hk => ⟨trivial, fun e_ => hk.2 e_⟩))); (case aS => exact (below_size (by repeat (first | (with_reducible first | exact HB.out | apply below_alloc | apply pw_below_drewN | apply below_drew1) | exact HB.out)))); (case aL => have := LMc27.out; omega); intro v166 w29 ho hb hg hat; rw [← Ny165.out] at ho; have n0_ := Aside0.mk (hb); have n1_ := Aside0.mk (ho); clear HB; clear HO_8; clear HO164; have HB := n0_; have HO167 := n1_; clear n0_ n1_; clear ho hb hg hat))
                        go_roundg k2
                        case measure => have := HJ3.out; have := HK2.out; omega
                        case rel => exact ⟨(y165), (wrap64 (x32_2 + 1)), (by first | rfl | (simp; done) | (simp [*]; done)), H', ⟨by have := HJ3.out; have := HK2.out; omega⟩, ⟨by (with_reducible repeat (first | apply Kd.S_alloc | apply Kd.S_drewN | apply Kd.S_drew)); exact HO167.out⟩, ⟨by repeat (first | (with_reducible first | exact HB.out | apply below_alloc | apply pw_below_drewN | apply below_drew1) | exact HB.out)⟩⟩
                      · rw [if_neg c27] at H
                        exact absurd H (by simp)
                    · rw [if_neg c25] at H
                      exact absurd H (by simp)
                  · rw [if_neg c24] at H
                    exact absurd H (by simp)
                · rw [if_neg c23] at H
                  have c23b0 : (x32_2 == a2) = false := beq_eq_false_iff_ne.mpr c23
                  have c23b1 : (x32_2 != a2) = true := bne_iff_ne.mpr c23
                  by_cases c31 : 0 ≤ x32_2
                  · rw [if_pos c31] at H
                    have c31b0 : decide (0 ≤ x32_2) = true := decide_eq_true c31
                    clear c31
                    by_cases c32 : x32_2 < (l0.length : Int)
                    · rw [if_pos c32] at H
                      have c32b0 : decide (x32_2 < (l0.length : Int)) = true := decide_eq_true c32
                      clear c32
                      replace H := Option.bind_eq_some_iff.mp H
                      obtain ⟨t169, A330, H⟩ := H
                      replace H : (if x8_2.length < 5864062014805 then (spec_SwapRows.l0 k2 l0 a1 a2 (x8_2 ++ [t169]) (l0.length : Int) (wrap64 (x32_2 + 1))) else (none)) = some (r1, r2) := H
                      have A33 := Aside0.mk A330
                      clear A330
                      by_cases c34 : x8_2.length < 5864062014805
                      · rw [if_pos c34] at H
                        have LMc34 := Aside0.mk c34
                        clear c34
                        obtain ⟨y172, hy172⟩ : ∃ y_ : List (List Int), y_ = (x8_2 ++ [t169]) := ⟨_, rfl⟩
                        replace H : (spec_SwapRows.l0 k2 l0 a1 a2 y172 (l0.length : Int) (wrap64 (x32_2 + 1))) = some (r1, r2) := by first | (rw [hy172]; with_reducible exact H) | (have H2_ := (Option.bind_some _ _).symm.trans H; rw [hy172]; with_reducible exact H2_) | (have H2_ := (Option.bind_some _ _).symm.trans H; with_reducible exact H2_) | with_reducible exact H | (rw [hy172]; exact H) | exact H
                        have Ny172 := Aside0.mk hy172
                        clear hy172
                        have H' := Aside0.mk H
                        clear H
                        have p168 : 0 ≤ (x32_2 : Int) := of_decide_eq_true (by first | (with_reducible assumption) | assumption)
                        have q168 : x32_2 < (l0.length : Int) := of_decide_eq_true (by first | (with_reducible assumption) | assumption)
                        obtain ⟨ad168, A168_0, c168_0, e168, hx168_0, hl168_0, hi168_0⟩ := at_i64s HR0.out x32_2 p168 q168
                        cases e168
                        replace hx168_0 := (HB.out.cell (World.block_lt_of_cell? w _ hx168_0)).trans hx168_0
                        have HR168_0 := Aside0.mk hi168_0
                        have HC168_0 := Aside0.mk hl168_0
                        clear hi168_0 hl168_0
                        replace p168 := eq_true p168
                        replace q168 := eq_true q168
                        go_wp2_with (first | ((with_reducible refine gate_callee (f := 14) rfl ?_); refine goesL_ (some 50) rfl rfl Try.func14 (by kernel_rfl) rfl #[.slice A168_0 (rd_i64s l0 x32_2).length c168_0] rfl (by (try simp only [List.map_toArray, List.map_cons, List.map_nil]); first | done | rfl | (simp only [List.length_drop, List.length_take]; rfl)) ?_; (with_reducible refine (spec_l1Own.calls _ _ (rd_i64s l0 x32_2) t169 _ ?side1 ?side2 A33.out).mono ?_); (case side1 => repeat (first | exact (Kd.C_below HR168_0.out HB.out) | (with_reducible refine Kd.C_alloc ?_ _) | (with_reducible refine Kd.C_drewN ?_ _) | (with_reducible refine Kd.C_drew ?_))); (case side2 => exact HC168_0.out); rintro e w35 ⟨v170, rfl, ho0, hb⟩; refine ⟨_, rfl, ?_⟩; have n0_ := Aside0.mk (Kd.S_elder' (by (with_reducible repeat (first | apply Kd.S_alloc | apply Kd.S_drewN | apply Kd.S_drew)); exact HO_8.out) (Kd.R_base ho0) hb); have n1_ := Aside0.mk (Kd.R_lower ho0 (below_size (by repeat (first | (with_reducible first | exact HB.out | apply below_alloc | apply pw_below_drewN | apply below_drew1) | exact HB.out)))); have n2_ := Aside0.mk (below_step (by repeat (first | (with_reducible first | exact HB.out | apply below_alloc | apply pw_below_drewN | apply below_drew1) | exact HB.out)) hb); clear HO_8; clear HB; have HO_8 := n0_; have HO171 := n1_; have HB := n2_; clear n0_ n1_ n2_; (try clear hb); (try clear hb2); (try clear hk); (try clear hi); (try clear ho0); obtain ⟨Ao37, co37, eo37⟩ := Kd.R_slice HO171.out; subst eo37) | ((with_reducible refine gate_builtin (b := .append) (xs := #[.tmp 45, .tmp 51]) rfl ?_); (try (refine gate_guard (by rfl) ?_; dsimp only)); at_builtin; refine Kd.S_append (Kd.slice 3 (Kd.int .i64)) (w0 := w) w.heap.size rfl (.tmp 45) (.tmp 51) 22 30 (.slice none 0 0) 24 rfl Try.underlying22 info30 rfl (by decide) (by omega) u8 x8_2 t169 [.slice Ao37 t169.length co37] (fun _ => True) (fun k_ => some k_ = (.slice Ao37 t169.length co37 : Value).ownBlock) rfl rfl ?aP (fun k_ hk_ => ((Kd.R_mono (ok' := fun k_ => ((fun _ => True)) k_ ∧ some k_ ≠ (u8 : Value).ownBlock) (Kd.R_apart' (HO171.out) (Kd.S_typed HO_8.out) (by decide)) (fun k_ hk => ⟨trivial, hk.2⟩))).1 k_ hk_.symm) ?aF ?aO ?aB ?aS ?aL ?_; (case aP => exact Kd.M_row (Kd.R_mono (Kd.R_tight rfl (Kd.R_mono (ok' := fun k_ => ((fun _ => True)) k_ ∧ some k_ ≠ (u8 : Value).ownBlock) (Kd.R_apart' (HO171.out) (Kd.S_typed HO_8.out) (by decide)) (fun k_ hk => ⟨trivial, hk.2⟩))) (fun _ h_ => h_))); (case aB => exact (by repeat (first | (with_reducible first | exact HB.out | apply below_alloc | apply pw_below_drewN | apply below_drew1) | exact HB.out))); (case aF => exact (fun _ _ => trivial)); (case aO => exact (by (with_reducible repeat (first | apply Kd.S_alloc | apply Kd.S_drewN | apply Kd.S_drew)); exact Kd.S_mono HO_8.out (fun k_ hk => ⟨trivial, fun e_ => hk.2 e_⟩))); (case aS => exact (below_size (by repeat (first | (with_reducible first | exact HB.out | apply below_alloc | apply pw_below_drewN | apply below_drew1) | exact HB.out)))); (case aL => have := LMc34.out; omega); intro v173 w36 ho hb hg hat; rw [← Ny172.out] at ho; have n0_ := Aside0.mk (hb); have n1_ := Aside0.mk (ho); clear HB; clear HO_8; clear HO171; have HB := n0_; have HO174 := n1_; clear n0_ n1_; clear ho hb hg hat))
                        go_roundg k2
                        case measure => have := HJ3.out; have := HK2.out; omega
                        case rel => exact ⟨(y172), (wrap64 (x32_2 + 1)), (by first | rfl | (simp; done) | (simp [*]; done)), H', ⟨by have := HJ3.out; have := HK2.out; omega⟩, ⟨by (with_reducible repeat (first | apply Kd.S_alloc | apply Kd.S_drewN | apply Kd.S_drew)); exact HO174.out⟩, ⟨by repeat (first | (with_reducible first | exact HB.out | apply below_alloc | apply pw_below_drewN | apply below_drew1) | exact HB.out)⟩⟩
                      · rw [if_neg c34] at H
                        exact absurd H (by simp)
                    · rw [if_neg c32] at H
                      exact absurd H (by simp)
                  · rw [if_neg c31] at H
                    exact absurd H (by simp)
            · rw [if_neg c14] at H
              have c14b0 : decide (x32_2 < (l0.length : Int)) = false := decide_eq_false c14
              clear c14
              simp only [Option.some.injEq, Prod.mk.injEq] at H
              obtain ⟨rfl, rfl⟩ := H
              go_wp2
              go_ret2
              exact ⟨_, by first | rfl | (simp [errW_none, errW_some] <;> rfl) | (simp [*, errW_none, errW_some] <;> rfl), by (with_reducible repeat (first | apply Kd.S_alloc | apply Kd.S_drewN | apply Kd.S_drew)); exact HO_8.out, by repeat (first | (with_reducible first | exact HB.out | apply below_alloc | apply pw_below_drewN | apply below_drew1) | exact HB.out)⟩

end
section
open Go.RowKit Go.Proofs.YtipkmbgebpeeoaaW.PrintWords Go.Proofs.YtipkmbgebpeeoaaW.PrintLast Go.Proofs.YtipkmbgebpeeoaaW.PrintMore
attribute [local go_sem] max2_int min2_int max_two min_two max_three min_three max_four min_four   -- for this text's walks alone
set_option linter.unusedVariables false
set_option linter.unusedSimpArgs false

attribute [local go_sem high] eqA43
def slices_Index_impl_Tile_impl_Tile.l0 : Nat → List (S_Tile) → Int → Int → Int → Int → Option (Int)
  | 0, _, _, _, _, _ => none
  | k + 1, x0, x7, x8, x197000, x197001 => if x8 < x7 then (if 0 ≤ x8 then (if x8 < (x0.length : Int) then (if (x197000 == ((rd_Tile x0 x8).f0) && (x197001 == ((rd_Tile x0 x8).f1))) = true then (some x8) else (slices_Index_impl_Tile_impl_Tile.l0 k x0 x7 (wrap64 (x8 + 1)) x197000 x197001)) else (none)) else (none)) else (some (-1))
def slices_Index_impl_Tile_impl_Tile.f (k : Nat) (l0 : List (S_Tile)) (a1_0 : Int) (a1_1 : Int) : Option (Int) := slices_Index_impl_Tile_impl_Tile.l0 k l0 (l0.length : Int) 0 a1_0 a1_1
set_option maxRecDepth 100000 in
set_option maxHeartbeats 40000000 in
theorem slices_Index_impl_Tile_impl_Tile.calls (k : Nat) (A0 : Option Addr) (c0 : Nat) (l0 : List (S_Tile)) (a1_0 : Int) (a1_1 : Int) (r : Int) (w : World) (hr0 : Kd.C k43 w A0 l0.length l0) (hc0 : l0.length ≤ c0) (h : slices_Index_impl_Tile_impl_Tile.f k l0 a1_0 a1_1 = some r) :
    Calls Try.prog 42 #[.slice A0 l0.length c0, .agg #[.int .i64 a1_0, .int .i64 a1_1]] w fun e w' => e = .returned (.int .i64 r) ∧ Below w.heap.size w w' := by
  obtain ⟨cs, hcs⟩ : ∃ cs, cs = [old w w.heap.size] := ⟨_, rfl⟩
  have hp : Hp w cs w := by rw [hcs]; exact Hp.old_start w
  have hc2 : ∀ W, Hp w cs W → Below w.heap.size w W := fun W h => by rw [hcs] at h; exact h.since 0 _ rfl
  have hC0 : ∀ W, Hp w cs W → Kd.C k43 W A0 l0.length l0 := fun W h => Kd.C_below hr0 (hc2 W h)
  clear hcs
  unfold slices_Index_impl_Tile_impl_Tile.f at h
  refine sx_enter (N := 19) (l := [.slice A0 l0.length c0, .agg #[.int .i64 a1_0, .int .i64 a1_1]]) Try.func42 rfl rfl rfl ?_
  refine wp_seq ?_
  refine sx_region ?_
  refine sx_box 3 hp #[.int .i64 a1_0, .int .i64 a1_1] 43 (by rfl) (fun W => by kernel_rfl) ?_
  intro g_1 W_2 hp
  refine sx_rd 4 (.int .i64 0) (by rfl) (by kernel_rfl) ?_
  refine sx_nil ?_
  refine ex_then_n ?_
  refine wp_seq ?_
  refine wp_seq ?_
  refine sx_region ?_
  refine sx_rd 6 (.slice A0 l0.length c0) (by rfl) (by kernel_rfl) ?_
  refine sx_rd 7 (.int .i64 (l0.length : Int)) (by rfl) (by kernel_rfl) ?_
  refine sx_rd 8 (.int .i64 0) (by rfl) (by kernel_rfl) ?_
  refine sx_nil ?_
  refine ex_then_n ?_
  refine wp_block ?_
  refine wp_loop_ghost (fun n_ a_ W => ∃ (r_ : List (Nat × Value)) (k_4 : Nat) (x_3 : Int)  , n_ = k_4 + 1 ∧ a_ = fr 19 ([(0, .slice A0 l0.length c0), (3, .pointer (some ⟨g_1, 0, none⟩)), (7, .int .i64 (l0.length : Int)), (8, .int .i64 x_3)] ++ r_) ∧ Hp w (blk g_1 #[.int .i64 a1_0, .int .i64 a1_1] 43 :: cs) W ∧ (slices_Index_impl_Tile_impl_Tile.l0 k_4 l0 (l0.length : Int) x_3 a1_0 a1_1 = some r) ∧ (k_4 ≤ k)) _ ⟨_, k, 0, rfl, fr_front [(0, .slice A0 l0.length c0), (3, .pointer (some ⟨g_1, 0, none⟩)), (7, .int .i64 (l0.length : Int)), (8, .int .i64 0)] ⟨rfl, rfl, rfl, rfl, trivial⟩, (hp.take [0] 1 (by decide) (by simp)), h, (Nat.le_refl _)⟩ ?_
  rintro _ _ W_6 ⟨r_, k_4, x_3, rfl, rfl, hp, h, hk_5⟩
  rcases k_4 with _ | k_4
  · simp [slices_Index_impl_Tile_impl_Tile.l0] at h
  simp only [slices_Index_impl_Tile_impl_Tile.l0] at h
  refine wp_seq ?_
  refine sx_region ?_
  refine sx_rd 9 (.bool (decide (x_3 < (l0.length : Int)))) (by rfl) (by kernel_rfl) ?_
  refine sx_nil ?_
  refine ex_then_n ?_
  refine wp_seq ?_
  by_cases hc_7 : x_3 < (l0.length : Int)
  ·
    rw [if_pos hc_7] at h
    by_cases hc_8 : 0 ≤ x_3
    case neg => rw [if_neg hc_8] at h; cases h
    rw [if_pos hc_8] at h
    by_cases hc_9 : x_3 < (l0.length : Int)
    case neg => rw [if_neg hc_9] at h; cases h
    rw [if_pos hc_9] at h
    refine sx_then (decide (x_3 < (l0.length : Int))) (by rfl) (decide_eq_true hc_7) ?_
    refine wp_skip ?_
    refine ex_then_n ?_
    refine wp_seq ?_
    refine wp_block ?_
    refine wp_seq ?_
    refine sx_region ?_
    refine sx_rd 10 (.int .i64 x_3) (by rfl) (by kernel_rfl) ?_
    refine sx_rd 5 (.int .i64 x_3) (by rfl) (by kernel_rfl) ?_
    refine sx_nil ?_
    refine ex_then_n ?_
    refine wp_seq ?_
    refine sx_drawT [1, 2] (.rd 0 (.rd 3 (.rd 4 (.rd 5 (.fin))))) 6 (C := Hp w (blk g_1 #[.int .i64 a1_0, .int .i64 a1_1] 43 :: cs)) (by kernel_rfl) (by kernel_rfl) (fun d _ _ _ _ h => by cases d <;> exact h) (fun W h => h.drew) hp ?_
    refine preI_read rfl ?_
    refine sxq_val 12 (.slice A0 l0.length c0) (by rfl) (fun W _ => (by kernel_rfl)) ?_
    refine sxq_nil ?_
    refine preI_read rfl ?_
    refine sxq_val 13 (.int .i64 x_3) (by rfl) (fun W _ => (by kernel_rfl)) ?_
    refine sxq_nil ?_
    refine preI_nil ?_
    intro W_10 hp
    refine treeI_rd rfl ?_
    refine sxq_val 11 (.agg #[.int .i64 a1_0, .int .i64 a1_1]) (by rfl) (fun W hp => (ldn (t := 43) (p := (.tmp 3)) (by rfl) (by rfl) (by kernel_rfl) (by kernel_rfl) (by kernel_rfl) (hp.at_ 0 _ (by rfl)))) ?_
    refine sxq_nil ?_
    refine treeI_rd rfl ?_
    refine sxq_val 14 (.pointer (some (adr A0 x_3 2))) (by rfl) (fun W hp => (ix_run (d := k43) (hC0 _ hp.tail) (t := 37) (by rfl) (by rfl) (by rfl) Try.underlying37 (by kernel_rfl) (by omega) (by omega))) ?_
    refine sxq_nil ?_
    refine treeI_rd rfl ?_
    refine sxq_val 15 (.agg #[.int .i64 ((rd_Tile l0 x_3).f0), .int .i64 ((rd_Tile l0 x_3).f1)]) (by rfl) (fun W hp => (el_run (d := k43) (hC0 _ hp.tail) z43 x_3 (by omega) (by omega) (cells := [.int .i64 ((rd_Tile l0 x_3).f0), .int .i64 ((rd_Tile l0 x_3).f1)]) (fun cs h => k43_open h) 0 [.int .i64 ((rd_Tile l0 x_3).f0), .int .i64 ((rd_Tile l0 x_3).f1)] (by rfl) (t := 43) (p := (.tmp 14)) (by rfl) (by rfl) (by kernel_rfl) (by kernel_rfl))) ?_
    refine sxq_nil ?_
    refine treeI_rd rfl ?_
    refine sxq_val 16 (.bool (a1_0 == (rd_Tile l0 x_3).f0 && (a1_1 == (rd_Tile l0 x_3).f1))) (by rfl) (fun W hp => (eqagg_run (by rfl) (by rfl) (by rfl) (fun d w => eqA43 d w _ _ _ _) (by kernel_rfl))) ?_
    refine sxq_nil ?_
    refine treeI_fin ?_
    refine sx_nil ?_
    refine ex_then_n ?_
    by_cases hc_11 : (a1_0 == ((rd_Tile l0 x_3).f0) && (a1_1 == ((rd_Tile l0 x_3).f1))) = true
    ·
      rw [if_pos hc_11] at h
      refine sx_then (a1_0 == (rd_Tile l0 x_3).f0 && (a1_1 == (rd_Tile l0 x_3).f1)) (by rfl) hc_11 ?_
      refine wp_seq ?_
      refine sx_region ?_
      refine sx_rd 17 (.int .i64 x_3) (by rfl) (by kernel_rfl) ?_
      refine sx_rd 4 (.int .i64 x_3) (by rfl) (by kernel_rfl) ?_
      refine sx_nil ?_
      refine ex_then_n ?_
      refine wp_ret ?_
      refine ex_blk_r (ex_then_r (ex_then_r (ex_blk_r (ex_then_r ?_))))
      refine sx_end (.int .i64 x_3) (res1 4 (by rfl)) ?_
      obtain rfl := Option.some.inj h
      exact ⟨rfl, hc2 _ (hp.tail)⟩
    ·
      rw [if_neg hc_11] at h
      refine sx_else (a1_0 == (rd_Tile l0 x_3).f0 && (a1_1 == (rd_Tile l0 x_3).f1)) (by rfl) (Bool.eq_false_iff.mpr hc_11) ?_
      refine wp_skip ?_
      refine ex_blk_n ?_
      refine ex_then_n ?_
      refine sx_region ?_
      refine sx_rd 18 (.int .i64 (wrap64 (x_3 + 1))) (by rfl) (wr_w (by kernel_rfl)) ?_
      refine sx_rd 8 (.int .i64 (wrap64 (x_3 + 1))) (by rfl) (by kernel_rfl) ?_
      refine sx_nil ?_
      refine ex_then_n ?_
      exact ⟨_, (by omega), _, k_4, (wrap64 (x_3 + 1)), rfl, fr_front [(0, .slice A0 l0.length c0), (3, .pointer (some ⟨g_1, 0, none⟩)), (7, .int .i64 (l0.length : Int)), (8, .int .i64 (wrap64 (x_3 + 1)))] ⟨rfl, rfl, rfl, rfl, trivial⟩, (hp.take [0] 1 (by decide) (by simp)), h, (by omega)⟩
  ·
    rw [if_neg hc_7] at h
    refine sx_else (decide (x_3 < (l0.length : Int))) (by rfl) (decide_eq_false hc_7) ?_
    refine wp_exit ?_
    refine ex_then_e (ex_then_e (ex_blk_here ?_))
    refine ex_then_n ?_
    refine wp_seq ?_
    refine sx_region ?_
    refine sx_rd 4 (.int .i64 (-1)) (by rfl) (by kernel_rfl) ?_
    refine sx_nil ?_
    refine ex_then_n ?_
    refine wp_ret ?_
    refine sx_end (.int .i64 (-1)) (res1 4 (by rfl)) ?_
    obtain rfl := Option.some.inj h
    exact ⟨rfl, hc2 _ (hp.tail)⟩
end
section
open Go.RowKit Go.Proofs.YtipkmbgebpeeoaaW.PrintWords Go.Proofs.YtipkmbgebpeeoaaW.PrintLast Go.Proofs.YtipkmbgebpeeoaaW.PrintMore
attribute [local go_sem] max2_int min2_int max_two min_two max_three min_three max_four min_four   -- for this text's walks alone
set_option linter.unusedVariables false
set_option linter.unusedSimpArgs false

def slices_Contains_impl_Tile_impl_Tile.f (k : Nat) (l0 : List (S_Tile)) (a1_0 : Int) (a1_1 : Int) : Option (Bool) := (slices_Index_impl_Tile_impl_Tile.f k l0 a1_0 a1_1).bind fun t199 => (some (decide (t199 ≥ 0)))
set_option maxRecDepth 100000 in
set_option maxHeartbeats 40000000 in
theorem slices_Contains_impl_Tile_impl_Tile.calls (k : Nat) (A0 : Option Addr) (c0 : Nat) (l0 : List (S_Tile)) (a1_0 : Int) (a1_1 : Int) (r : Bool) (w : World) (hr0 : Kd.C k43 w A0 l0.length l0) (hc0 : l0.length ≤ c0) (h : slices_Contains_impl_Tile_impl_Tile.f k l0 a1_0 a1_1 = some r) :
    Calls Try.prog 38 #[.slice A0 l0.length c0, .agg #[.int .i64 a1_0, .int .i64 a1_1]] w fun e w' => e = .returned (.bool r) ∧ Below w.heap.size w w' := by
  obtain ⟨cs, hcs⟩ : ∃ cs, cs = [old w w.heap.size] := ⟨_, rfl⟩
  have hp : Hp w cs w := by rw [hcs]; exact Hp.old_start w
  have hc2 : ∀ W, Hp w cs W → Below w.heap.size w W := fun W h => by rw [hcs] at h; exact h.since 0 _ rfl
  have hC0 : ∀ W, Hp w cs W → Kd.C k43 W A0 l0.length l0 := fun W h => Kd.C_below hr0 (hc2 W h)
  clear hcs
  unfold slices_Contains_impl_Tile_impl_Tile.f at h
  obtain ⟨t_2, hv_1, h⟩ := Option.bind_eq_some_iff.mp h
  try dsimp only at h
  refine sx_enter (N := 9) (l := [.slice A0 l0.length c0, .agg #[.int .i64 a1_0, .int .i64 a1_1]]) Try.func38 rfl rfl rfl ?_
  refine wp_seq ?_
  refine sx_region ?_
  refine sx_box 3 hp #[.int .i64 a1_0, .int .i64 a1_1] 43 (by rfl) (fun W => by kernel_rfl) ?_
  intro g_3 W_4 hp
  refine sx_rd 4 (.bool false) (by rfl) (by kernel_rfl) ?_
  refine sx_nil ?_
  refine ex_then_n ?_
  refine wp_seq ?_
  refine sx_region ?_
  refine sx_rd 5 (.slice A0 l0.length c0) (by rfl) (by kernel_rfl) ?_
  refine sx_rd 6 (.agg #[.int .i64 a1_0, .int .i64 a1_1]) (by rfl) (ldn (t := 43) (p := (.tmp 3)) (by rfl) (by rfl) (by kernel_rfl) (by kernel_rfl) (by kernel_rfl) (hp.at_ 0 _ (by rfl))) ?_
  refine sx_call 7 (by rfl) (by kernel_rfl) ((slices_Index_impl_Tile_impl_Tile.calls _ A0 c0 l0 a1_0 a1_1 _ _ (hC0 _ hp.tail) hc0 hv_1).mono ?_)
  rintro _ W_5 ⟨rfl, hb⟩
  refine ⟨_, rfl, ?_⟩
  replace hp := hp.below hb
  clear hb
  refine sx_rd 8 (.bool (decide (t_2 ≥ 0))) (by rfl) (by kernel_rfl) ?_
  refine sx_rd 4 (.bool (decide (t_2 ≥ 0))) (by rfl) (by kernel_rfl) ?_
  refine sx_nil ?_
  refine ex_then_n ?_
  refine wp_ret ?_
  refine sx_end (.bool (decide (t_2 ≥ 0))) (res1 4 (by rfl)) ?_
  obtain rfl := Option.some.inj h
  exact ⟨rfl, hc2 _ (hp.tail)⟩
end
section
open Go.RowKit Go.Proofs.YtipkmbgebpeeoaaW.PrintWords Go.Proofs.YtipkmbgebpeeoaaW.PrintLast Go.Proofs.YtipkmbgebpeeoaaW.PrintMore
attribute [local go_sem] max2_int min2_int max_two min_two max_three min_three max_four min_four   -- for this text's walks alone
set_option linter.unusedVariables false
set_option linter.unusedSimpArgs false

def impl_areDifferent_impl_Tile.l0 : Nat → List (S_Tile) → List (S_Tile) → Int → Int → Option (Bool)
  | 0, _, _, _, _ => none
  | k + 1, x0, x5, x6, x7 => if x7 < x6 then (if 0 ≤ x7 then (if x7 < (x5.length : Int) then (if x7 ≤ (x0.length : Int) then ((slices_Contains_impl_Tile_impl_Tile.f k (x0.take (x7 : Int).toNat) ((rd_Tile x5 x7).f0) ((rd_Tile x5 x7).f1)).bind fun t206 => (if t206 = true then (some false) else (impl_areDifferent_impl_Tile.l0 k x0 x5 x6 (wrap64 (x7 + 1))))) else (none)) else (none)) else (none)) else (some true)
def impl_areDifferent_impl_Tile.f (k : Nat) (l0 : List (S_Tile)) : Option (Bool) := impl_areDifferent_impl_Tile.l0 k l0 l0 (l0.length : Int) 0
set_option maxRecDepth 100000 in
set_option maxHeartbeats 40000000 in
theorem impl_areDifferent_impl_Tile.calls (k : Nat) (A0 : Option Addr) (c0 : Nat) (l0 : List (S_Tile)) (r : Bool) (w : World) (hr0 : Kd.C k43 w A0 l0.length l0) (hc0 : l0.length ≤ c0) (h : impl_areDifferent_impl_Tile.f k l0 = some r) :
    Calls Try.prog 29 #[.slice A0 l0.length c0] w fun e w' => e = .returned (.bool r) ∧ Below w.heap.size w w' := by
  obtain ⟨cs, hcs⟩ : ∃ cs, cs = [old w w.heap.size] := ⟨_, rfl⟩
  have hp : Hp w cs w := by rw [hcs]; exact Hp.old_start w
  have hc2 : ∀ W, Hp w cs W → Below w.heap.size w W := fun W h => by rw [hcs] at h; exact h.since 0 _ rfl
  have hC0 : ∀ W, Hp w cs W → Kd.C k43 W A0 l0.length l0 := fun W h => Kd.C_below hr0 (hc2 W h)
  clear hcs
  unfold impl_areDifferent_impl_Tile.f at h
  refine sx_enter (N := 18) (l := [.slice A0 l0.length c0]) Try.func29 rfl rfl rfl ?_
  refine wp_seq ?_
  refine sx_region ?_
  refine sx_rd 2 (.bool false) (by rfl) (by kernel_rfl) ?_
  refine sx_nil ?_
  refine ex_then_n ?_
  refine wp_seq ?_
  refine wp_seq ?_
  refine sx_region ?_
  refine sx_rd 5 (.slice A0 l0.length c0) (by rfl) (by kernel_rfl) ?_
  refine sx_rd 6 (.int .i64 (l0.length : Int)) (by rfl) (by kernel_rfl) ?_
  refine sx_rd 7 (.int .i64 0) (by rfl) (by kernel_rfl) ?_
  refine sx_nil ?_
  refine ex_then_n ?_
  refine wp_block ?_
  refine wp_loop_ghost (fun n_ a_ W => ∃ (r_ : List (Nat × Value)) (k_2 : Nat) (x_1 : Int)  , n_ = k_2 + 1 ∧ a_ = fr 18 ([(0, .slice A0 l0.length c0), (5, .slice A0 l0.length c0), (6, .int .i64 (l0.length : Int)), (7, .int .i64 x_1)] ++ r_) ∧ Hp w (cs) W ∧ (impl_areDifferent_impl_Tile.l0 k_2 l0 l0 (l0.length : Int) x_1 = some r) ∧ (k_2 ≤ k)) _ ⟨_, k, 0, rfl, fr_front [(0, .slice A0 l0.length c0), (5, .slice A0 l0.length c0), (6, .int .i64 (l0.length : Int)), (7, .int .i64 0)] ⟨rfl, rfl, rfl, rfl, trivial⟩, (hp.take [] 0 (by decide) (by simp)), h, (Nat.le_refl _)⟩ ?_
  rintro _ _ W_4 ⟨r_, k_2, x_1, rfl, rfl, hp, h, hk_3⟩
  rcases k_2 with _ | k_2
  · simp [impl_areDifferent_impl_Tile.l0] at h
  simp only [impl_areDifferent_impl_Tile.l0] at h
  refine wp_seq ?_
  refine sx_region ?_
  refine sx_rd 8 (.bool (decide (x_1 < (l0.length : Int)))) (by rfl) (by kernel_rfl) ?_
  refine sx_nil ?_
  refine ex_then_n ?_
  refine wp_seq ?_
  by_cases hc_5 : x_1 < (l0.length : Int)
  ·
    rw [if_pos hc_5] at h
    by_cases hc_6 : 0 ≤ x_1
    case neg => rw [if_neg hc_6] at h; cases h
    rw [if_pos hc_6] at h
    by_cases hc_7 : x_1 < (l0.length : Int)
    case neg => rw [if_neg hc_7] at h; cases h
    rw [if_pos hc_7] at h
    by_cases hc_8 : x_1 ≤ (l0.length : Int)
    case neg => rw [if_neg hc_8] at h; cases h
    rw [if_pos hc_8] at h
    obtain ⟨t_10, hv_9, h⟩ := Option.bind_eq_some_iff.mp h
    try dsimp only at h
    refine sx_then (decide (x_1 < (l0.length : Int))) (by rfl) (decide_eq_true hc_5) ?_
    refine wp_skip ?_
    refine ex_then_n ?_
    refine wp_seq ?_
    refine wp_block ?_
    refine wp_seq ?_
    refine sx_region ?_
    refine sx_rd 9 (.int .i64 x_1) (by rfl) (by kernel_rfl) ?_
    refine sx_rd 10 (.pointer (some (adr A0 x_1 2))) (by rfl) (ix_run (d := k43) (hC0 _ hp) (t := 37) (by rfl) (by rfl) (by rfl) Try.underlying37 (by kernel_rfl) (by omega) (by omega)) ?_
    refine sx_rd 11 (.agg #[.int .i64 ((rd_Tile l0 x_1).f0), .int .i64 ((rd_Tile l0 x_1).f1)]) (by rfl) (el_run (d := k43) (hC0 _ hp) z43 x_1 (by omega) (by omega) (cells := [.int .i64 ((rd_Tile l0 x_1).f0), .int .i64 ((rd_Tile l0 x_1).f1)]) (fun cs h => k43_open h) 0 [.int .i64 ((rd_Tile l0 x_1).f0), .int .i64 ((rd_Tile l0 x_1).f1)] (by rfl) (t := 43) (p := (.tmp 10)) (by rfl) (by rfl) (by kernel_rfl) (by kernel_rfl)) ?_
    refine sx_box 4 hp #[.int .i64 0, .int .i64 0] 43 (by rfl) (fun W => by kernel_rfl) ?_
    intro g_11 W_12 hp
    refine sx_rd 3 (.int .i64 x_1) (by rfl) (by kernel_rfl) ?_
    refine sx_store (t := 43) (p := (.tmp 4)) (x := (.tmp 11)) (by rfl) (by rfl) 0 (by rfl) 0 [.int .i64 ((rd_Tile l0 x_1).f0), .int .i64 ((rd_Tile l0 x_1).f1)] (by rfl) (by rfl) (by kernel_rfl) (by simp [Value.oneCell']) (by show 2 ≤ 2; omega) #[.int .i64 ((rd_Tile l0 x_1).f0), .int .i64 ((rd_Tile l0 x_1).f1)] (by rfl) hp ?_
    intro W_13 hp; simp only [List.set_cons_succ, List.set_cons_zero] at hp
    refine sx_nil ?_
    refine ex_then_n ?_
    refine wp_seq ?_
    refine sx_drawT [0, 1] (.rd 3 (.alt 2 (.alt 4 (.fin) .non) .non)) 5 (C := Hp w (blk g_11 #[.int .i64 ((rd_Tile l0 x_1).f0), .int .i64 ((rd_Tile l0 x_1).f1)] 43 :: cs)) (by kernel_rfl) (by kernel_rfl) (fun d _ _ _ _ h => by cases d <;> exact h) (fun W h => h.drew) hp ?_
    refine preI_read rfl ?_
    refine sxq_val 12 (.slice A0 l0.length c0) (by rfl) (fun W _ => (by kernel_rfl)) ?_
    refine sxq_nil ?_
    refine preI_read rfl ?_
    refine sxq_val 13 (.int .i64 x_1) (by rfl) (fun W _ => (by kernel_rfl)) ?_
    refine sxq_nil ?_
    refine preI_nil ?_
    intro W_14 hp
    refine treeI_rd rfl ?_
    refine sxq_val 15 (.agg #[.int .i64 ((rd_Tile l0 x_1).f0), .int .i64 ((rd_Tile l0 x_1).f1)]) (by rfl) (fun W hp => (ldn (t := 43) (p := (.tmp 4)) (by rfl) (by rfl) (by kernel_rfl) (by kernel_rfl) (by kernel_rfl) (hp.at_ 0 _ (by rfl)))) ?_
    refine sxq_nil ?_
    refine treeI_ev rfl ?_
    have hcap_15 : l0.length ≤ c0 := hc0
    refine sx_rd 14 (.slice A0 ((l0.take (x_1).toNat).length) c0) (by rfl) (sl_hi (x_1).toNat (sz := 2) (xs := l0) (by rfl) (by rfl) (by rfl) (by omega) Try.underlying37 (by kernel_rfl) (by omega) hcap_15) ?_
    refine step_fin hp ?_
    refine treeI_ev rfl ?_
    refine sx_call 16 (by rfl) (by kernel_rfl) ((slices_Contains_impl_Tile_impl_Tile.calls _ A0 c0 (l0.take (x_1).toNat) ((rd_Tile l0 x_1).f0) ((rd_Tile l0 x_1).f1) _ _ (Kd.C_take (hC0 _ hp.tail) (by omega)) (show (l0.take (x_1).toNat).length ≤ c0 by simp; omega) hv_9).mono ?_)
    rintro _ W_16 ⟨rfl, hb⟩
    refine ⟨_, rfl, ?_⟩
    replace hp := hp.below hb
    clear hb
    refine step_fin hp ?_
    refine treeI_fin ?_
    refine sx_nil ?_
    refine ex_then_n ?_
    by_cases hc_17 : t_10 = true
    ·
      rw [if_pos hc_17] at h
      refine sx_then t_10 (by rfl) hc_17 ?_
      refine wp_seq ?_
      refine sx_region ?_
      refine sx_rd 2 (.bool false) (by rfl) (by kernel_rfl) ?_
      refine sx_nil ?_
      refine ex_then_n ?_
      refine wp_ret ?_
      refine ex_blk_r (ex_then_r (ex_then_r (ex_blk_r (ex_then_r ?_))))
      refine sx_end (.bool false) (res1 2 (by rfl)) ?_
      obtain rfl := Option.some.inj h
      exact ⟨rfl, hc2 _ (hp.tail)⟩
    ·
      rw [if_neg hc_17] at h
      refine sx_else t_10 (by rfl) (Bool.eq_false_iff.mpr hc_17) ?_
      refine wp_skip ?_
      refine ex_blk_n ?_
      refine ex_then_n ?_
      refine sx_region ?_
      refine sx_rd 17 (.int .i64 (wrap64 (x_1 + 1))) (by rfl) (wr_w (by kernel_rfl)) ?_
      refine sx_rd 7 (.int .i64 (wrap64 (x_1 + 1))) (by rfl) (by kernel_rfl) ?_
      refine sx_nil ?_
      refine ex_then_n ?_
      exact ⟨_, (by omega), _, k_2, (wrap64 (x_1 + 1)), rfl, fr_front [(0, .slice A0 l0.length c0), (5, .slice A0 l0.length c0), (6, .int .i64 (l0.length : Int)), (7, .int .i64 (wrap64 (x_1 + 1)))] ⟨rfl, rfl, rfl, rfl, trivial⟩, (hp.take [] 1 (by decide) (by simp)), h, (by omega)⟩
  ·
    rw [if_neg hc_5] at h
    refine sx_else (decide (x_1 < (l0.length : Int))) (by rfl) (decide_eq_false hc_5) ?_
    refine wp_exit ?_
    refine ex_then_e (ex_then_e (ex_blk_here ?_))
    refine ex_then_n ?_
    refine wp_seq ?_
    refine sx_region ?_
    refine sx_rd 2 (.bool true) (by rfl) (by kernel_rfl) ?_
    refine sx_nil ?_
    refine ex_then_n ?_
    refine wp_ret ?_
    refine sx_end (.bool true) (res1 2 (by rfl)) ?_
    obtain rfl := Option.some.inj h
    exact ⟨rfl, hc2 _ (hp)⟩
end
section
open Go.RowKit Go.Proofs.YtipkmbgebpeeoaaW.PrintWords Go.Proofs.YtipkmbgebpeeoaaW.PrintLast Go.Proofs.YtipkmbgebpeeoaaW.PrintMore
attribute [local go_sem] max2_int min2_int max_two min_two max_three min_three max_four min_four   -- for this text's walks alone
set_option linter.unusedVariables false
set_option linter.unusedSimpArgs false

def impl_tile.f (a0 : Int) (a1 : Int) : Option (Int × Int) := some (mn a0 a1, mx a0 a1)
set_option maxRecDepth 100000 in
set_option maxHeartbeats 40000000 in
theorem impl_tile.calls (a0 : Int) (a1 : Int) (r1 : Int) (r2 : Int) (w : World) (h : impl_tile.f a0 a1 = some (r1, r2)) :
    Calls Try.prog 39 #[.int .i64 a0, .int .i64 a1] w fun e w' => e = .returned (.agg #[.int .i64 r1, .int .i64 r2]) ∧ Below w.heap.size w w' := by
  obtain ⟨cs, hcs⟩ : ∃ cs, cs = [old w w.heap.size] := ⟨_, rfl⟩
  have hp : Hp w cs w := by rw [hcs]; exact Hp.old_start w
  have hc2 : ∀ W, Hp w cs W → Below w.heap.size w W := fun W h => by rw [hcs] at h; exact h.since 0 _ rfl
  clear hcs
  unfold impl_tile.f at h
  refine sx_enter (N := 12) (l := [.int .i64 a0, .int .i64 a1]) Try.func39 rfl rfl rfl ?_
  refine wp_seq ?_
  refine sx_region ?_
  refine sx_box 4 hp #[.int .i64 0, .int .i64 0] 43 (by rfl) (fun W => by kernel_rfl) ?_
  intro g_1 W_2 hp
  refine sx_nil ?_
  refine ex_then_n ?_
  refine wp_seq ?_
  refine sx_region ?_
  refine sx_rd 5 (.int .i64 a0) (by rfl) (by kernel_rfl) ?_
  refine sx_rd 6 (.int .i64 a1) (by rfl) (by kernel_rfl) ?_
  refine sx_rd 7 (.int .i64 (mn a0 a1)) (by rfl) (by kernel_rfl) ?_
  refine sx_rd 8 (.int .i64 a0) (by rfl) (by kernel_rfl) ?_
  refine sx_rd 9 (.int .i64 a1) (by rfl) (by kernel_rfl) ?_
  refine sx_rd 10 (.int .i64 (mx a0 a1)) (by rfl) (by kernel_rfl) ?_
  refine sx_rd 11 (.agg #[.int .i64 (mn a0 a1), .int .i64 (mx a0 a1)]) (by rfl) (by kernel_rfl) ?_
  refine sx_store (t := 43) (p := (.tmp 4)) (x := (.tmp 11)) (by rfl) (by rfl) 0 (by rfl) 0 [.int .i64 (mn a0 a1), .int .i64 (mx a0 a1)] (by rfl) (by rfl) (by kernel_rfl) (by simp [Value.oneCell']) (by show 2 ≤ 2; omega) #[.int .i64 (mn a0 a1), .int .i64 (mx a0 a1)] (by rfl) hp ?_
  intro W_3 hp; simp only [List.set_cons_succ, List.set_cons_zero] at hp
  refine sx_nil ?_
  refine ex_then_n ?_
  refine wp_ret ?_
  refine sx_end (.agg #[.int .i64 (mn a0 a1), .int .i64 (mx a0 a1)]) (resc (by rfl) (by rfl) (by kernel_rfl) (by kernel_rfl) (hp.at_ 0 _ (by rfl))) ?_
  simp only [Option.some.injEq, Prod.mk.injEq] at h; obtain ⟨rfl, rfl⟩ := h
  exact ⟨rfl, hc2 _ (hp.tail)⟩
end
section
open Go.RowKit Go.Proofs.YtipkmbgebpeeoaaW.PrintWords Go.Proofs.YtipkmbgebpeeoaaW.PrintLast Go.Proofs.YtipkmbgebpeeoaaW.PrintMore
attribute [local go_sem] max2_int min2_int max_two min_two max_three min_three max_four min_four   -- for this text's walks alone
set_option linter.unusedVariables false
set_option linter.unusedSimpArgs false

def impl_tilesIn.l0 : Nat → List Int → List (S_Tile) → Int → Option ((List (S_Tile)))
  | 0, _, _, _ => none
  | k + 1, x0, x3, x4 => if (wrap64 (x4 + 1)) < (x0.length : Int) then (if 0 ≤ x4 then (if x4 < (x0.length : Int) then (if 0 ≤ (wrap64 (x4 + 1)) then ((impl_tile.f (rd x0 x4) (rd x0 (wrap64 (x4 + 1)))).bind fun bt213 => (if x3.length < 8796093022208 then (impl_tilesIn.l0 k x0 (x3 ++ [(⟨bt213.1, bt213.2⟩ : S_Tile)]) (wrap64 (x4 + 2))) else (none))) else (none)) else (none)) else (none)) else (some x3)
def impl_tilesIn.f (k : Nat) (l0 : List Int) : Option ((List (S_Tile))) := impl_tilesIn.l0 k l0 (([] : List (S_Tile))) 0
set_option maxRecDepth 100000 in
set_option maxHeartbeats 40000000 in
theorem impl_tilesIn.calls (k : Nat) (A0 : Option Addr) (c0 : Nat) (l0 : List Int) (r : List (S_Tile)) (w : World) (hr0 : Kd.C (Kd.int .i64) w A0 l0.length l0) (hc0 : l0.length ≤ c0) (h : impl_tilesIn.f k l0 = some r) :
    Calls Try.prog 30 #[.slice A0 l0.length c0] w fun e w' => ∃ v0_ : Value, e = .returned (v0_) ∧ Kd.R k43 43 w' w.heap.size (fun _ => True) v0_ r ∧ Below w.heap.size w w' := by
  obtain ⟨cs, hcs⟩ : ∃ cs, cs = [old w w.heap.size] := ⟨_, rfl⟩
  have hp : Hp w cs w := by rw [hcs]; exact Hp.old_start w
  have hc2 : ∀ W, Hp w cs W → Below w.heap.size w W := fun W h => by rw [hcs] at h; exact h.since 0 _ rfl
  have hC0 : ∀ W, Hp w cs W → Kd.C (Kd.int .i64) W A0 l0.length l0 := fun W h => Kd.C_below hr0 (hc2 W h)
  clear hcs
  unfold impl_tilesIn.f at h
  refine sx_enter (N := 27) (l := [.slice A0 l0.length c0]) Try.func30 rfl rfl rfl ?_
  refine wp_seq ?_
  refine sx_region ?_
  refine sx_rd 2 (.slice none 0 0) (by rfl) (by kernel_rfl) ?_
  refine sx_nil ?_
  refine ex_then_n ?_
  refine wp_seq ?_
  refine sx_region ?_
  refine sx_lit 5 (by rfl) k43 w.heap.size 43 ([] : List S_Tile) [] (fun W => by kernel_rfl) (Reps.none _ _) (by simp) hp.size hp ?_
  intro g_1 F_2 W_3 hp hz; clear hz
  refine sx_rd 3 (.slice (some ⟨g_1, 0, none⟩) (([] : List S_Tile).length) (([] : List S_Tile).length)) (by rfl) (by kernel_rfl) ?_
  refine sx_nil ?_
  refine ex_then_n ?_
  refine wp_seq ?_
  refine wp_seq ?_
  refine sx_region ?_
  refine sx_rd 4 (.int .i64 0) (by rfl) (by kernel_rfl) ?_
  refine sx_nil ?_
  refine ex_then_n ?_
  refine wp_block ?_
  refine wp_loop_ghost (fun n_ a_ W => ∃ (r_ : List (Nat × Value)) (k_6 : Nat) (x_5 : Int) (x_4 : List (S_Tile)) (A_7 : Option Addr) (n_8 c_9 : Nat) (F_10 : Nat → Prop), n_ = k_6 + 1 ∧ a_ = fr 27 ([(0, .slice A0 l0.length c0), (3, .slice A_7 n_8 c_9), (4, .int .i64 x_5)] ++ r_) ∧ Hp w (row k43 43 w.heap.size (.slice A_7 n_8 c_9) x_4 F_10 :: cs) W ∧ (impl_tilesIn.l0 k_6 l0 x_4 x_5 = some r) ∧ (k_6 ≤ k)) _ ⟨_, k, 0, (([] : List (S_Tile))), _, _, _, _, rfl, fr_front [(0, .slice A0 l0.length c0), (3, .slice (some ⟨g_1, 0, none⟩) (([] : List S_Tile).length) (([] : List S_Tile).length)), (4, .int .i64 0)] ⟨rfl, rfl, rfl, trivial⟩, (hp.take [0] 1 (by decide) (by simp)), h, (Nat.le_refl _)⟩ ?_
  rintro _ _ W_12 ⟨r_, k_6, x_5, x_4, A_7, n_8, c_9, F_10, rfl, rfl, hp, h, hk_11⟩
  obtain ⟨rfl, -⟩ := row_len (hp.at_ 0 _ (by rfl))
  rcases k_6 with _ | k_6
  · simp [impl_tilesIn.l0] at h
  simp only [impl_tilesIn.l0] at h
  refine wp_seq ?_
  refine wp_seq ?_
  refine sx_region ?_
  refine sx_rd 6 (.int .i64 x_5) (by rfl) (by kernel_rfl) ?_
  refine sx_rd 7 (.int .i64 (wrap64 (x_5 + 1))) (by rfl) (wr_w (by kernel_rfl)) ?_
  refine sx_rd 8 (.slice A0 l0.length c0) (by rfl) (by kernel_rfl) ?_
  refine sx_rd 9 (.int .i64 (l0.length : Int)) (by rfl) (by kernel_rfl) ?_
  refine sx_rd 10 (.bool (decide ((wrap64 (x_5 + 1)) < (l0.length : Int)))) (by rfl) (by kernel_rfl) ?_
  refine sx_nil ?_
  refine ex_then_n ?_
  by_cases hc_13 : (wrap64 (x_5 + 1)) < (l0.length : Int)
  ·
    rw [if_pos hc_13] at h
    by_cases hc_14 : 0 ≤ x_5
    case neg => rw [if_neg hc_14] at h; cases h
    rw [if_pos hc_14] at h
    by_cases hc_15 : x_5 < (l0.length : Int)
    case neg => rw [if_neg hc_15] at h; cases h
    rw [if_pos hc_15] at h
    by_cases hc_16 : 0 ≤ (wrap64 (x_5 + 1))
    case neg => rw [if_neg hc_16] at h; cases h
    rw [if_pos hc_16] at h
    obtain ⟨⟨t_18, t_19⟩, hv_17, h⟩ := Option.bind_eq_some_iff.mp h
    try dsimp only at h
    by_cases hc_20 : x_4.length < 8796093022208
    case neg => rw [if_neg hc_20] at h; cases h
    rw [if_pos hc_20] at h
    refine sx_then (decide ((wrap64 (x_5 + 1)) < (l0.length : Int))) (by rfl) (decide_eq_true hc_13) ?_
    refine wp_skip ?_
    refine ex_then_n ?_
    refine wp_seq ?_
    refine wp_block ?_
    refine sx_drawT [0, 1, 2, 5, 6, 7] (.rd 3 (.rd 4 (.rd 8 (.rd 9 (.alt 10 (.alt 11 (.fin) .non) .non))))) 12 (C := Hp w (row k43 43 w.heap.size (.slice A_7 x_4.length c_9) x_4 F_10 :: cs)) (by kernel_rfl) (by kernel_rfl) (fun d _ _ _ _ h => by cases d <;> exact h) (fun W h => h.drew) hp ?_
    refine preI_read rfl ?_
    refine sxq_val 13 (.slice A_7 x_4.length c_9) (by rfl) (fun W _ => (by kernel_rfl)) ?_
    refine sxq_nil ?_
    refine preI_read rfl ?_
    refine sxq_val 14 (.slice A0 l0.length c0) (by rfl) (fun W _ => (by kernel_rfl)) ?_
    refine sxq_nil ?_
    refine preI_read rfl ?_
    refine sxq_val 15 (.int .i64 x_5) (by rfl) (fun W _ => (by kernel_rfl)) ?_
    refine sxq_nil ?_
    refine preI_read rfl ?_
    refine sxq_val 18 (.slice A0 l0.length c0) (by rfl) (fun W _ => (by kernel_rfl)) ?_
    refine sxq_nil ?_
    refine preI_read rfl ?_
    refine sxq_val 19 (.int .i64 x_5) (by rfl) (fun W _ => (by kernel_rfl)) ?_
    refine sxq_nil ?_
    refine preI_read rfl ?_
    refine sxq_val 20 (.int .i64 (wrap64 (x_5 + 1))) (by rfl) (fun W _ => (wr_w (by kernel_rfl))) ?_
    refine sxq_nil ?_
    refine preI_nil ?_
    intro W_21 hp
    refine treeI_rd rfl ?_
    refine sxq_val 16 (.pointer (some (adr A0 x_5 1))) (by rfl) (fun W hp => (ix_run (d := (Kd.int .i64)) (hC0 _ hp.tail) (t := 30) (by rfl) (by rfl) (by rfl) Try.underlying30 (by kernel_rfl) (by omega) (by omega))) ?_
    refine sxq_nil ?_
    refine treeI_rd rfl ?_
    refine sxq_val 17 (.int .i64 (rd l0 x_5)) (by rfl) (fun W hp => (ld1 (t := 3) (p := (.tmp 16)) (by rfl) (by rfl) (by kernel_rfl) (el_cell (d := (Kd.int .i64)) (hC0 _ hp.tail) 0 x_5 (by omega) (by omega) (cells := [.int .i64 (rd l0 x_5)]) (fun cs h => h) 0 _ (by rfl)))) ?_
    refine sxq_nil ?_
    refine treeI_rd rfl ?_
    refine sxq_val 21 (.pointer (some (adr A0 (wrap64 (x_5 + 1)) 1))) (by rfl) (fun W hp => (ix_run (d := (Kd.int .i64)) (hC0 _ hp.tail) (t := 30) (by rfl) (by rfl) (by rfl) Try.underlying30 (by kernel_rfl) (by omega) (by omega))) ?_
    refine sxq_nil ?_
    refine treeI_rd rfl ?_
    refine sxq_val 22 (.int .i64 (rd l0 (wrap64 (x_5 + 1)))) (by rfl) (fun W hp => (ld1 (t := 3) (p := (.tmp 21)) (by rfl) (by rfl) (by kernel_rfl) (el_cell (d := (Kd.int .i64)) (hC0 _ hp.tail) 0 (wrap64 (x_5 + 1)) (by omega) (by omega) (cells := [.int .i64 (rd l0 (wrap64 (x_5 + 1)))]) (fun cs h => h) 0 _ (by rfl)))) ?_
    refine sxq_nil ?_
    refine treeI_ev rfl ?_
    refine sx_call 23 (by rfl) (by kernel_rfl) ((impl_tile.calls (rd l0 x_5) (rd l0 (wrap64 (x_5 + 1))) _ _ _ hv_17).mono ?_)
    rintro _ W_22 ⟨rfl, hb⟩
    refine ⟨_, rfl, ?_⟩
    replace hp := hp.below hb
    clear hb
    refine step_fin hp ?_
    refine treeI_ev rfl ?_
    refine sx_lit 24 (by rfl) k43 w.heap.size 43 ([(⟨t_18, t_19⟩ : S_Tile)]) [.int .i64 t_18, .int .i64 t_19] (fun W => by kernel_rfl) (tile_reps _ _ _) (by simp) hp.size hp ?_
    intro g_23 F_24 W_25 hp hz; clear hz
    refine step_fin hp.tail ?_
    refine treeI_fin ?_
    refine tail_of [12, 13] (by rfl) ?_
    refine tailI_op rfl ?_
    refine sx_append 25 (by rfl) k43 1 (by rfl) (.agg #[.int .i64 0, .int .i64 0]) 16 (by rfl) Try.underlying37 (by kernel_rfl) rfl (by decide) (by decide) ([(⟨t_18, t_19⟩ : S_Tile)]) (by rfl) (by rfl) (row_C (hp.at_ 0 _ (by rfl))) tile_kp hp.size (by first | omega | (simp; omega)) hp ?_
    intro A_26 c_27 F_28 W_29 hp hz; clear hz; simp only [List.set_cons_succ, List.set_cons_zero] at hp
    refine tailI_next ?_
    refine tailI_op rfl ?_
    refine sx_rd 3 (.slice A_26 ((x_4 ++ [(⟨t_18, t_19⟩ : S_Tile)]).length) c_27) (by rfl) (by kernel_rfl) ?_
    refine tailI_next ?_
    refine tailI_nil ?_
    refine ex_blk_n ?_
    refine ex_then_n ?_
    refine sx_region ?_
    refine sx_rd 11 (.int .i64 x_5) (by rfl) (by kernel_rfl) ?_
    refine sx_rd 12 (.int .i64 (wrap64 (x_5 + 2))) (by rfl) (wr_w (by kernel_rfl)) ?_
    refine sx_rd 4 (.int .i64 (wrap64 (x_5 + 2))) (by rfl) (by kernel_rfl) ?_
    refine sx_nil ?_
    refine ex_then_n ?_
    exact ⟨_, (by omega), _, k_6, (wrap64 (x_5 + 2)), (x_4 ++ [(⟨t_18, t_19⟩ : S_Tile)]), _, _, _, _, rfl, fr_front [(0, .slice A0 l0.length c0), (3, .slice A_26 ((x_4 ++ [(⟨t_18, t_19⟩ : S_Tile)]).length) c_27), (4, .int .i64 (wrap64 (x_5 + 2)))] ⟨rfl, rfl, rfl, trivial⟩, (hp.take [1] 2 (by decide) (by simp)), h, (by omega)⟩
  ·
    rw [if_neg hc_13] at h
    refine sx_else (decide ((wrap64 (x_5 + 1)) < (l0.length : Int))) (by rfl) (decide_eq_false hc_13) ?_
    refine wp_exit ?_
    refine ex_then_e (ex_then_e (ex_blk_here ?_))
    refine ex_then_n ?_
    refine wp_seq ?_
    refine sx_region ?_
    refine sx_rd 26 (.slice A_7 x_4.length c_9) (by rfl) (by kernel_rfl) ?_
    refine sx_rd 2 (.slice A_7 x_4.length c_9) (by rfl) (by kernel_rfl) ?_
    refine sx_nil ?_
    refine ex_then_n ?_
    refine wp_ret ?_
    refine sx_end (.slice A_7 x_4.length c_9) (res1 2 (by rfl)) ?_
    obtain rfl := Option.some.inj h
    exact ⟨_, rfl, Kd.R_mono (row_R (hp.at_ 0 _ (by rfl))) (fun _ _ => trivial), hc2 _ (hp.tail)⟩
end
end Go.Proofs.Ytipkmbgebpeeoaa.Hd
