-- Printed by hprint.py and laid together by pack.py (this session's programs over the kit's print program). Lean checks it.
import Derived.Test.YtokkiiepddhkiaaGreatDoorMSx5
import Derived.Test.YtokkiiepddhkiaaGreatDoorMSxL
import Derived.Test.YtokkiiepddhkiaaGreatDoorG0
namespace Go.Proofs.YtokkiiepddhkiaaGreatDoor.Hd
section
open Go.RowKit Go.Proofs.YtokkiiepddhkiaaGreatDoorW.PrintWords Go.Proofs.YtokkiiepddhkiaaGreatDoorW.PrintLast Go.Proofs.YtokkiiepddhkiaaGreatDoorW.PrintMore
attribute [local go_sem] max2_int min2_int max_two min_two max_three min_three max_four min_four   -- for this text's walks alone
set_option linter.unusedVariables false
set_option linter.unusedSimpArgs false

def spec_tiGood.f (a0_0 : Int) (a0_1 : Int) : Option (Bool) := (spec_l1In.f a0_0 0 a0_1).bind fun t125 => (if t125 = true then (some (decide (a0_1 ≤ 9))) else (some false))
set_option maxRecDepth 100000 in
set_option maxHeartbeats 40000000 in
theorem spec_tiGood.calls (a0_0 : Int) (a0_1 : Int) (r : Bool) (w : World) (h : spec_tiGood.f a0_0 a0_1 = some r) :
    Calls Tryz.prog 74 #[.agg #[.int .i64 a0_0, .int .i64 a0_1]] w fun e w' => e = .returned (.bool r) ∧ Below w.heap.size w w' := by
  obtain ⟨cs, hcs⟩ : ∃ cs, cs = [old w w.heap.size] := ⟨_, rfl⟩
  have hp : Hp w cs w := by rw [hcs]; exact Hp.old_start w
  have hc2 : ∀ W, Hp w cs W → Below w.heap.size w W := fun W h => by rw [hcs] at h; exact h.since 0 _ rfl
  clear hcs
  unfold spec_tiGood.f at h
  obtain ⟨t_2, hv_1, h⟩ := Option.bind_eq_some_iff.mp h
  try dsimp only at h
  refine sx_enter (N := 13) (l := [.agg #[.int .i64 a0_0, .int .i64 a0_1]]) Tryz.func74 rfl rfl rfl ?_
  refine wp_seq ?_
  refine sx_region ?_
  refine sx_box 1 hp #[.int .i64 a0_0, .int .i64 a0_1] 55 (by rfl) (fun W => by kernel_rfl) ?_
  intro g_3 W_4 hp
  refine sx_rd 2 (.bool false) (by rfl) (by kernel_rfl) ?_
  refine sx_nil ?_
  refine ex_then_n ?_
  refine wp_seq ?_
  by_cases hc_5 : t_2 = true
  ·
    rw [if_pos hc_5] at h
    refine sx_region ?_
    refine sx_rd 3 (.pointer (some ⟨g_3, 0, none⟩)) (by rfl) (by kernel_rfl) ?_
    refine sx_rd 4 (.int .i64 a0_0) (by rfl) (ld1 (t := 3) (p := (.tmp 3)) (by rfl) (by rfl) (by kernel_rfl) (hp.cell 0 (by rfl) 0 _ (by rfl))) ?_
    refine sx_rd 5 (.pointer (some ⟨g_3, 1, none⟩)) (by rfl) (by kernel_rfl) ?_
    refine sx_rd 6 (.int .i64 a0_1) (by rfl) (ld1 (t := 3) (p := (.tmp 5)) (by rfl) (by rfl) (by kernel_rfl) (hp.cell 0 (by rfl) 1 _ (by rfl))) ?_
    refine sx_call 7 (by rfl) (by kernel_rfl) ((spec_l1In.calls a0_0 0 a0_1 _ _ hv_1).mono ?_)
    rintro _ W_6 ⟨rfl, hb⟩
    refine ⟨.bool true, congrArg (fun b => Ending.returned (.bool b)) hc_5, ?_⟩
    replace hp := hp.below hb.below
    clear hb
    refine sx_rd 8 (.bool true) (by rfl) (by kernel_rfl) ?_
    refine sx_want (by rfl) ?_
    refine sx_rd 9 (.pointer (some ⟨g_3, 1, none⟩)) (by rfl) (by kernel_rfl) ?_
    refine sx_want (by rfl) ?_
    refine sx_rd 10 (.int .i64 a0_1) (by rfl) (ld1 (t := 3) (p := (.tmp 9)) (by rfl) (by rfl) (by kernel_rfl) (hp.cell 0 (by rfl) 1 _ (by rfl))) ?_
    refine sx_want (by rfl) ?_
    refine sx_rd 11 (.bool (decide (a0_1 ≤ 9))) (by rfl) (by kernel_rfl) ?_
    refine sx_rd 12 (.bool (decide (a0_1 ≤ 9))) (by rfl) (by kernel_rfl) ?_
    refine sx_rd 2 (.bool (decide (a0_1 ≤ 9))) (by rfl) (by kernel_rfl) ?_
    refine sx_nil ?_
    refine ex_then_n ?_
    refine wp_ret ?_
    refine sx_end (.bool (decide (a0_1 ≤ 9))) (res1 2 (by rfl)) ?_
    obtain rfl := Option.some.inj h
    exact ⟨rfl, hc2 _ (hp.tail)⟩
  ·
    rw [if_neg hc_5] at h
    refine sx_region ?_
    refine sx_rd 3 (.pointer (some ⟨g_3, 0, none⟩)) (by rfl) (by kernel_rfl) ?_
    refine sx_rd 4 (.int .i64 a0_0) (by rfl) (ld1 (t := 3) (p := (.tmp 3)) (by rfl) (by rfl) (by kernel_rfl) (hp.cell 0 (by rfl) 0 _ (by rfl))) ?_
    refine sx_rd 5 (.pointer (some ⟨g_3, 1, none⟩)) (by rfl) (by kernel_rfl) ?_
    refine sx_rd 6 (.int .i64 a0_1) (by rfl) (ld1 (t := 3) (p := (.tmp 5)) (by rfl) (by rfl) (by kernel_rfl) (hp.cell 0 (by rfl) 1 _ (by rfl))) ?_
    refine sx_call 7 (by rfl) (by kernel_rfl) ((spec_l1In.calls a0_0 0 a0_1 _ _ hv_1).mono ?_)
    rintro _ W_7 ⟨rfl, hb⟩
    refine ⟨.bool false, congrArg (fun b => Ending.returned (.bool b)) (Bool.eq_false_iff.mpr hc_5), ?_⟩
    replace hp := hp.below hb.below
    clear hb
    refine sx_rd 8 (.bool false) (by rfl) (by kernel_rfl) ?_
    refine sx_skip 9 (by rfl) (by rfl) (by rfl) ?_
    refine sx_skip 10 (by rfl) (by rfl) (by rfl) ?_
    refine sx_skip 11 (by rfl) (by rfl) (by rfl) ?_
    refine sx_rd 12 (.bool false) (by rfl) (by kernel_rfl) ?_
    refine sx_rd 2 (.bool false) (by rfl) (by kernel_rfl) ?_
    refine sx_nil ?_
    refine ex_then_n ?_
    refine wp_ret ?_
    refine sx_end (.bool false) (res1 2 (by rfl)) ?_
    obtain rfl := Option.some.inj h
    exact ⟨rfl, hc2 _ (hp.tail)⟩
end
section
open Go.RowKit Go.Proofs.YtokkiiepddhkiaaGreatDoorW.PrintWords Go.Proofs.YtokkiiepddhkiaaGreatDoorW.PrintLast Go.Proofs.YtokkiiepddhkiaaGreatDoorW.PrintMore
attribute [local go_sem] max2_int min2_int max_two min_two max_three min_three max_four min_four   -- for this text's walks alone
set_option linter.unusedVariables false
set_option linter.unusedSimpArgs false

attribute [local go_sem high] eqA55
def spec_tiPlace.l0 : Nat → List (S_Tile) → Int → Int → Int → Int → Option (Int)
  | 0, _, _, _, _, _ => none
  | k + 1, x7, x8, x9, x127000, x127001 => if x9 < x8 then (if 0 ≤ x9 then (if x9 < (x7.length : Int) then (if (((rd_Tile x7 x9).f0) == x127000 && (((rd_Tile x7 x9).f1) == x127001)) = true then (some x9) else (spec_tiPlace.l0 k x7 x8 (wrap64 (x9 + 1)) x127000 x127001)) else (none)) else (none)) else (some (-1))
def spec_tiPlace.f (k : Nat) (l0 : List (S_Tile)) (a1_0 : Int) (a1_1 : Int) : Option (Int) := spec_tiPlace.l0 k l0 (l0.length : Int) 0 a1_0 a1_1
set_option maxRecDepth 100000 in
set_option maxHeartbeats 40000000 in
theorem spec_tiPlace.calls (k : Nat) (A0 : Option Addr) (c0 : Nat) (l0 : List (S_Tile)) (a1_0 : Int) (a1_1 : Int) (r : Int) (w : World) (hr0 : Kd.C k55 w A0 l0.length l0) (hc0 : l0.length ≤ c0) (h : spec_tiPlace.f k l0 a1_0 a1_1 = some r) :
    Calls Tryz.prog 75 #[.slice A0 l0.length c0, .agg #[.int .i64 a1_0, .int .i64 a1_1]] w fun e w' => e = .returned (.int .i64 r) ∧ Below w.heap.size w w' := by
  obtain ⟨cs, hcs⟩ : ∃ cs, cs = [old w w.heap.size] := ⟨_, rfl⟩
  have hp : Hp w cs w := by rw [hcs]; exact Hp.old_start w
  have hc2 : ∀ W, Hp w cs W → Below w.heap.size w W := fun W h => by rw [hcs] at h; exact h.since 0 _ rfl
  have hC0 : ∀ W, Hp w cs W → Kd.C k55 W A0 l0.length l0 := fun W h => Kd.C_below hr0 (hc2 W h)
  clear hcs
  unfold spec_tiPlace.f at h
  refine sx_enter (N := 19) (l := [.slice A0 l0.length c0, .agg #[.int .i64 a1_0, .int .i64 a1_1]]) Tryz.func75 rfl rfl rfl ?_
  refine wp_seq ?_
  refine sx_region ?_
  refine sx_box 3 hp #[.int .i64 a1_0, .int .i64 a1_1] 55 (by rfl) (fun W => by kernel_rfl) ?_
  intro g_1 W_2 hp
  refine sx_rd 4 (.int .i64 0) (by rfl) (by kernel_rfl) ?_
  refine sx_nil ?_
  refine ex_then_n ?_
  refine wp_seq ?_
  refine wp_seq ?_
  refine sx_region ?_
  refine sx_rd 7 (.slice A0 l0.length c0) (by rfl) (by kernel_rfl) ?_
  refine sx_rd 8 (.int .i64 (l0.length : Int)) (by rfl) (by kernel_rfl) ?_
  refine sx_rd 9 (.int .i64 0) (by rfl) (by kernel_rfl) ?_
  refine sx_nil ?_
  refine ex_then_n ?_
  refine wp_block ?_
  refine wp_loop_ghost (fun n_ a_ W => ∃ (r_ : List (Nat × Value)) (k_4 : Nat) (x_3 : Int)  , n_ = k_4 + 1 ∧ a_ = fr 19 ([(3, .pointer (some ⟨g_1, 0, none⟩)), (7, .slice A0 l0.length c0), (8, .int .i64 (l0.length : Int)), (9, .int .i64 x_3)] ++ r_) ∧ Hp w (blk g_1 #[.int .i64 a1_0, .int .i64 a1_1] 55 :: cs) W ∧ (spec_tiPlace.l0 k_4 l0 (l0.length : Int) x_3 a1_0 a1_1 = some r) ∧ (k_4 ≤ k)) _ ⟨_, k, 0, rfl, fr_front [(3, .pointer (some ⟨g_1, 0, none⟩)), (7, .slice A0 l0.length c0), (8, .int .i64 (l0.length : Int)), (9, .int .i64 0)] ⟨rfl, rfl, rfl, rfl, trivial⟩, (hp.take [0] 1 (by decide) (by simp)), h, (Nat.le_refl _)⟩ ?_
  rintro _ _ W_6 ⟨r_, k_4, x_3, rfl, rfl, hp, h, hk_5⟩
  rcases k_4 with _ | k_4
  · simp [spec_tiPlace.l0] at h
  simp only [spec_tiPlace.l0] at h
  refine wp_seq ?_
  refine sx_region ?_
  refine sx_rd 10 (.bool (decide (x_3 < (l0.length : Int)))) (by rfl) (by kernel_rfl) ?_
  refine sx_nil ?_
  refine ex_then_n ?_
  refine wp_seq ?_
  by_cases hc_7 : x_3 < (l0.length : Int)
  ·
    rw [if_pos hc_7] at h
    by_cases hc_8 : 0 ≤ x_3
    case neg => rw [if_neg hc_8] at h; cases h
    rw [if_pos hc_8] at h
    by_cases hc_9 : x_3 < (l0.length : Int)
    case neg => rw [if_neg hc_9] at h; cases h
    rw [if_pos hc_9] at h
    refine sx_then (decide (x_3 < (l0.length : Int))) (by rfl) (decide_eq_true hc_7) ?_
    refine wp_skip ?_
    refine ex_then_n ?_
    refine wp_seq ?_
    refine wp_block ?_
    refine wp_seq ?_
    refine sx_region ?_
    refine sx_rd 11 (.int .i64 x_3) (by rfl) (by kernel_rfl) ?_
    refine sx_rd 12 (.pointer (some (adr A0 x_3 2))) (by rfl) (ix_run (d := k55) (hC0 _ hp.tail) (t := 27) (by rfl) (by rfl) (by rfl) Tryz.underlying27 (by kernel_rfl) (by omega) (by omega)) ?_
    refine sx_rd 13 (.agg #[.int .i64 ((rd_Tile l0 x_3).f0), .int .i64 ((rd_Tile l0 x_3).f1)]) (by rfl) (el_run (d := k55) (hC0 _ hp.tail) z55 x_3 (by omega) (by omega) (cells := [.int .i64 ((rd_Tile l0 x_3).f0), .int .i64 ((rd_Tile l0 x_3).f1)]) (fun cs h => k55_open h) 0 [.int .i64 ((rd_Tile l0 x_3).f0), .int .i64 ((rd_Tile l0 x_3).f1)] (by rfl) (t := 55) (p := (.tmp 12)) (by rfl) (by rfl) (by kernel_rfl) (by kernel_rfl)) ?_
    refine sx_box 6 hp #[.int .i64 0, .int .i64 0] 55 (by rfl) (fun W => by kernel_rfl) ?_
    intro g_10 W_11 hp
    refine sx_rd 5 (.int .i64 x_3) (by rfl) (by kernel_rfl) ?_
    refine sx_store (t := 55) (p := (.tmp 6)) (x := (.tmp 13)) (by rfl) (by rfl) 0 (by rfl) 0 [.int .i64 ((rd_Tile l0 x_3).f0), .int .i64 ((rd_Tile l0 x_3).f1)] (by rfl) (by rfl) (by kernel_rfl) (by simp [Value.oneCell']) (by show 2 ≤ 2; omega) #[.int .i64 ((rd_Tile l0 x_3).f0), .int .i64 ((rd_Tile l0 x_3).f1)] (by rfl) hp ?_
    intro W_12 hp; simp only [List.set_cons_succ, List.set_cons_zero] at hp
    refine sx_nil ?_
    refine ex_then_n ?_
    refine wp_seq ?_
    refine sx_region ?_
    refine sx_rd 14 (.agg #[.int .i64 ((rd_Tile l0 x_3).f0), .int .i64 ((rd_Tile l0 x_3).f1)]) (by rfl) (ldn (t := 55) (p := (.tmp 6)) (by rfl) (by rfl) (by kernel_rfl) (by kernel_rfl) (by kernel_rfl) (hp.at_ 0 _ (by rfl))) ?_
    refine sx_rd 15 (.agg #[.int .i64 a1_0, .int .i64 a1_1]) (by rfl) (ldn (t := 55) (p := (.tmp 3)) (by rfl) (by rfl) (by kernel_rfl) (by kernel_rfl) (by kernel_rfl) (hp.at_ 1 _ (by rfl))) ?_
    refine sx_rd 16 (.bool ((rd_Tile l0 x_3).f0 == a1_0 && ((rd_Tile l0 x_3).f1 == a1_1))) (by rfl) (eqagg_run (by rfl) (by rfl) (by rfl) (fun d w => eqA55 d w _ _ _ _) (by kernel_rfl)) ?_
    refine sx_nil ?_
    refine ex_then_n ?_
    by_cases hc_13 : (((rd_Tile l0 x_3).f0) == a1_0 && (((rd_Tile l0 x_3).f1) == a1_1)) = true
    ·
      rw [if_pos hc_13] at h
      refine sx_then ((rd_Tile l0 x_3).f0 == a1_0 && ((rd_Tile l0 x_3).f1 == a1_1)) (by rfl) hc_13 ?_
      refine wp_seq ?_
      refine sx_region ?_
      refine sx_rd 17 (.int .i64 x_3) (by rfl) (by kernel_rfl) ?_
      refine sx_rd 4 (.int .i64 x_3) (by rfl) (by kernel_rfl) ?_
      refine sx_nil ?_
      refine ex_then_n ?_
      refine wp_ret ?_
      refine ex_blk_r (ex_then_r (ex_then_r (ex_blk_r (ex_then_r ?_))))
      refine sx_end (.int .i64 x_3) (res1 4 (by rfl)) ?_
      obtain rfl := Option.some.inj h
      exact ⟨rfl, hc2 _ (hp.tail.tail)⟩
    ·
      rw [if_neg hc_13] at h
      refine sx_else ((rd_Tile l0 x_3).f0 == a1_0 && ((rd_Tile l0 x_3).f1 == a1_1)) (by rfl) (Bool.eq_false_iff.mpr hc_13) ?_
      refine wp_skip ?_
      refine ex_blk_n ?_
      refine ex_then_n ?_
      refine sx_region ?_
      refine sx_rd 18 (.int .i64 (wrap64 (x_3 + 1))) (by rfl) (wr_w (by kernel_rfl)) ?_
      refine sx_rd 9 (.int .i64 (wrap64 (x_3 + 1))) (by rfl) (by kernel_rfl) ?_
      refine sx_nil ?_
      refine ex_then_n ?_
      exact ⟨_, (by omega), _, k_4, (wrap64 (x_3 + 1)), rfl, fr_front [(3, .pointer (some ⟨g_1, 0, none⟩)), (7, .slice A0 l0.length c0), (8, .int .i64 (l0.length : Int)), (9, .int .i64 (wrap64 (x_3 + 1)))] ⟨rfl, rfl, rfl, rfl, trivial⟩, (hp.take [1] 2 (by decide) (by simp)), h, (by omega)⟩
  ·
    rw [if_neg hc_7] at h
    refine sx_else (decide (x_3 < (l0.length : Int))) (by rfl) (decide_eq_false hc_7) ?_
    refine wp_exit ?_
    refine ex_then_e (ex_then_e (ex_blk_here ?_))
    refine ex_then_n ?_
    refine wp_seq ?_
    refine sx_region ?_
    refine sx_rd 4 (.int .i64 (-1)) (by rfl) (by kernel_rfl) ?_
    refine sx_nil ?_
    refine ex_then_n ?_
    refine wp_ret ?_
    refine sx_end (.int .i64 (-1)) (res1 4 (by rfl)) ?_
    obtain rfl := Option.some.inj h
    exact ⟨rfl, hc2 _ (hp.tail)⟩
end
section
open Go.RowKit Go.Proofs.YtokkiiepddhkiaaGreatDoorW.PrintWords Go.Proofs.YtokkiiepddhkiaaGreatDoorW.PrintLast Go.Proofs.YtokkiiepddhkiaaGreatDoorW.PrintMore
attribute [local go_sem] max2_int min2_int max_two min_two max_three min_three max_four min_four   -- for this text's walks alone
set_option linter.unusedVariables false
set_option linter.unusedSimpArgs false

def spec_tiHand.l0 : Nat → List (S_Tile) → List (S_Tile) → Int → Int → Option (Bool)
  | 0, _, _, _, _ => none
  | k + 1, x0, x8, x9, x10 => if x10 < x9 then (if 0 ≤ x10 then (if x10 < (x8.length : Int) then ((spec_tiGood.f ((rd_Tile x8 x10).f0) ((rd_Tile x8 x10).f1)).bind fun t131 => (if t131 = true then (if x10 ≤ (x0.length : Int) then ((spec_tiPlace.f k (x0.take (x10 : Int).toNat) ((rd_Tile x8 x10).f0) ((rd_Tile x8 x10).f1)).bind fun t136 => (if t136 ≥ 0 then (some false) else (spec_tiHand.l0 k x0 x8 x9 (wrap64 (x10 + 1))))) else (none)) else (some false))) else (none)) else (none)) else (some true)
def spec_tiHand.f (k : Nat) (l0 : List (S_Tile)) : Option (Bool) := if (l0.length : Int) > 55 then (some false) else (spec_tiHand.l0 k l0 l0 (l0.length : Int) 0)
set_option maxRecDepth 100000 in
set_option maxHeartbeats 40000000 in
theorem spec_tiHand.calls (k : Nat) (A0 : Option Addr) (c0 : Nat) (l0 : List (S_Tile)) (r : Bool) (w : World) (hr0 : Kd.C k55 w A0 l0.length l0) (hc0 : l0.length ≤ c0) (h : spec_tiHand.f k l0 = some r) :
    Calls Tryz.prog 46 #[.slice A0 l0.length c0] w fun e w' => e = .returned (.bool r) ∧ Below w.heap.size w w' := by
  obtain ⟨cs, hcs⟩ : ∃ cs, cs = [old w w.heap.size] := ⟨_, rfl⟩
  have hp : Hp w cs w := by rw [hcs]; exact Hp.old_start w
  have hc2 : ∀ W, Hp w cs W → Below w.heap.size w W := fun W h => by rw [hcs] at h; exact h.since 0 _ rfl
  have hC0 : ∀ W, Hp w cs W → Kd.C k55 W A0 l0.length l0 := fun W h => Kd.C_below hr0 (hc2 W h)
  clear hcs
  unfold spec_tiHand.f at h
  refine sx_enter (N := 27) (l := [.slice A0 l0.length c0]) Tryz.func46 rfl rfl rfl ?_
  refine wp_seq ?_
  refine sx_region ?_
  refine sx_rd 2 (.bool false) (by rfl) (by kernel_rfl) ?_
  refine sx_nil ?_
  refine ex_then_n ?_
  refine wp_seq ?_
  refine wp_seq ?_
  refine sx_region ?_
  refine sx_rd 5 (.slice A0 l0.length c0) (by rfl) (by kernel_rfl) ?_
  refine sx_rd 6 (.int .i64 (l0.length : Int)) (by rfl) (by kernel_rfl) ?_
  refine sx_rd 7 (.bool (decide ((l0.length : Int) > 55))) (by rfl) (by kernel_rfl) ?_
  refine sx_nil ?_
  refine ex_then_n ?_
  by_cases hc_1 : (l0.length : Int) > 55
  ·
    rw [if_pos hc_1] at h
    refine sx_then (decide ((l0.length : Int) > 55)) (by rfl) (decide_eq_true hc_1) ?_
    refine wp_seq ?_
    refine sx_region ?_
    refine sx_rd 2 (.bool false) (by rfl) (by kernel_rfl) ?_
    refine sx_nil ?_
    refine ex_then_n ?_
    refine wp_ret ?_
    refine ex_then_r ?_
    refine sx_end (.bool false) (res1 2 (by rfl)) ?_
    obtain rfl := Option.some.inj h
    exact ⟨rfl, hc2 _ (hp)⟩
  ·
    rw [if_neg hc_1] at h
    refine sx_else (decide ((l0.length : Int) > 55)) (by rfl) (decide_eq_false hc_1) ?_
    refine wp_skip ?_
    refine ex_then_n ?_
    refine wp_seq ?_
    refine wp_seq ?_
    refine sx_region ?_
    refine sx_rd 8 (.slice A0 l0.length c0) (by rfl) (by kernel_rfl) ?_
    refine sx_rd 9 (.int .i64 (l0.length : Int)) (by rfl) (by kernel_rfl) ?_
    refine sx_rd 10 (.int .i64 0) (by rfl) (by kernel_rfl) ?_
    refine sx_nil ?_
    refine ex_then_n ?_
    refine wp_block ?_
    refine wp_loop_ghost (fun n_ a_ W => ∃ (r_ : List (Nat × Value)) (k_3 : Nat) (x_2 : Int)  , n_ = k_3 + 1 ∧ a_ = fr 27 ([(0, .slice A0 l0.length c0), (8, .slice A0 l0.length c0), (9, .int .i64 (l0.length : Int)), (10, .int .i64 x_2)] ++ r_) ∧ Hp w (cs) W ∧ (spec_tiHand.l0 k_3 l0 l0 (l0.length : Int) x_2 = some r) ∧ (k_3 ≤ k)) _ ⟨_, k, 0, rfl, fr_front [(0, .slice A0 l0.length c0), (8, .slice A0 l0.length c0), (9, .int .i64 (l0.length : Int)), (10, .int .i64 0)] ⟨rfl, rfl, rfl, rfl, trivial⟩, (hp.take [] 0 (by decide) (by simp)), h, (Nat.le_refl _)⟩ ?_
    rintro _ _ W_5 ⟨r_, k_3, x_2, rfl, rfl, hp, h, hk_4⟩
    rcases k_3 with _ | k_3
    · simp [spec_tiHand.l0] at h
    simp only [spec_tiHand.l0] at h
    refine wp_seq ?_
    refine sx_region ?_
    refine sx_rd 11 (.bool (decide (x_2 < (l0.length : Int)))) (by rfl) (by kernel_rfl) ?_
    refine sx_nil ?_
    refine ex_then_n ?_
    refine wp_seq ?_
    by_cases hc_6 : x_2 < (l0.length : Int)
    ·
      rw [if_pos hc_6] at h
      by_cases hc_7 : 0 ≤ x_2
      case neg => rw [if_neg hc_7] at h; cases h
      rw [if_pos hc_7] at h
      by_cases hc_8 : x_2 < (l0.length : Int)
      case neg => rw [if_neg hc_8] at h; cases h
      rw [if_pos hc_8] at h
      obtain ⟨t_10, hv_9, h⟩ := Option.bind_eq_some_iff.mp h
      try dsimp only at h
      refine sx_then (decide (x_2 < (l0.length : Int))) (by rfl) (decide_eq_true hc_6) ?_
      refine wp_skip ?_
      refine ex_then_n ?_
      refine wp_seq ?_
      refine wp_block ?_
      refine wp_seq ?_
      refine sx_region ?_
      refine sx_rd 12 (.int .i64 x_2) (by rfl) (by kernel_rfl) ?_
      refine sx_rd 13 (.pointer (some (adr A0 x_2 2))) (by rfl) (ix_run (d := k55) (hC0 _ hp) (t := 27) (by rfl) (by rfl) (by rfl) Tryz.underlying27 (by kernel_rfl) (by omega) (by omega)) ?_
      refine sx_rd 14 (.agg #[.int .i64 ((rd_Tile l0 x_2).f0), .int .i64 ((rd_Tile l0 x_2).f1)]) (by rfl) (el_run (d := k55) (hC0 _ hp) z55 x_2 (by omega) (by omega) (cells := [.int .i64 ((rd_Tile l0 x_2).f0), .int .i64 ((rd_Tile l0 x_2).f1)]) (fun cs h => k55_open h) 0 [.int .i64 ((rd_Tile l0 x_2).f0), .int .i64 ((rd_Tile l0 x_2).f1)] (by rfl) (t := 55) (p := (.tmp 13)) (by rfl) (by rfl) (by kernel_rfl) (by kernel_rfl)) ?_
      refine sx_box 4 hp #[.int .i64 0, .int .i64 0] 55 (by rfl) (fun W => by kernel_rfl) ?_
      intro g_11 W_12 hp
      refine sx_rd 3 (.int .i64 x_2) (by rfl) (by kernel_rfl) ?_
      refine sx_store (t := 55) (p := (.tmp 4)) (x := (.tmp 14)) (by rfl) (by rfl) 0 (by rfl) 0 [.int .i64 ((rd_Tile l0 x_2).f0), .int .i64 ((rd_Tile l0 x_2).f1)] (by rfl) (by rfl) (by kernel_rfl) (by simp [Value.oneCell']) (by show 2 ≤ 2; omega) #[.int .i64 ((rd_Tile l0 x_2).f0), .int .i64 ((rd_Tile l0 x_2).f1)] (by rfl) hp ?_
      intro W_13 hp; simp only [List.set_cons_succ, List.set_cons_zero] at hp
      refine sx_nil ?_
      refine ex_then_n ?_
      refine wp_seq ?_
      by_cases hc_14 : t_10 = true
      ·
        rw [if_pos hc_14] at h
        by_cases hc_15 : x_2 ≤ (l0.length : Int)
        case neg => rw [if_neg hc_15] at h; cases h
        rw [if_pos hc_15] at h
        obtain ⟨t_17, hv_16, h⟩ := Option.bind_eq_some_iff.mp h
        try dsimp only at h
        refine sx_drawT [] (.rd 0 (.alt 1 (.rd 2 (.rd 3 (.rd 4 (.rd 5 (.rd 7 (.alt 6 (.alt 8 (.rd 9 (.rd 10 (.fin))) .non) .non)))))) .non)) 11 (C := Hp w (blk g_11 #[.int .i64 ((rd_Tile l0 x_2).f0), .int .i64 ((rd_Tile l0 x_2).f1)] 55 :: cs)) (by kernel_rfl) (by kernel_rfl) (fun d _ _ _ _ h => by cases d <;> exact h) (fun W h => h.drew) hp ?_
        refine preI_nil ?_
        intro W_18 hp
        refine treeI_rd rfl ?_
        refine sxq_val 15 (.agg #[.int .i64 ((rd_Tile l0 x_2).f0), .int .i64 ((rd_Tile l0 x_2).f1)]) (by rfl) (fun W hp => (ldn (t := 55) (p := (.tmp 4)) (by rfl) (by rfl) (by kernel_rfl) (by kernel_rfl) (by kernel_rfl) (hp.at_ 0 _ (by rfl)))) ?_
        refine sxq_nil ?_
        refine treeI_ev rfl ?_
        refine sx_call 16 (by rfl) (by kernel_rfl) ((spec_tiGood.calls ((rd_Tile l0 x_2).f0) ((rd_Tile l0 x_2).f1) _ _ hv_9).mono ?_)
        rintro _ W_19 ⟨rfl, hb⟩
        refine ⟨_, rfl, ?_⟩
        replace hp := hp.below hb
        clear hb
        refine step_fin hp ?_
        refine treeI_rd rfl ?_
        refine sxq_val 17 (.bool false) (by rfl) (fun W hp => (bv (show (!t_10) = false from by rw [hc_14]; rfl) (by kernel_rfl))) ?_
        refine sxq_nil ?_
        refine treeI_rd rfl ?_
        refine sxq_val 18 (.bool false) (by rfl) (fun W hp => (by kernel_rfl)) ?_
        refine sxq_nil ?_
        refine treeI_rd rfl ?_
        refine sxq_want (by rfl) ?_
        refine sxq_val 19 (.slice A0 l0.length c0) (by rfl) (fun W hp => (by kernel_rfl)) ?_
        refine sxq_nil ?_
        refine treeI_rd rfl ?_
        refine sxq_want (by rfl) ?_
        refine sxq_val 20 (.int .i64 x_2) (by rfl) (fun W hp => (by kernel_rfl)) ?_
        refine sxq_nil ?_
        refine treeI_rd rfl ?_
        refine sxq_want (by rfl) ?_
        refine sxq_val 22 (.agg #[.int .i64 ((rd_Tile l0 x_2).f0), .int .i64 ((rd_Tile l0 x_2).f1)]) (by rfl) (fun W hp => (ldn (t := 55) (p := (.tmp 4)) (by rfl) (by rfl) (by kernel_rfl) (by kernel_rfl) (by kernel_rfl) (hp.at_ 0 _ (by rfl)))) ?_
        refine sxq_nil ?_
        refine treeI_ev rfl ?_
        refine sx_want (by rfl) ?_
        have hcap_20 : l0.length ≤ c0 := hc0
        refine sx_rd 21 (.slice A0 ((l0.take (x_2).toNat).length) c0) (by rfl) (sl_hi (x_2).toNat (sz := 2) (xs := l0) (by rfl) (by rfl) (by rfl) (by omega) Tryz.underlying27 (by kernel_rfl) (by omega) hcap_20) ?_
        refine step_fin hp ?_
        refine treeI_ev rfl ?_
        refine sx_want (by rfl) ?_
        refine sx_call 23 (by rfl) (by kernel_rfl) ((spec_tiPlace.calls _ A0 c0 (l0.take (x_2).toNat) ((rd_Tile l0 x_2).f0) ((rd_Tile l0 x_2).f1) _ _ (Kd.C_take (hC0 _ hp.tail) (by omega)) (show (l0.take (x_2).toNat).length ≤ c0 by simp; omega) hv_16).mono ?_)
        rintro _ W_21 ⟨rfl, hb⟩
        refine ⟨_, rfl, ?_⟩
        replace hp := hp.below hb
        clear hb
        refine step_fin hp ?_
        refine treeI_rd rfl ?_
        refine sxq_want (by rfl) ?_
        refine sxq_val 24 (.bool (decide (t_17 ≥ 0))) (by rfl) (fun W hp => (by kernel_rfl)) ?_
        refine sxq_nil ?_
        refine treeI_rd rfl ?_
        refine sxq_val 25 (.bool (decide (t_17 ≥ 0))) (by rfl) (fun W hp => (by kernel_rfl)) ?_
        refine sxq_nil ?_
        refine treeI_fin ?_
        refine sx_nil ?_
        refine ex_then_n ?_
        by_cases hc_22 : t_17 ≥ 0
        ·
          rw [if_pos hc_22] at h
          refine sx_then (decide (t_17 ≥ 0)) (by rfl) (decide_eq_true hc_22) ?_
          refine wp_seq ?_
          refine sx_region ?_
          refine sx_rd 2 (.bool false) (by rfl) (by kernel_rfl) ?_
          refine sx_nil ?_
          refine ex_then_n ?_
          refine wp_ret ?_
          refine ex_blk_r (ex_then_r (ex_then_r (ex_blk_r (ex_then_r ?_))))
          refine sx_end (.bool false) (res1 2 (by rfl)) ?_
          obtain rfl := Option.some.inj h
          exact ⟨rfl, hc2 _ (hp.tail)⟩
        ·
          rw [if_neg hc_22] at h
          refine sx_else (decide (t_17 ≥ 0)) (by rfl) (decide_eq_false hc_22) ?_
          refine wp_skip ?_
          refine ex_blk_n ?_
          refine ex_then_n ?_
          refine sx_region ?_
          refine sx_rd 26 (.int .i64 (wrap64 (x_2 + 1))) (by rfl) (wr_w (by kernel_rfl)) ?_
          refine sx_rd 10 (.int .i64 (wrap64 (x_2 + 1))) (by rfl) (by kernel_rfl) ?_
          refine sx_nil ?_
          refine ex_then_n ?_
          exact ⟨_, (by omega), _, k_3, (wrap64 (x_2 + 1)), rfl, fr_front [(0, .slice A0 l0.length c0), (8, .slice A0 l0.length c0), (9, .int .i64 (l0.length : Int)), (10, .int .i64 (wrap64 (x_2 + 1)))] ⟨rfl, rfl, rfl, rfl, trivial⟩, (hp.take [] 1 (by decide) (by simp)), h, (by omega)⟩
      ·
        rw [if_neg hc_14] at h
        refine sx_drawT [] (.rd 0 (.alt 1 (.rd 2 (.rd 3 (.rd 4 (.rd 5 (.rd 7 (.alt 6 (.alt 8 (.rd 9 (.rd 10 (.fin))) .non) .non)))))) .non)) 11 (C := Hp w (blk g_11 #[.int .i64 ((rd_Tile l0 x_2).f0), .int .i64 ((rd_Tile l0 x_2).f1)] 55 :: cs)) (by kernel_rfl) (by kernel_rfl) (fun d _ _ _ _ h => by cases d <;> exact h) (fun W h => h.drew) hp ?_
        refine preI_nil ?_
        intro W_23 hp
        refine treeI_rd rfl ?_
        refine sxq_val 15 (.agg #[.int .i64 ((rd_Tile l0 x_2).f0), .int .i64 ((rd_Tile l0 x_2).f1)]) (by rfl) (fun W hp => (ldn (t := 55) (p := (.tmp 4)) (by rfl) (by rfl) (by kernel_rfl) (by kernel_rfl) (by kernel_rfl) (hp.at_ 0 _ (by rfl)))) ?_
        refine sxq_nil ?_
        refine treeI_ev rfl ?_
        refine sx_call 16 (by rfl) (by kernel_rfl) ((spec_tiGood.calls ((rd_Tile l0 x_2).f0) ((rd_Tile l0 x_2).f1) _ _ hv_9).mono ?_)
        rintro _ W_24 ⟨rfl, hb⟩
        refine ⟨_, rfl, ?_⟩
        replace hp := hp.below hb
        clear hb
        refine step_fin hp ?_
        refine treeI_rd rfl ?_
        refine sxq_val 17 (.bool true) (by rfl) (fun W hp => (bv (show (!t_10) = true from by rw [(Bool.eq_false_iff.mpr hc_14)]; rfl) (by kernel_rfl))) ?_
        refine sxq_nil ?_
        refine treeI_rd rfl ?_
        refine sxq_val 18 (.bool true) (by rfl) (fun W hp => (by kernel_rfl)) ?_
        refine sxq_nil ?_
        refine treeI_rd rfl ?_
        refine sxq_skip 19 (by rfl) (by rfl) (by rfl) ?_
        refine sxq_nil ?_
        refine treeI_rd rfl ?_
        refine sxq_skip 20 (by rfl) (by rfl) (by rfl) ?_
        refine sxq_nil ?_
        refine treeI_rd rfl ?_
        refine sxq_skip 22 (by rfl) (by rfl) (by rfl) ?_
        refine sxq_nil ?_
        refine treeI_ev rfl ?_
        refine sx_skip 21 (by rfl) (by rfl) (by rfl) ?_
        refine step_fin hp ?_
        refine treeI_ev rfl ?_
        refine sx_skip 23 (by rfl) (by rfl) (by rfl) ?_
        refine step_fin hp ?_
        refine treeI_rd rfl ?_
        refine sxq_skip 24 (by rfl) (by rfl) (by rfl) ?_
        refine sxq_nil ?_
        refine treeI_rd rfl ?_
        refine sxq_val 25 (.bool true) (by rfl) (fun W hp => (by kernel_rfl)) ?_
        refine sxq_nil ?_
        refine treeI_fin ?_
        refine sx_nil ?_
        refine ex_then_n ?_
        refine sx_then true (by rfl) rfl ?_
        refine wp_seq ?_
        refine sx_region ?_
        refine sx_rd 2 (.bool false) (by rfl) (by kernel_rfl) ?_
        refine sx_nil ?_
        refine ex_then_n ?_
        refine wp_ret ?_
        refine ex_blk_r (ex_then_r (ex_then_r (ex_blk_r (ex_then_r ?_))))
        refine sx_end (.bool false) (res1 2 (by rfl)) ?_
        obtain rfl := Option.some.inj h
        exact ⟨rfl, hc2 _ (hp.tail)⟩
    ·
      rw [if_neg hc_6] at h
      refine sx_else (decide (x_2 < (l0.length : Int))) (by rfl) (decide_eq_false hc_6) ?_
      refine wp_exit ?_
      refine ex_then_e (ex_then_e (ex_blk_here ?_))
      refine ex_then_n ?_
      refine wp_seq ?_
      refine sx_region ?_
      refine sx_rd 2 (.bool true) (by rfl) (by kernel_rfl) ?_
      refine sx_nil ?_
      refine ex_then_n ?_
      refine wp_ret ?_
      refine sx_end (.bool true) (res1 2 (by rfl)) ?_
      obtain rfl := Option.some.inj h
      exact ⟨rfl, hc2 _ (hp)⟩
end
section
open Go.RowKit Go.Proofs.YtokkiiepddhkiaaGreatDoorW.PrintWords Go.Proofs.YtokkiiepddhkiaaGreatDoorW.PrintLast Go.Proofs.YtokkiiepddhkiaaGreatDoorW.PrintMore
attribute [local go_sem] max2_int min2_int max_two min_two max_three min_three max_four min_four   -- for this text's walks alone
set_option linter.unusedVariables false
set_option linter.unusedSimpArgs false

def spec_tiOf.f (a0 : Int) (a1 : Int) : Option (Int × Int) := (spec_l1Least.f a0 a1).bind fun t148 => ((spec_l1Most.f a0 a1).bind fun t149 => (some (t148, t149)))
set_option maxRecDepth 100000 in
set_option maxHeartbeats 40000000 in
theorem spec_tiOf.calls (a0 : Int) (a1 : Int) (r1 : Int) (r2 : Int) (w : World) (h : spec_tiOf.f a0 a1 = some (r1, r2)) :
    Calls Tryz.prog 73 #[.int .i64 a0, .int .i64 a1] w fun e w' => e = .returned (.agg #[.int .i64 r1, .int .i64 r2]) ∧ Below w.heap.size w w' := by
  obtain ⟨cs, hcs⟩ : ∃ cs, cs = [old w w.heap.size] := ⟨_, rfl⟩
  have hp : Hp w cs w := by rw [hcs]; exact Hp.old_start w
  have hc2 : ∀ W, Hp w cs W → Below w.heap.size w W := fun W h => by rw [hcs] at h; exact h.since 0 _ rfl
  clear hcs
  unfold spec_tiOf.f at h
  obtain ⟨t_2, hv_1, h⟩ := Option.bind_eq_some_iff.mp h
  try dsimp only at h
  obtain ⟨t_4, hv_3, h⟩ := Option.bind_eq_some_iff.mp h
  try dsimp only at h
  refine sx_enter (N := 12) (l := [.int .i64 a0, .int .i64 a1]) Tryz.func73 rfl rfl rfl ?_
  refine wp_seq ?_
  refine sx_region ?_
  refine sx_box 4 hp #[.int .i64 0, .int .i64 0] 55 (by rfl) (fun W => by kernel_rfl) ?_
  intro g_5 W_6 hp
  refine sx_nil ?_
  refine ex_then_n ?_
  refine wp_seq ?_
  refine sx_region ?_
  refine sx_rd 5 (.int .i64 a0) (by rfl) (by kernel_rfl) ?_
  refine sx_rd 6 (.int .i64 a1) (by rfl) (by kernel_rfl) ?_
  refine sx_call 7 (by rfl) (by kernel_rfl) ((spec_l1Least.calls a0 a1 _ _ hv_1).mono ?_)
  rintro _ W_7 ⟨rfl, hb⟩
  refine ⟨_, rfl, ?_⟩
  replace hp := hp.below hb.below
  clear hb
  refine sx_rd 8 (.int .i64 a0) (by rfl) (by kernel_rfl) ?_
  refine sx_rd 9 (.int .i64 a1) (by rfl) (by kernel_rfl) ?_
  refine sx_call 10 (by rfl) (by kernel_rfl) ((spec_l1Most.calls a0 a1 _ _ hv_3).mono ?_)
  rintro _ W_8 ⟨rfl, hb⟩
  refine ⟨_, rfl, ?_⟩
  replace hp := hp.below hb.below
  clear hb
  refine sx_rd 11 (.agg #[.int .i64 t_2, .int .i64 t_4]) (by rfl) (by kernel_rfl) ?_
  refine sx_store (t := 55) (p := (.tmp 4)) (x := (.tmp 11)) (by rfl) (by rfl) 0 (by rfl) 0 [.int .i64 t_2, .int .i64 t_4] (by rfl) (by rfl) (by kernel_rfl) (by simp [Value.oneCell']) (by show 2 ≤ 2; omega) #[.int .i64 t_2, .int .i64 t_4] (by rfl) hp ?_
  intro W_9 hp; simp only [List.set_cons_succ, List.set_cons_zero] at hp
  refine sx_nil ?_
  refine ex_then_n ?_
  refine wp_ret ?_
  refine sx_end (.agg #[.int .i64 t_2, .int .i64 t_4]) (resc (by rfl) (by rfl) (by kernel_rfl) (by kernel_rfl) (hp.at_ 0 _ (by rfl))) ?_
  simp only [Option.some.injEq, Prod.mk.injEq] at h; obtain ⟨rfl, rfl⟩ := h
  exact ⟨rfl, hc2 _ (hp.tail)⟩
end
section
open Go.RowKit Go.Proofs.YtokkiiepddhkiaaGreatDoorW.PrintWords Go.Proofs.YtokkiiepddhkiaaGreatDoorW.PrintLast Go.Proofs.YtokkiiepddhkiaaGreatDoorW.PrintMore
attribute [local go_sem] max2_int min2_int max_two min_two max_three min_three max_four min_four   -- for this text's walks alone
set_option linter.unusedVariables false
set_option linter.unusedSimpArgs false

def laws_toTile.f (a0_0 : Int) (a0_1 : Int) : Option (Int × Int) := some (a0_0, a0_1)
set_option maxRecDepth 100000 in
set_option maxHeartbeats 40000000 in
theorem laws_toTile.calls (a0_0 : Int) (a0_1 : Int) (r1 : Int) (r2 : Int) (w : World) (h : laws_toTile.f a0_0 a0_1 = some (r1, r2)) :
    Calls Tryz.prog 25 #[.agg #[.int .i64 a0_0, .int .i64 a0_1]] w fun e w' => e = .returned (.agg #[.int .i64 r1, .int .i64 r2]) ∧ Below w.heap.size w w' := by
  obtain ⟨cs, hcs⟩ : ∃ cs, cs = [old w w.heap.size] := ⟨_, rfl⟩
  have hp : Hp w cs w := by rw [hcs]; exact Hp.old_start w
  have hc2 : ∀ W, Hp w cs W → Below w.heap.size w W := fun W h => by rw [hcs] at h; exact h.since 0 _ rfl
  clear hcs
  unfold laws_toTile.f at h
  refine sx_enter (N := 11) (l := [.agg #[.int .i64 a0_0, .int .i64 a0_1]]) Tryz.func25 rfl rfl rfl ?_
  refine wp_seq ?_
  refine sx_region ?_
  refine sx_box 1 hp #[.int .i64 a0_0, .int .i64 a0_1] 57 (by rfl) (fun W => by kernel_rfl) ?_
  intro g_1 W_2 hp
  refine sx_box 2 hp #[.int .i64 0, .int .i64 0] 55 (by rfl) (fun W => by kernel_rfl) ?_
  intro g_3 W_4 hp
  refine sx_nil ?_
  refine ex_then_n ?_
  refine wp_seq ?_
  refine sx_region ?_
  refine sx_box 3 hp #[.int .i64 0, .int .i64 0] 55 (by rfl) (fun W => by kernel_rfl) ?_
  intro g_5 W_6 hp
  refine sx_nil ?_
  refine ex_then_n ?_
  refine wp_seq ?_
  refine sx_region ?_
  refine sx_rd 4 (.pointer (some ⟨g_1, 0, none⟩)) (by rfl) (by kernel_rfl) ?_
  refine sx_rd 5 (.int .i64 a0_0) (by rfl) (ld1 (t := 3) (p := (.tmp 4)) (by rfl) (by rfl) (by kernel_rfl) (hp.cell 2 (by rfl) 0 _ (by rfl))) ?_
  refine sx_rd 6 (.pointer (some ⟨g_5, 0, none⟩)) (by rfl) (by kernel_rfl) ?_
  refine sx_store (t := 3) (p := (.tmp 6)) (x := (.tmp 5)) (by rfl) (by rfl) 0 (by rfl) 0 [.int .i64 a0_0] (by rfl) (by rfl) (by kernel_rfl) (by simp [Value.oneCell']) (by show 1 ≤ 2; omega) #[.int .i64 a0_0, .int .i64 0] (by rfl) hp ?_
  intro W_7 hp; simp only [List.set_cons_succ, List.set_cons_zero] at hp
  refine sx_nil ?_
  refine ex_then_n ?_
  refine wp_seq ?_
  refine sx_region ?_
  refine sx_rd 7 (.pointer (some ⟨g_1, 1, none⟩)) (by rfl) (by kernel_rfl) ?_
  refine sx_rd 8 (.int .i64 a0_1) (by rfl) (ld1 (t := 3) (p := (.tmp 7)) (by rfl) (by rfl) (by kernel_rfl) (hp.cell 2 (by rfl) 1 _ (by rfl))) ?_
  refine sx_rd 9 (.pointer (some ⟨g_5, 1, none⟩)) (by rfl) (by kernel_rfl) ?_
  refine sx_store (t := 3) (p := (.tmp 9)) (x := (.tmp 8)) (by rfl) (by rfl) 0 (by rfl) 1 [.int .i64 a0_1] (by rfl) (by rfl) (by kernel_rfl) (by simp [Value.oneCell']) (by show 2 ≤ 2; omega) #[.int .i64 a0_0, .int .i64 a0_1] (by rfl) hp ?_
  intro W_8 hp; simp only [List.set_cons_succ, List.set_cons_zero] at hp
  refine sx_nil ?_
  refine ex_then_n ?_
  refine wp_seq ?_
  refine sx_region ?_
  refine sx_rd 10 (.agg #[.int .i64 a0_0, .int .i64 a0_1]) (by rfl) (ldn (t := 55) (p := (.tmp 3)) (by rfl) (by rfl) (by kernel_rfl) (by kernel_rfl) (by kernel_rfl) (hp.at_ 0 _ (by rfl))) ?_
  refine sx_store (t := 55) (p := (.tmp 2)) (x := (.tmp 10)) (by rfl) (by rfl) 1 (by rfl) 0 [.int .i64 a0_0, .int .i64 a0_1] (by rfl) (by rfl) (by kernel_rfl) (by simp [Value.oneCell']) (by show 2 ≤ 2; omega) #[.int .i64 a0_0, .int .i64 a0_1] (by rfl) hp ?_
  intro W_9 hp; simp only [List.set_cons_succ, List.set_cons_zero] at hp
  refine sx_nil ?_
  refine ex_then_n ?_
  refine wp_ret ?_
  refine sx_end (.agg #[.int .i64 a0_0, .int .i64 a0_1]) (resc (by rfl) (by rfl) (by kernel_rfl) (by kernel_rfl) (hp.at_ 1 _ (by rfl))) ?_
  simp only [Option.some.injEq, Prod.mk.injEq] at h; obtain ⟨rfl, rfl⟩ := h
  exact ⟨rfl, hc2 _ (hp.tail.tail.tail)⟩
end
section
open Go.RowKit Go.Proofs.YtokkiiepddhkiaaGreatDoorW.PrintWords Go.Proofs.YtokkiiepddhkiaaGreatDoorW.PrintLast Go.Proofs.YtokkiiepddhkiaaGreatDoorW.PrintMore
attribute [local go_sem] max2_int min2_int max_two min_two max_three min_three max_four min_four   -- for this text's walks alone
set_option linter.unusedVariables false
set_option linter.unusedSimpArgs false

def laws_toTileS.l0 : Nat → List (S_LTile) → List (S_Tile) → Int → Option ((List (S_Tile)))
  | 0, _, _, _ => none
  | k + 1, x0, x3, x4 => if x4 < (x0.length : Int) then (if 0 ≤ x4 then ((laws_toTile.f ((rd_LTile x0 x4).f0) ((rd_LTile x0 x4).f1)).bind fun bt167 => (if x4 < (x3.length : Int) then (laws_toTileS.l0 k x0 (x3.set (x4 : Int).toNat (⟨bt167.1, bt167.2⟩ : S_Tile)) (wrap64 (x4 + 1))) else (none))) else (none)) else (some x3)
def laws_toTileS.f (k : Nat) (l0 : List (S_LTile)) : Option ((List (S_Tile))) := if 0 ≤ (l0.length : Int) then (if ((l0.length : Int) : Int).toNat ≤ 17592186044416 then (laws_toTileS.l0 k l0 (List.replicate ((l0.length : Int) : Int).toNat z55) 0) else (none)) else (none)
set_option maxHeartbeats 8000000 in
set_option maxRecDepth 100000 in
theorem laws_toTileS.calls (k : Nat) (A0 : Option Addr) (c0 : Nat) (l0 : List (S_LTile)) (r : List (S_Tile)) (w : World) (hr0 : Kd.C k57 w A0 l0.length l0) (hc0 : l0.length ≤ c0) (h : laws_toTileS.f k l0 = some r) :
    Calls Tryz.prog 8 #[.slice A0 l0.length c0] w fun e w' => ∃ v0_ : Value, e = .returned (v0_) ∧ Kd.R k55 55 w' w.heap.size (fun _ => True) v0_ r ∧ Below w.heap.size w w' := by
  have hu57 := Tryz.underlying57
  have hu55 := Tryz.underlying55
  have HR0 := Aside0.mk hr0
  have HC0 := Aside0.mk hc0
  clear hr0 hc0
  have HB := Aside0.mk (Below.refl w.heap.size w)
  have H : (if 0 ≤ (l0.length : Int) then (if ((l0.length : Int) : Int).toNat ≤ 17592186044416 then (laws_toTileS.l0 k l0 (List.replicate ((l0.length : Int) : Int).toNat z55) 0) else (none)) else (none)) = some r := h
  clear h
  by_cases c2 : 0 ≤ (l0.length : Int)
  · rw [if_pos c2] at H
    have c2b0 := eq_true c2
    have c2b1 : decide (0 ≤ (l0.length : Int)) = true := decide_eq_true c2
    clear c2
    by_cases c3 : ((l0.length : Int) : Int).toNat ≤ 17592186044416
    · rw [if_pos c3] at H
      have c3b0 := eq_true c3
      have c3b1 : decide (((l0.length : Int) : Int).toNat ≤ 17592186044416) = true := decide_eq_true c3
      clear c3
      obtain ⟨y163, hy163⟩ : ∃ y_ : List (S_Tile), y_ = (List.replicate ((l0.length : Int) : Int).toNat z55) := ⟨_, rfl⟩
      replace H : (laws_toTileS.l0 k l0 y163 0) = some r := by first | (rw [hy163]; with_reducible exact H) | (have H2_ := (Option.bind_some _ _).symm.trans H; rw [hy163]; with_reducible exact H2_) | (have H2_ := (Option.bind_some _ _).symm.trans H; with_reducible exact H2_) | with_reducible exact H | (rw [hy163]; exact H) | exact H
      have Ny163 := Aside0.mk hy163
      clear hy163
      have H' := Aside0.mk H
      clear H
      go_enter Tryz.func8, Tryz.ntmps8
      go_wp2_with (first | ((with_reducible refine gate_dst (N := 7) rfl ?_); refine Kd.R_make k55 _ 55 rfl (N := 7) rfl 27 _ _ rfl (l0.length : Int) rfl rfl Tryz.underlying27 (.agg #[(.int .i64 0), (.int .i64 0)]) 16 info55 rfl (by decide) (by omega) z55 (ok := fun _ => True) (okp := fun _ => True) (k55_mkM _ _ _ z55 ) (fun _ hk => hk) trivial (of_decide_eq_true (by first | (with_reducible assumption) | assumption)) (Nat.le_trans (Nat.mul_le_mul_right _ (of_decide_eq_true (by first | (with_reducible assumption) | assumption) : (l0.length : Int).toNat ≤ 17592186044416)) (by omega)) (Below.refl _ _) (Nat.le_refl _) ?_; intro v164 w4 ho5 hb hg_ hnew_; clear hg_ hnew_; (first | rw [← Ny163.out] at ho5 | (simp only [Int.reduceToNat] at ho5; rw [← Ny163.out] at ho5)); have n0_ := Aside0.mk (Kd.R_lower ho5 (below_size (by repeat (first | (with_reducible first | exact HB.out | apply below_alloc | apply pw_below_drewN | apply below_drew1) | exact HB.out)))); have n1_ := Aside0.mk (below_step (by repeat (first | (with_reducible first | exact HB.out | apply below_alloc | apply pw_below_drewN | apply below_drew1) | exact HB.out)) hb); clear HB; have HO165 := n0_; have HB := n1_; clear n0_ n1_; clear hb ho5))
      go_loopg [4] k (fun kq v4 w' => ∃ (x3_1 : List (S_Tile)) (x4_1 : Int), v4 = .int .i64 x4_1 ∧ Aside0 (laws_toTileS.l0 kq l0 x3_1 x4_1 = some r) ∧ Aside0 (kq ≤ k) ∧ Aside0 (Kd.R k55 55 w' w.heap.size (fun _ => True) v164 x3_1) ∧ Aside0 (Below w.heap.size w w'))
      case atStart => exact ⟨(y163), (0), (by first | rfl | (simp; done) | (simp [*]; done)), H', ⟨Nat.le_refl _⟩, ⟨by (with_reducible repeat (first | apply Kd.R_alloc | apply Kd.R_drewN | apply Kd.R_drew)); exact HO165.out⟩, ⟨by repeat (first | (with_reducible first | exact HB.out | apply below_alloc | apply pw_below_drewN | apply below_drew1) | exact HB.out)⟩⟩
      case round =>
        clear H'
        try clear c2
        try clear c2b0
        try clear c2b1
        try clear p2
        try clear c3
        try clear c3b0
        try clear c3b1
        obtain ⟨x3_1, x4_1, rfl, HA, HK1, HO_3, HB⟩ := hrel
        cases gk with
        | zero => exact absurd HA.out (by simp [laws_toTileS.l0])
        | succ k1 =>
          have H := HA.out
          clear HA
          simp only [laws_toTileS.l0] at H
          by_cases c6 : x4_1 < (l0.length : Int)
          · rw [if_pos c6] at H
            have c6b0 : decide (x4_1 < (l0.length : Int)) = true := decide_eq_true c6
            clear c6
            by_cases c7 : 0 ≤ x4_1
            · rw [if_pos c7] at H
              have c7b0 : decide (0 ≤ x4_1) = true := decide_eq_true c7
              clear c7
              replace H := Option.bind_eq_some_iff.mp H
              obtain ⟨⟨t167, t168⟩, A80, H⟩ := H
              replace H : (if x4_1 < (x3_1.length : Int) then (laws_toTileS.l0 k1 l0 (x3_1.set (x4_1 : Int).toNat (⟨t167, t168⟩ : S_Tile)) (wrap64 (x4_1 + 1))) else (none)) = some r := H
              have A8 := Aside0.mk A80
              clear A80
              by_cases c9 : x4_1 < (x3_1.length : Int)
              · rw [if_pos c9] at H
                have c9b0 : decide (x4_1 < (x3_1.length : Int)) = true := decide_eq_true c9
                clear c9
                obtain ⟨y169, hy169⟩ : ∃ y_ : List (S_Tile), y_ = (x3_1.set (x4_1 : Int).toNat (⟨t167, t168⟩ : S_Tile)) := ⟨_, rfl⟩
                replace H : (laws_toTileS.l0 k1 l0 y169 (wrap64 (x4_1 + 1))) = some r := by first | (rw [hy169]; with_reducible exact H) | (have H2_ := (Option.bind_some _ _).symm.trans H; rw [hy169]; with_reducible exact H2_) | (have H2_ := (Option.bind_some _ _).symm.trans H; with_reducible exact H2_) | with_reducible exact H | (rw [hy169]; exact H) | exact H
                have Ny169 := Aside0.mk hy169
                clear hy169
                have H' := Aside0.mk H
                clear H
                have p166 : 0 ≤ (x4_1 : Int) := of_decide_eq_true (by first | (with_reducible assumption) | assumption)
                have q166 : x4_1 < (l0.length : Int) := of_decide_eq_true (by first | (with_reducible assumption) | assumption)
                obtain ⟨ad166, e166, hx166_0, hx166_1⟩ := at_T57 HR0.out x4_1 p166 q166
                cases e166
                replace hx166_0 := (HB.out.cell (World.block_lt_of_cell? w _ hx166_0)).trans hx166_0
                replace hx166_1 := (HB.out.cell (World.block_lt_of_cell? w _ hx166_1)).trans hx166_1
                replace p166 := eq_true p166
                replace q166 := eq_true q166
                go_wp2_with (first | ((with_reducible refine gate_callee (f := 25) rfl ?_); refine goesL_ (some 20) rfl rfl Tryz.func25 (by kernel_rfl) rfl #[.agg #[.int .i64 ((rd_LTile l0 x4_1).f0), .int .i64 ((rd_LTile l0 x4_1).f1)]] rfl (by (try simp only [List.map_toArray, List.map_cons, List.map_nil]); first | done | rfl | (simp only [List.length_drop, List.length_take]; rfl)) ?_; (with_reducible refine (laws_toTile.calls ((rd_LTile l0 x4_1).f0) ((rd_LTile l0 x4_1).f1) t167 t168 _ A8.out).mono ?_); rintro e w11 ⟨rfl, hb⟩; refine ⟨_, rfl, ?_⟩; have n0_ := Aside0.mk (Kd.R_below (by (with_reducible repeat (first | apply Kd.R_alloc | apply Kd.R_drewN | apply Kd.R_drew)); exact HO_3.out) hb); have n1_ := Aside0.mk (below_step (by repeat (first | (with_reducible first | exact HB.out | apply below_alloc | apply pw_below_drewN | apply below_drew1) | exact HB.out)) hb); clear HO_3; clear HB; have HO_3 := n0_; have HB := n1_; clear n0_ n1_; (try clear hb); (try clear hb2); (try clear hk); (try clear hi); have p10 : 0 ≤ (x4_1 : Int) := of_decide_eq_true (by first | (with_reducible assumption) | assumption); have q10 : (x4_1 : Int) < ((x3_1.length : Int) : Int) := of_decide_eq_true (by first | (with_reducible assumption) | assumption); obtain ⟨go10, co10, eo10, gb10, gl10, cl10, HG10⟩ := Kd.R_form HO_3.out (by omega); (first | cases eo10 | (injection eo10 with ea_ en_ ec_; (first | subst ea_ | (injection ea_ with ea_; subst ea_)); subst ec_; clear en_)); have GB10 := Aside0.mk gb10; have GG10 := Aside0.mk HG10; clear gb10 gl10 HG10; obtain ⟨ce10, hcl10, hM10, hcc10, hfr10⟩ := Kd.R_elem HO_3.out z55 (x4_1 : Int) p10 q10; obtain rfl := k55_openM hM10; have hx10_0 : w11.cell? ⟨go10, (x4_1 : Int).toNat * 2, none⟩ = some (.int .i64 ((rd_Tile x3_1 x4_1).f0)) := hcc10 0 _ rfl; have hx10_1 : w11.cell? ⟨go10, (x4_1 : Int).toNat * 2 + 1, none⟩ = some (.int .i64 ((rd_Tile x3_1 x4_1).f1)) := hcc10 1 _ rfl; have hf10_0 : w11.frozen? ⟨go10, (x4_1 : Int).toNat * 2, none⟩ = false := hfr10 0; have hf10_1 : w11.frozen? ⟨go10, (x4_1 : Int).toNat * 2 + 1, none⟩ = false := hfr10 1; clear hcl10 hcc10 hfr10 hM10; replace p10 := eq_true p10; replace q10 := eq_true q10; have HX12 := Aside0.mk (show Kd.R k55 55 w11 w.heap.size (fun _ => True) (.slice (some ⟨go10, 0, none⟩) x3_1.length co10) x3_1 from (by (with_reducible repeat (first | apply Kd.R_alloc | apply Kd.R_drewN | apply Kd.R_drew)); exact HO_3.out)); obtain ⟨ce12, hcl12, hM12, hcc12, hfr12⟩ := Kd.R_elem HX12.out z55 (x4_1 : Int) (of_decide_eq_true (by first | (with_reducible assumption) | assumption)) (by have h_ : (x4_1 : Int) < ((x3_1.length : Int) : Int) := of_decide_eq_true (by first | (with_reducible assumption) | assumption); first | exact h_ | (have e_ := (Kd.R_reads' HO_3.out).1; omega) | simpa using h_); obtain rfl := k55_openM hM12; have HP12 := Kd.R_seg HX12.out (x4_1 : Int) (of_decide_eq_true (by first | (with_reducible assumption) | assumption)) (by have h_ : (x4_1 : Int) < ((x3_1.length : Int) : Int) := of_decide_eq_true (by first | (with_reducible assumption) | assumption); first | exact h_ | (have e_ := (Kd.R_reads' HO_3.out).1; omega) | simpa using h_) (seg := [.int .i64 t167, .int .i64 t168]) (j := 0) hcl12 hcc12 (show 2 ≤ 2 from by decide) (x' := (⟨t167, t168⟩ : S_Tile)) (k55_mkM _ _ _ (⟨t167, t168⟩ : S_Tile) ) (fun _ hk => hk); have hx12_0 := hcc12 0 _ rfl; (try simp only [show (k55).sz = 2 from rfl, Nat.mul_one, Nat.add_zero] at hx12_0); have hf12_0 := hfr12 0; (try simp only [show (k55).sz = 2 from rfl, Nat.mul_one, Nat.add_zero] at hf12_0); have hx12_1 := hcc12 1 _ rfl; (try simp only [show (k55).sz = 2 from rfl, Nat.mul_one, Nat.add_zero] at hx12_1); have hf12_1 := hfr12 1; (try simp only [show (k55).sz = 2 from rfl, Nat.mul_one, Nat.add_zero] at hf12_1); clear hcl12 hcc12 hfr12 hM12) | ((with_reducible refine gate_store (t := 55) (p := 21) rfl ?_); refine store_event (t := 55) (p := 21) (v := ?vo_w13) (w1 := ((w11.setCell ⟨go10, (x4_1 : Int).toNat * 2, none⟩ (.int .i64 t167)).setCell ⟨go10, (x4_1 : Int).toNat * 2 + 1, none⟩ (.int .i64 t168))) ?hg ?ho ?hn ?hr ?_; (case ho => rfl); (case hg => rfl); (case hn => rfl); (case hr => first | (go_simp; done) | (go_simp; rfl)); intro w13 hw; have hg : w11.grownBy w13 (some go10) := (by rw [hw]; exact HP12.2); have hp_ : Kd.R k55 55 w13 w.heap.size (fun _ => True) (.slice (some ⟨go10, 0, none⟩) x3_1.length co10) y169 := (by rw [hw, Ny169.out]; exact HP12.1); clear HP12; have n0_ := Aside0.mk (hp_); have n1_ := Aside0.mk ((by rw [hw]; exact below_set (below_set (HB.out) GB10.out) GB10.out : Below w.heap.size w w13)); clear HO_3; clear HB; have HO_3 := n0_; have HB := n1_; clear n0_ n1_; clear hg hw hp_))
                go_roundg k1
                case measure => have := HK1.out; omega
                case rel => exact ⟨(y169), (wrap64 (x4_1 + 1)), (by first | rfl | (simp; done) | (simp [*]; done)), H', ⟨by have := HK1.out; omega⟩, ⟨by (with_reducible repeat (first | apply Kd.R_alloc | apply Kd.R_drewN | apply Kd.R_drew)); exact HO_3.out⟩, ⟨by repeat (first | (with_reducible first | exact HB.out | apply below_alloc | apply pw_below_drewN | apply below_drew1) | exact HB.out)⟩⟩
              · rw [if_neg c9] at H
                exact absurd H (by simp)
            · rw [if_neg c7] at H
              exact absurd H (by simp)
          · rw [if_neg c6] at H
            have c6b0 : decide (x4_1 < (l0.length : Int)) = false := decide_eq_false c6
            clear c6
            obtain rfl := Option.some.inj H
            go_wp2
            go_ret
            exact ⟨_, by first | rfl | (simp [errW_none, errW_some] <;> rfl) | (simp [*, errW_none, errW_some] <;> rfl), by (with_reducible repeat (first | apply Kd.R_alloc | apply Kd.R_drewN | apply Kd.R_drew)); exact HO_3.out, by repeat (first | (with_reducible first | exact HB.out | apply below_alloc | apply pw_below_drewN | apply below_drew1) | exact HB.out)⟩
    · rw [if_neg c3] at H
      exact absurd H (by simp)
  · rw [if_neg c2] at H
    exact absurd H (by simp)

end
section
open Go.RowKit Go.Proofs.YtokkiiepddhkiaaGreatDoorW.PrintWords Go.Proofs.YtokkiiepddhkiaaGreatDoorW.PrintLast Go.Proofs.YtokkiiepddhkiaaGreatDoorW.PrintMore
attribute [local go_sem] max2_int min2_int max_two min_two max_three min_three max_four min_four   -- for this text's walks alone
set_option linter.unusedVariables false
set_option linter.unusedSimpArgs false

attribute [local go_sem high] eqA55
def slices_Index_impl_Tile_impl_Tile.l0 : Nat → List (S_Tile) → Int → Int → Int → Int → Option (Int)
  | 0, _, _, _, _, _ => none
  | k + 1, x0, x7, x8, x188000, x188001 => if x8 < x7 then (if 0 ≤ x8 then (if x8 < (x0.length : Int) then (if (x188000 == ((rd_Tile x0 x8).f0) && (x188001 == ((rd_Tile x0 x8).f1))) = true then (some x8) else (slices_Index_impl_Tile_impl_Tile.l0 k x0 x7 (wrap64 (x8 + 1)) x188000 x188001)) else (none)) else (none)) else (some (-1))
def slices_Index_impl_Tile_impl_Tile.f (k : Nat) (l0 : List (S_Tile)) (a1_0 : Int) (a1_1 : Int) : Option (Int) := slices_Index_impl_Tile_impl_Tile.l0 k l0 (l0.length : Int) 0 a1_0 a1_1
set_option maxRecDepth 100000 in
set_option maxHeartbeats 40000000 in
theorem slices_Index_impl_Tile_impl_Tile.calls (k : Nat) (A0 : Option Addr) (c0 : Nat) (l0 : List (S_Tile)) (a1_0 : Int) (a1_1 : Int) (r : Int) (w : World) (hr0 : Kd.C k55 w A0 l0.length l0) (hc0 : l0.length ≤ c0) (h : slices_Index_impl_Tile_impl_Tile.f k l0 a1_0 a1_1 = some r) :
    Calls Tryz.prog 148 #[.slice A0 l0.length c0, .agg #[.int .i64 a1_0, .int .i64 a1_1]] w fun e w' => e = .returned (.int .i64 r) ∧ Below w.heap.size w w' := by
  obtain ⟨cs, hcs⟩ : ∃ cs, cs = [old w w.heap.size] := ⟨_, rfl⟩
  have hp : Hp w cs w := by rw [hcs]; exact Hp.old_start w
  have hc2 : ∀ W, Hp w cs W → Below w.heap.size w W := fun W h => by rw [hcs] at h; exact h.since 0 _ rfl
  have hC0 : ∀ W, Hp w cs W → Kd.C k55 W A0 l0.length l0 := fun W h => Kd.C_below hr0 (hc2 W h)
  clear hcs
  unfold slices_Index_impl_Tile_impl_Tile.f at h
  refine sx_enter (N := 19) (l := [.slice A0 l0.length c0, .agg #[.int .i64 a1_0, .int .i64 a1_1]]) Tryz.func148 rfl rfl rfl ?_
  refine wp_seq ?_
  refine sx_region ?_
  refine sx_box 3 hp #[.int .i64 a1_0, .int .i64 a1_1] 55 (by rfl) (fun W => by kernel_rfl) ?_
  intro g_1 W_2 hp
  refine sx_rd 4 (.int .i64 0) (by rfl) (by kernel_rfl) ?_
  refine sx_nil ?_
  refine ex_then_n ?_
  refine wp_seq ?_
  refine wp_seq ?_
  refine sx_region ?_
  refine sx_rd 6 (.slice A0 l0.length c0) (by rfl) (by kernel_rfl) ?_
  refine sx_rd 7 (.int .i64 (l0.length : Int)) (by rfl) (by kernel_rfl) ?_
  refine sx_rd 8 (.int .i64 0) (by rfl) (by kernel_rfl) ?_
  refine sx_nil ?_
  refine ex_then_n ?_
  refine wp_block ?_
  refine wp_loop_ghost (fun n_ a_ W => ∃ (r_ : List (Nat × Value)) (k_4 : Nat) (x_3 : Int)  , n_ = k_4 + 1 ∧ a_ = fr 19 ([(0, .slice A0 l0.length c0), (3, .pointer (some ⟨g_1, 0, none⟩)), (7, .int .i64 (l0.length : Int)), (8, .int .i64 x_3)] ++ r_) ∧ Hp w (blk g_1 #[.int .i64 a1_0, .int .i64 a1_1] 55 :: cs) W ∧ (slices_Index_impl_Tile_impl_Tile.l0 k_4 l0 (l0.length : Int) x_3 a1_0 a1_1 = some r) ∧ (k_4 ≤ k)) _ ⟨_, k, 0, rfl, fr_front [(0, .slice A0 l0.length c0), (3, .pointer (some ⟨g_1, 0, none⟩)), (7, .int .i64 (l0.length : Int)), (8, .int .i64 0)] ⟨rfl, rfl, rfl, rfl, trivial⟩, (hp.take [0] 1 (by decide) (by simp)), h, (Nat.le_refl _)⟩ ?_
  rintro _ _ W_6 ⟨r_, k_4, x_3, rfl, rfl, hp, h, hk_5⟩
  rcases k_4 with _ | k_4
  · simp [slices_Index_impl_Tile_impl_Tile.l0] at h
  simp only [slices_Index_impl_Tile_impl_Tile.l0] at h
  refine wp_seq ?_
  refine sx_region ?_
  refine sx_rd 9 (.bool (decide (x_3 < (l0.length : Int)))) (by rfl) (by kernel_rfl) ?_
  refine sx_nil ?_
  refine ex_then_n ?_
  refine wp_seq ?_
  by_cases hc_7 : x_3 < (l0.length : Int)
  ·
    rw [if_pos hc_7] at h
    by_cases hc_8 : 0 ≤ x_3
    case neg => rw [if_neg hc_8] at h; cases h
    rw [if_pos hc_8] at h
    by_cases hc_9 : x_3 < (l0.length : Int)
    case neg => rw [if_neg hc_9] at h; cases h
    rw [if_pos hc_9] at h
    refine sx_then (decide (x_3 < (l0.length : Int))) (by rfl) (decide_eq_true hc_7) ?_
    refine wp_skip ?_
    refine ex_then_n ?_
    refine wp_seq ?_
    refine wp_block ?_
    refine wp_seq ?_
    refine sx_region ?_
    refine sx_rd 10 (.int .i64 x_3) (by rfl) (by kernel_rfl) ?_
    refine sx_rd 5 (.int .i64 x_3) (by rfl) (by kernel_rfl) ?_
    refine sx_nil ?_
    refine ex_then_n ?_
    refine wp_seq ?_
    refine sx_drawT [1, 2] (.rd 0 (.rd 3 (.rd 4 (.rd 5 (.fin))))) 6 (C := Hp w (blk g_1 #[.int .i64 a1_0, .int .i64 a1_1] 55 :: cs)) (by kernel_rfl) (by kernel_rfl) (fun d _ _ _ _ h => by cases d <;> exact h) (fun W h => h.drew) hp ?_
    refine preI_read rfl ?_
    refine sxq_val 12 (.slice A0 l0.length c0) (by rfl) (fun W _ => (by kernel_rfl)) ?_
    refine sxq_nil ?_
    refine preI_read rfl ?_
    refine sxq_val 13 (.int .i64 x_3) (by rfl) (fun W _ => (by kernel_rfl)) ?_
    refine sxq_nil ?_
    refine preI_nil ?_
    intro W_10 hp
    refine treeI_rd rfl ?_
    refine sxq_val 11 (.agg #[.int .i64 a1_0, .int .i64 a1_1]) (by rfl) (fun W hp => (ldn (t := 55) (p := (.tmp 3)) (by rfl) (by rfl) (by kernel_rfl) (by kernel_rfl) (by kernel_rfl) (hp.at_ 0 _ (by rfl)))) ?_
    refine sxq_nil ?_
    refine treeI_rd rfl ?_
    refine sxq_val 14 (.pointer (some (adr A0 x_3 2))) (by rfl) (fun W hp => (ix_run (d := k55) (hC0 _ hp.tail) (t := 27) (by rfl) (by rfl) (by rfl) Tryz.underlying27 (by kernel_rfl) (by omega) (by omega))) ?_
    refine sxq_nil ?_
    refine treeI_rd rfl ?_
    refine sxq_val 15 (.agg #[.int .i64 ((rd_Tile l0 x_3).f0), .int .i64 ((rd_Tile l0 x_3).f1)]) (by rfl) (fun W hp => (el_run (d := k55) (hC0 _ hp.tail) z55 x_3 (by omega) (by omega) (cells := [.int .i64 ((rd_Tile l0 x_3).f0), .int .i64 ((rd_Tile l0 x_3).f1)]) (fun cs h => k55_open h) 0 [.int .i64 ((rd_Tile l0 x_3).f0), .int .i64 ((rd_Tile l0 x_3).f1)] (by rfl) (t := 55) (p := (.tmp 14)) (by rfl) (by rfl) (by kernel_rfl) (by kernel_rfl))) ?_
    refine sxq_nil ?_
    refine treeI_rd rfl ?_
    refine sxq_val 16 (.bool (a1_0 == (rd_Tile l0 x_3).f0 && (a1_1 == (rd_Tile l0 x_3).f1))) (by rfl) (fun W hp => (eqagg_run (by rfl) (by rfl) (by rfl) (fun d w => eqA55 d w _ _ _ _) (by kernel_rfl))) ?_
    refine sxq_nil ?_
    refine treeI_fin ?_
    refine sx_nil ?_
    refine ex_then_n ?_
    by_cases hc_11 : (a1_0 == ((rd_Tile l0 x_3).f0) && (a1_1 == ((rd_Tile l0 x_3).f1))) = true
    ·
      rw [if_pos hc_11] at h
      refine sx_then (a1_0 == (rd_Tile l0 x_3).f0 && (a1_1 == (rd_Tile l0 x_3).f1)) (by rfl) hc_11 ?_
      refine wp_seq ?_
      refine sx_region ?_
      refine sx_rd 17 (.int .i64 x_3) (by rfl) (by kernel_rfl) ?_
      refine sx_rd 4 (.int .i64 x_3) (by rfl) (by kernel_rfl) ?_
      refine sx_nil ?_
      refine ex_then_n ?_
      refine wp_ret ?_
      refine ex_blk_r (ex_then_r (ex_then_r (ex_blk_r (ex_then_r ?_))))
      refine sx_end (.int .i64 x_3) (res1 4 (by rfl)) ?_
      obtain rfl := Option.some.inj h
      exact ⟨rfl, hc2 _ (hp.tail)⟩
    ·
      rw [if_neg hc_11] at h
      refine sx_else (a1_0 == (rd_Tile l0 x_3).f0 && (a1_1 == (rd_Tile l0 x_3).f1)) (by rfl) (Bool.eq_false_iff.mpr hc_11) ?_
      refine wp_skip ?_
      refine ex_blk_n ?_
      refine ex_then_n ?_
      refine sx_region ?_
      refine sx_rd 18 (.int .i64 (wrap64 (x_3 + 1))) (by rfl) (wr_w (by kernel_rfl)) ?_
      refine sx_rd 8 (.int .i64 (wrap64 (x_3 + 1))) (by rfl) (by kernel_rfl) ?_
      refine sx_nil ?_
      refine ex_then_n ?_
      exact ⟨_, (by omega), _, k_4, (wrap64 (x_3 + 1)), rfl, fr_front [(0, .slice A0 l0.length c0), (3, .pointer (some ⟨g_1, 0, none⟩)), (7, .int .i64 (l0.length : Int)), (8, .int .i64 (wrap64 (x_3 + 1)))] ⟨rfl, rfl, rfl, rfl, trivial⟩, (hp.take [0] 1 (by decide) (by simp)), h, (by omega)⟩
  ·
    rw [if_neg hc_7] at h
    refine sx_else (decide (x_3 < (l0.length : Int))) (by rfl) (decide_eq_false hc_7) ?_
    refine wp_exit ?_
    refine ex_then_e (ex_then_e (ex_blk_here ?_))
    refine ex_then_n ?_
    refine wp_seq ?_
    refine sx_region ?_
    refine sx_rd 4 (.int .i64 (-1)) (by rfl) (by kernel_rfl) ?_
    refine sx_nil ?_
    refine ex_then_n ?_
    refine wp_ret ?_
    refine sx_end (.int .i64 (-1)) (res1 4 (by rfl)) ?_
    obtain rfl := Option.some.inj h
    exact ⟨rfl, hc2 _ (hp.tail)⟩
end
section
open Go.RowKit Go.Proofs.YtokkiiepddhkiaaGreatDoorW.PrintWords Go.Proofs.YtokkiiepddhkiaaGreatDoorW.PrintLast Go.Proofs.YtokkiiepddhkiaaGreatDoorW.PrintMore
attribute [local go_sem] max2_int min2_int max_two min_two max_three min_three max_four min_four   -- for this text's walks alone
set_option linter.unusedVariables false
set_option linter.unusedSimpArgs false

def slices_Contains_impl_Tile_impl_Tile.f (k : Nat) (l0 : List (S_Tile)) (a1_0 : Int) (a1_1 : Int) : Option (Bool) := (slices_Index_impl_Tile_impl_Tile.f k l0 a1_0 a1_1).bind fun t190 => (some (decide (t190 ≥ 0)))
set_option maxRecDepth 100000 in
set_option maxHeartbeats 40000000 in
theorem slices_Contains_impl_Tile_impl_Tile.calls (k : Nat) (A0 : Option Addr) (c0 : Nat) (l0 : List (S_Tile)) (a1_0 : Int) (a1_1 : Int) (r : Bool) (w : World) (hr0 : Kd.C k55 w A0 l0.length l0) (hc0 : l0.length ≤ c0) (h : slices_Contains_impl_Tile_impl_Tile.f k l0 a1_0 a1_1 = some r) :
    Calls Tryz.prog 133 #[.slice A0 l0.length c0, .agg #[.int .i64 a1_0, .int .i64 a1_1]] w fun e w' => e = .returned (.bool r) ∧ Below w.heap.size w w' := by
  obtain ⟨cs, hcs⟩ : ∃ cs, cs = [old w w.heap.size] := ⟨_, rfl⟩
  have hp : Hp w cs w := by rw [hcs]; exact Hp.old_start w
  have hc2 : ∀ W, Hp w cs W → Below w.heap.size w W := fun W h => by rw [hcs] at h; exact h.since 0 _ rfl
  have hC0 : ∀ W, Hp w cs W → Kd.C k55 W A0 l0.length l0 := fun W h => Kd.C_below hr0 (hc2 W h)
  clear hcs
  unfold slices_Contains_impl_Tile_impl_Tile.f at h
  obtain ⟨t_2, hv_1, h⟩ := Option.bind_eq_some_iff.mp h
  try dsimp only at h
  refine sx_enter (N := 9) (l := [.slice A0 l0.length c0, .agg #[.int .i64 a1_0, .int .i64 a1_1]]) Tryz.func133 rfl rfl rfl ?_
  refine wp_seq ?_
  refine sx_region ?_
  refine sx_box 3 hp #[.int .i64 a1_0, .int .i64 a1_1] 55 (by rfl) (fun W => by kernel_rfl) ?_
  intro g_3 W_4 hp
  refine sx_rd 4 (.bool false) (by rfl) (by kernel_rfl) ?_
  refine sx_nil ?_
  refine ex_then_n ?_
  refine wp_seq ?_
  refine sx_region ?_
  refine sx_rd 5 (.slice A0 l0.length c0) (by rfl) (by kernel_rfl) ?_
  refine sx_rd 6 (.agg #[.int .i64 a1_0, .int .i64 a1_1]) (by rfl) (ldn (t := 55) (p := (.tmp 3)) (by rfl) (by rfl) (by kernel_rfl) (by kernel_rfl) (by kernel_rfl) (hp.at_ 0 _ (by rfl))) ?_
  refine sx_call 7 (by rfl) (by kernel_rfl) ((slices_Index_impl_Tile_impl_Tile.calls _ A0 c0 l0 a1_0 a1_1 _ _ (hC0 _ hp.tail) hc0 hv_1).mono ?_)
  rintro _ W_5 ⟨rfl, hb⟩
  refine ⟨_, rfl, ?_⟩
  replace hp := hp.below hb
  clear hb
  refine sx_rd 8 (.bool (decide (t_2 ≥ 0))) (by rfl) (by kernel_rfl) ?_
  refine sx_rd 4 (.bool (decide (t_2 ≥ 0))) (by rfl) (by kernel_rfl) ?_
  refine sx_nil ?_
  refine ex_then_n ?_
  refine wp_ret ?_
  refine sx_end (.bool (decide (t_2 ≥ 0))) (res1 4 (by rfl)) ?_
  obtain rfl := Option.some.inj h
  exact ⟨rfl, hc2 _ (hp.tail)⟩
end
section
open Go.RowKit Go.Proofs.YtokkiiepddhkiaaGreatDoorW.PrintWords Go.Proofs.YtokkiiepddhkiaaGreatDoorW.PrintLast Go.Proofs.YtokkiiepddhkiaaGreatDoorW.PrintMore
attribute [local go_sem] max2_int min2_int max_two min_two max_three min_three max_four min_four   -- for this text's walks alone
set_option linter.unusedVariables false
set_option linter.unusedSimpArgs false

def impl_areDifferent_impl_Tile.l0 : Nat → List (S_Tile) → List (S_Tile) → Int → Int → Option (Bool)
  | 0, _, _, _, _ => none
  | k + 1, x0, x5, x6, x7 => if x7 < x6 then (if 0 ≤ x7 then (if x7 < (x5.length : Int) then (if x7 ≤ (x0.length : Int) then ((slices_Contains_impl_Tile_impl_Tile.f k (x0.take (x7 : Int).toNat) ((rd_Tile x5 x7).f0) ((rd_Tile x5 x7).f1)).bind fun t197 => (if t197 = true then (some false) else (impl_areDifferent_impl_Tile.l0 k x0 x5 x6 (wrap64 (x7 + 1))))) else (none)) else (none)) else (none)) else (some true)
def impl_areDifferent_impl_Tile.f (k : Nat) (l0 : List (S_Tile)) : Option (Bool) := impl_areDifferent_impl_Tile.l0 k l0 l0 (l0.length : Int) 0
set_option maxRecDepth 100000 in
set_option maxHeartbeats 40000000 in
theorem impl_areDifferent_impl_Tile.calls (k : Nat) (A0 : Option Addr) (c0 : Nat) (l0 : List (S_Tile)) (r : Bool) (w : World) (hr0 : Kd.C k55 w A0 l0.length l0) (hc0 : l0.length ≤ c0) (h : impl_areDifferent_impl_Tile.f k l0 = some r) :
    Calls Tryz.prog 107 #[.slice A0 l0.length c0] w fun e w' => e = .returned (.bool r) ∧ Below w.heap.size w w' := by
  obtain ⟨cs, hcs⟩ : ∃ cs, cs = [old w w.heap.size] := ⟨_, rfl⟩
  have hp : Hp w cs w := by rw [hcs]; exact Hp.old_start w
  have hc2 : ∀ W, Hp w cs W → Below w.heap.size w W := fun W h => by rw [hcs] at h; exact h.since 0 _ rfl
  have hC0 : ∀ W, Hp w cs W → Kd.C k55 W A0 l0.length l0 := fun W h => Kd.C_below hr0 (hc2 W h)
  clear hcs
  unfold impl_areDifferent_impl_Tile.f at h
  refine sx_enter (N := 18) (l := [.slice A0 l0.length c0]) Tryz.func107 rfl rfl rfl ?_
  refine wp_seq ?_
  refine sx_region ?_
  refine sx_rd 2 (.bool false) (by rfl) (by kernel_rfl) ?_
  refine sx_nil ?_
  refine ex_then_n ?_
  refine wp_seq ?_
  refine wp_seq ?_
  refine sx_region ?_
  refine sx_rd 5 (.slice A0 l0.length c0) (by rfl) (by kernel_rfl) ?_
  refine sx_rd 6 (.int .i64 (l0.length : Int)) (by rfl) (by kernel_rfl) ?_
  refine sx_rd 7 (.int .i64 0) (by rfl) (by kernel_rfl) ?_
  refine sx_nil ?_
  refine ex_then_n ?_
  refine wp_block ?_
  refine wp_loop_ghost (fun n_ a_ W => ∃ (r_ : List (Nat × Value)) (k_2 : Nat) (x_1 : Int)  , n_ = k_2 + 1 ∧ a_ = fr 18 ([(0, .slice A0 l0.length c0), (5, .slice A0 l0.length c0), (6, .int .i64 (l0.length : Int)), (7, .int .i64 x_1)] ++ r_) ∧ Hp w (cs) W ∧ (impl_areDifferent_impl_Tile.l0 k_2 l0 l0 (l0.length : Int) x_1 = some r) ∧ (k_2 ≤ k)) _ ⟨_, k, 0, rfl, fr_front [(0, .slice A0 l0.length c0), (5, .slice A0 l0.length c0), (6, .int .i64 (l0.length : Int)), (7, .int .i64 0)] ⟨rfl, rfl, rfl, rfl, trivial⟩, (hp.take [] 0 (by decide) (by simp)), h, (Nat.le_refl _)⟩ ?_
  rintro _ _ W_4 ⟨r_, k_2, x_1, rfl, rfl, hp, h, hk_3⟩
  rcases k_2 with _ | k_2
  · simp [impl_areDifferent_impl_Tile.l0] at h
  simp only [impl_areDifferent_impl_Tile.l0] at h
  refine wp_seq ?_
  refine sx_region ?_
  refine sx_rd 8 (.bool (decide (x_1 < (l0.length : Int)))) (by rfl) (by kernel_rfl) ?_
  refine sx_nil ?_
  refine ex_then_n ?_
  refine wp_seq ?_
  by_cases hc_5 : x_1 < (l0.length : Int)
  ·
    rw [if_pos hc_5] at h
    by_cases hc_6 : 0 ≤ x_1
    case neg => rw [if_neg hc_6] at h; cases h
    rw [if_pos hc_6] at h
    by_cases hc_7 : x_1 < (l0.length : Int)
    case neg => rw [if_neg hc_7] at h; cases h
    rw [if_pos hc_7] at h
    by_cases hc_8 : x_1 ≤ (l0.length : Int)
    case neg => rw [if_neg hc_8] at h; cases h
    rw [if_pos hc_8] at h
    obtain ⟨t_10, hv_9, h⟩ := Option.bind_eq_some_iff.mp h
    try dsimp only at h
    refine sx_then (decide (x_1 < (l0.length : Int))) (by rfl) (decide_eq_true hc_5) ?_
    refine wp_skip ?_
    refine ex_then_n ?_
    refine wp_seq ?_
    refine wp_block ?_
    refine wp_seq ?_
    refine sx_region ?_
    refine sx_rd 9 (.int .i64 x_1) (by rfl) (by kernel_rfl) ?_
    refine sx_rd 10 (.pointer (some (adr A0 x_1 2))) (by rfl) (ix_run (d := k55) (hC0 _ hp) (t := 27) (by rfl) (by rfl) (by rfl) Tryz.underlying27 (by kernel_rfl) (by omega) (by omega)) ?_
    refine sx_rd 11 (.agg #[.int .i64 ((rd_Tile l0 x_1).f0), .int .i64 ((rd_Tile l0 x_1).f1)]) (by rfl) (el_run (d := k55) (hC0 _ hp) z55 x_1 (by omega) (by omega) (cells := [.int .i64 ((rd_Tile l0 x_1).f0), .int .i64 ((rd_Tile l0 x_1).f1)]) (fun cs h => k55_open h) 0 [.int .i64 ((rd_Tile l0 x_1).f0), .int .i64 ((rd_Tile l0 x_1).f1)] (by rfl) (t := 55) (p := (.tmp 10)) (by rfl) (by rfl) (by kernel_rfl) (by kernel_rfl)) ?_
    refine sx_box 4 hp #[.int .i64 0, .int .i64 0] 55 (by rfl) (fun W => by kernel_rfl) ?_
    intro g_11 W_12 hp
    refine sx_rd 3 (.int .i64 x_1) (by rfl) (by kernel_rfl) ?_
    refine sx_store (t := 55) (p := (.tmp 4)) (x := (.tmp 11)) (by rfl) (by rfl) 0 (by rfl) 0 [.int .i64 ((rd_Tile l0 x_1).f0), .int .i64 ((rd_Tile l0 x_1).f1)] (by rfl) (by rfl) (by kernel_rfl) (by simp [Value.oneCell']) (by show 2 ≤ 2; omega) #[.int .i64 ((rd_Tile l0 x_1).f0), .int .i64 ((rd_Tile l0 x_1).f1)] (by rfl) hp ?_
    intro W_13 hp; simp only [List.set_cons_succ, List.set_cons_zero] at hp
    refine sx_nil ?_
    refine ex_then_n ?_
    refine wp_seq ?_
    refine sx_drawT [0, 1] (.rd 3 (.alt 2 (.alt 4 (.fin) .non) .non)) 5 (C := Hp w (blk g_11 #[.int .i64 ((rd_Tile l0 x_1).f0), .int .i64 ((rd_Tile l0 x_1).f1)] 55 :: cs)) (by kernel_rfl) (by kernel_rfl) (fun d _ _ _ _ h => by cases d <;> exact h) (fun W h => h.drew) hp ?_
    refine preI_read rfl ?_
    refine sxq_val 12 (.slice A0 l0.length c0) (by rfl) (fun W _ => (by kernel_rfl)) ?_
    refine sxq_nil ?_
    refine preI_read rfl ?_
    refine sxq_val 13 (.int .i64 x_1) (by rfl) (fun W _ => (by kernel_rfl)) ?_
    refine sxq_nil ?_
    refine preI_nil ?_
    intro W_14 hp
    refine treeI_rd rfl ?_
    refine sxq_val 15 (.agg #[.int .i64 ((rd_Tile l0 x_1).f0), .int .i64 ((rd_Tile l0 x_1).f1)]) (by rfl) (fun W hp => (ldn (t := 55) (p := (.tmp 4)) (by rfl) (by rfl) (by kernel_rfl) (by kernel_rfl) (by kernel_rfl) (hp.at_ 0 _ (by rfl)))) ?_
    refine sxq_nil ?_
    refine treeI_ev rfl ?_
    have hcap_15 : l0.length ≤ c0 := hc0
    refine sx_rd 14 (.slice A0 ((l0.take (x_1).toNat).length) c0) (by rfl) (sl_hi (x_1).toNat (sz := 2) (xs := l0) (by rfl) (by rfl) (by rfl) (by omega) Tryz.underlying27 (by kernel_rfl) (by omega) hcap_15) ?_
    refine step_fin hp ?_
    refine treeI_ev rfl ?_
    refine sx_call 16 (by rfl) (by kernel_rfl) ((slices_Contains_impl_Tile_impl_Tile.calls _ A0 c0 (l0.take (x_1).toNat) ((rd_Tile l0 x_1).f0) ((rd_Tile l0 x_1).f1) _ _ (Kd.C_take (hC0 _ hp.tail) (by omega)) (show (l0.take (x_1).toNat).length ≤ c0 by simp; omega) hv_9).mono ?_)
    rintro _ W_16 ⟨rfl, hb⟩
    refine ⟨_, rfl, ?_⟩
    replace hp := hp.below hb
    clear hb
    refine step_fin hp ?_
    refine treeI_fin ?_
    refine sx_nil ?_
    refine ex_then_n ?_
    by_cases hc_17 : t_10 = true
    ·
      rw [if_pos hc_17] at h
      refine sx_then t_10 (by rfl) hc_17 ?_
      refine wp_seq ?_
      refine sx_region ?_
      refine sx_rd 2 (.bool false) (by rfl) (by kernel_rfl) ?_
      refine sx_nil ?_
      refine ex_then_n ?_
      refine wp_ret ?_
      refine ex_blk_r (ex_then_r (ex_then_r (ex_blk_r (ex_then_r ?_))))
      refine sx_end (.bool false) (res1 2 (by rfl)) ?_
      obtain rfl := Option.some.inj h
      exact ⟨rfl, hc2 _ (hp.tail)⟩
    ·
      rw [if_neg hc_17] at h
      refine sx_else t_10 (by rfl) (Bool.eq_false_iff.mpr hc_17) ?_
      refine wp_skip ?_
      refine ex_blk_n ?_
      refine ex_then_n ?_
      refine sx_region ?_
      refine sx_rd 17 (.int .i64 (wrap64 (x_1 + 1))) (by rfl) (wr_w (by kernel_rfl)) ?_
      refine sx_rd 7 (.int .i64 (wrap64 (x_1 + 1))) (by rfl) (by kernel_rfl) ?_
      refine sx_nil ?_
      refine ex_then_n ?_
      exact ⟨_, (by omega), _, k_2, (wrap64 (x_1 + 1)), rfl, fr_front [(0, .slice A0 l0.length c0), (5, .slice A0 l0.length c0), (6, .int .i64 (l0.length : Int)), (7, .int .i64 (wrap64 (x_1 + 1)))] ⟨rfl, rfl, rfl, rfl, trivial⟩, (hp.take [] 1 (by decide) (by simp)), h, (by omega)⟩
  ·
    rw [if_neg hc_5] at h
    refine sx_else (decide (x_1 < (l0.length : Int))) (by rfl) (decide_eq_false hc_5) ?_
    refine wp_exit ?_
    refine ex_then_e (ex_then_e (ex_blk_here ?_))
    refine ex_then_n ?_
    refine wp_seq ?_
    refine sx_region ?_
    refine sx_rd 2 (.bool true) (by rfl) (by kernel_rfl) ?_
    refine sx_nil ?_
    refine ex_then_n ?_
    refine wp_ret ?_
    refine sx_end (.bool true) (res1 2 (by rfl)) ?_
    obtain rfl := Option.some.inj h
    exact ⟨rfl, hc2 _ (hp)⟩
end
section
open Go.RowKit Go.Proofs.YtokkiiepddhkiaaGreatDoorW.PrintWords Go.Proofs.YtokkiiepddhkiaaGreatDoorW.PrintLast Go.Proofs.YtokkiiepddhkiaaGreatDoorW.PrintMore
attribute [local go_sem] max2_int min2_int max_two min_two max_three min_three max_four min_four   -- for this text's walks alone
set_option linter.unusedVariables false
set_option linter.unusedSimpArgs false

def laws_eqTile.f (a0_0 : Int) (a0_1 : Int) (a1_0 : Int) (a1_1 : Int) : Option (Bool) := if a0_0 = a1_0 then (if a0_1 = a1_1 then (some true) else (some false)) else (some false)
set_option maxRecDepth 100000 in
set_option maxHeartbeats 40000000 in
theorem laws_eqTile.calls (a0_0 : Int) (a0_1 : Int) (a1_0 : Int) (a1_1 : Int) (r : Bool) (w : World) (h : laws_eqTile.f a0_0 a0_1 a1_0 a1_1 = some r) :
    Calls Tryz.prog 29 #[.agg #[.int .i64 a0_0, .int .i64 a0_1], .agg #[.int .i64 a1_0, .int .i64 a1_1]] w fun e w' => e = .returned (.bool r) ∧ Below w.heap.size w w' := by
  obtain ⟨cs, hcs⟩ : ∃ cs, cs = [old w w.heap.size] := ⟨_, rfl⟩
  have hp : Hp w cs w := by rw [hcs]; exact Hp.old_start w
  have hc2 : ∀ W, Hp w cs W → Below w.heap.size w W := fun W h => by rw [hcs] at h; exact h.since 0 _ rfl
  clear hcs
  unfold laws_eqTile.f at h
  refine sx_enter (N := 15) (l := [.agg #[.int .i64 a0_0, .int .i64 a0_1], .agg #[.int .i64 a1_0, .int .i64 a1_1]]) Tryz.func29 rfl rfl rfl ?_
  refine wp_seq ?_
  refine sx_region ?_
  refine sx_box 2 hp #[.int .i64 a0_0, .int .i64 a0_1] 55 (by rfl) (fun W => by kernel_rfl) ?_
  intro g_1 W_2 hp
  refine sx_box 3 hp #[.int .i64 a1_0, .int .i64 a1_1] 55 (by rfl) (fun W => by kernel_rfl) ?_
  intro g_3 W_4 hp
  refine sx_rd 4 (.bool false) (by rfl) (by kernel_rfl) ?_
  refine sx_nil ?_
  refine ex_then_n ?_
  refine wp_seq ?_
  refine wp_seq ?_
  refine sx_region ?_
  refine sx_rd 5 (.pointer (some ⟨g_1, 0, none⟩)) (by rfl) (by kernel_rfl) ?_
  refine sx_rd 6 (.int .i64 a0_0) (by rfl) (ld1 (t := 3) (p := (.tmp 5)) (by rfl) (by rfl) (by kernel_rfl) (hp.cell 1 (by rfl) 0 _ (by rfl))) ?_
  refine sx_rd 7 (.pointer (some ⟨g_3, 0, none⟩)) (by rfl) (by kernel_rfl) ?_
  refine sx_rd 8 (.int .i64 a1_0) (by rfl) (ld1 (t := 3) (p := (.tmp 7)) (by rfl) (by rfl) (by kernel_rfl) (hp.cell 0 (by rfl) 0 _ (by rfl))) ?_
  refine sx_rd 9 (.bool (a0_0 != a1_0)) (by rfl) (by kernel_rfl) ?_
  refine sx_nil ?_
  refine ex_then_n ?_
  by_cases hc_5 : a0_0 = a1_0
  ·
    rw [if_pos hc_5] at h
    refine sx_else (a0_0 != a1_0) (by rfl) (bne_eq_false_iff_eq.mpr hc_5) ?_
    refine wp_skip ?_
    refine ex_then_n ?_
    refine wp_seq ?_
    refine wp_seq ?_
    refine sx_region ?_
    refine sx_rd 10 (.pointer (some ⟨g_1, 1, none⟩)) (by rfl) (by kernel_rfl) ?_
    refine sx_rd 11 (.int .i64 a0_1) (by rfl) (ld1 (t := 3) (p := (.tmp 10)) (by rfl) (by rfl) (by kernel_rfl) (hp.cell 1 (by rfl) 1 _ (by rfl))) ?_
    refine sx_rd 12 (.pointer (some ⟨g_3, 1, none⟩)) (by rfl) (by kernel_rfl) ?_
    refine sx_rd 13 (.int .i64 a1_1) (by rfl) (ld1 (t := 3) (p := (.tmp 12)) (by rfl) (by rfl) (by kernel_rfl) (hp.cell 0 (by rfl) 1 _ (by rfl))) ?_
    refine sx_rd 14 (.bool (a0_1 != a1_1)) (by rfl) (by kernel_rfl) ?_
    refine sx_nil ?_
    refine ex_then_n ?_
    by_cases hc_6 : a0_1 = a1_1
    ·
      rw [if_pos hc_6] at h
      refine sx_else (a0_1 != a1_1) (by rfl) (bne_eq_false_iff_eq.mpr hc_6) ?_
      refine wp_skip ?_
      refine ex_then_n ?_
      refine wp_seq ?_
      refine sx_region ?_
      refine sx_rd 4 (.bool true) (by rfl) (by kernel_rfl) ?_
      refine sx_nil ?_
      refine ex_then_n ?_
      refine wp_ret ?_
      refine sx_end (.bool true) (res1 4 (by rfl)) ?_
      obtain rfl := Option.some.inj h
      exact ⟨rfl, hc2 _ (hp.tail.tail)⟩
    ·
      rw [if_neg hc_6] at h
      refine sx_then (a0_1 != a1_1) (by rfl) (bne_iff_ne.mpr hc_6) ?_
      refine wp_seq ?_
      refine sx_region ?_
      refine sx_rd 4 (.bool false) (by rfl) (by kernel_rfl) ?_
      refine sx_nil ?_
      refine ex_then_n ?_
      refine wp_ret ?_
      refine ex_then_r ?_
      refine sx_end (.bool false) (res1 4 (by rfl)) ?_
      obtain rfl := Option.some.inj h
      exact ⟨rfl, hc2 _ (hp.tail.tail)⟩
  ·
    rw [if_neg hc_5] at h
    refine sx_then (a0_0 != a1_0) (by rfl) (bne_iff_ne.mpr hc_5) ?_
    refine wp_seq ?_
    refine sx_region ?_
    refine sx_rd 4 (.bool false) (by rfl) (by kernel_rfl) ?_
    refine sx_nil ?_
    refine ex_then_n ?_
    refine wp_ret ?_
    refine ex_then_r ?_
    refine sx_end (.bool false) (res1 4 (by rfl)) ?_
    obtain rfl := Option.some.inj h
    exact ⟨rfl, hc2 _ (hp.tail.tail)⟩
end
section
open Go.RowKit Go.Proofs.YtokkiiepddhkiaaGreatDoorW.PrintWords Go.Proofs.YtokkiiepddhkiaaGreatDoorW.PrintLast Go.Proofs.YtokkiiepddhkiaaGreatDoorW.PrintMore
attribute [local go_sem] max2_int min2_int max_two min_two max_three min_three max_four min_four   -- for this text's walks alone
set_option linter.unusedVariables false
set_option linter.unusedSimpArgs false

def laws_eqTileS.l0 : Nat → List (S_Tile) → List (S_Tile) → Int → Option (Bool)
  | 0, _, _, _ => none
  | k + 1, x0, x1, x5 => if x5 < (x0.length : Int) then (if 0 ≤ x5 then (if x5 < (x1.length : Int) then ((laws_eqTile.f ((rd_Tile x0 x5).f0) ((rd_Tile x0 x5).f1) ((rd_Tile x1 x5).f0) ((rd_Tile x1 x5).f1)).bind fun t206 => (if t206 = true then (laws_eqTileS.l0 k x0 x1 (wrap64 (x5 + 1))) else (some false))) else (none)) else (none)) else (some true)
def laws_eqTileS.f (k : Nat) (l0 : List (S_Tile)) (l1 : List (S_Tile)) : Option (Bool) := if (l0.length : Int) = (l1.length : Int) then (laws_eqTileS.l0 k l0 l1 0) else (some false)
set_option maxRecDepth 100000 in
set_option maxHeartbeats 40000000 in
theorem laws_eqTileS.calls (k : Nat) (A0 : Option Addr) (c0 : Nat) (l0 : List (S_Tile)) (A1 : Option Addr) (c1 : Nat) (l1 : List (S_Tile)) (r : Bool) (w : World) (hr0 : Kd.C k55 w A0 l0.length l0) (hc0 : l0.length ≤ c0) (hr1 : Kd.C k55 w A1 l1.length l1) (hc1 : l1.length ≤ c1) (h : laws_eqTileS.f k l0 l1 = some r) :
    Calls Tryz.prog 11 #[.slice A0 l0.length c0, .slice A1 l1.length c1] w fun e w' => e = .returned (.bool r) ∧ Below w.heap.size w w' := by
  obtain ⟨cs, hcs⟩ : ∃ cs, cs = [old w w.heap.size] := ⟨_, rfl⟩
  have hp : Hp w cs w := by rw [hcs]; exact Hp.old_start w
  have hc2 : ∀ W, Hp w cs W → Below w.heap.size w W := fun W h => by rw [hcs] at h; exact h.since 0 _ rfl
  have hC0 : ∀ W, Hp w cs W → Kd.C k55 W A0 l0.length l0 := fun W h => Kd.C_below hr0 (hc2 W h)
  have hC1 : ∀ W, Hp w cs W → Kd.C k55 W A1 l1.length l1 := fun W h => Kd.C_below hr1 (hc2 W h)
  clear hcs
  unfold laws_eqTileS.f at h
  refine sx_enter (N := 27) (l := [.slice A0 l0.length c0, .slice A1 l1.length c1]) Tryz.func11 rfl rfl rfl ?_
  refine wp_seq ?_
  refine sx_region ?_
  refine sx_rd 4 (.bool false) (by rfl) (by kernel_rfl) ?_
  refine sx_nil ?_
  refine ex_then_n ?_
  refine wp_seq ?_
  refine wp_seq ?_
  refine sx_region ?_
  refine sx_rd 6 (.slice A0 l0.length c0) (by rfl) (by kernel_rfl) ?_
  refine sx_rd 7 (.int .i64 (l0.length : Int)) (by rfl) (by kernel_rfl) ?_
  refine sx_rd 8 (.slice A1 l1.length c1) (by rfl) (by kernel_rfl) ?_
  refine sx_rd 9 (.int .i64 (l1.length : Int)) (by rfl) (by kernel_rfl) ?_
  refine sx_rd 10 (.bool ((l0.length : Int) != (l1.length : Int))) (by rfl) (by kernel_rfl) ?_
  refine sx_nil ?_
  refine ex_then_n ?_
  by_cases hc_1 : (l0.length : Int) = (l1.length : Int)
  ·
    rw [if_pos hc_1] at h
    refine sx_else ((l0.length : Int) != (l1.length : Int)) (by rfl) (bne_eq_false_iff_eq.mpr hc_1) ?_
    refine wp_skip ?_
    refine ex_then_n ?_
    refine wp_seq ?_
    refine wp_seq ?_
    refine sx_region ?_
    refine sx_rd 5 (.int .i64 0) (by rfl) (by kernel_rfl) ?_
    refine sx_nil ?_
    refine ex_then_n ?_
    refine wp_block ?_
    refine wp_loop_ghost (fun n_ a_ W => ∃ (r_ : List (Nat × Value)) (k_3 : Nat) (x_2 : Int)  , n_ = k_3 + 1 ∧ a_ = fr 27 ([(0, .slice A0 l0.length c0), (1, .slice A1 l1.length c1), (5, .int .i64 x_2)] ++ r_) ∧ Hp w (cs) W ∧ (laws_eqTileS.l0 k_3 l0 l1 x_2 = some r) ∧ (k_3 ≤ k)) _ ⟨_, k, 0, rfl, fr_front [(0, .slice A0 l0.length c0), (1, .slice A1 l1.length c1), (5, .int .i64 0)] ⟨rfl, rfl, rfl, trivial⟩, (hp.take [] 0 (by decide) (by simp)), h, (Nat.le_refl _)⟩ ?_
    rintro _ _ W_5 ⟨r_, k_3, x_2, rfl, rfl, hp, h, hk_4⟩
    rcases k_3 with _ | k_3
    · simp [laws_eqTileS.l0] at h
    simp only [laws_eqTileS.l0] at h
    refine wp_seq ?_
    refine wp_seq ?_
    refine sx_region ?_
    refine sx_rd 11 (.int .i64 x_2) (by rfl) (by kernel_rfl) ?_
    refine sx_rd 12 (.slice A0 l0.length c0) (by rfl) (by kernel_rfl) ?_
    refine sx_rd 13 (.int .i64 (l0.length : Int)) (by rfl) (by kernel_rfl) ?_
    refine sx_rd 14 (.bool (decide (x_2 < (l0.length : Int)))) (by rfl) (by kernel_rfl) ?_
    refine sx_nil ?_
    refine ex_then_n ?_
    by_cases hc_6 : x_2 < (l0.length : Int)
    ·
      rw [if_pos hc_6] at h
      by_cases hc_7 : 0 ≤ x_2
      case neg => rw [if_neg hc_7] at h; cases h
      rw [if_pos hc_7] at h
      by_cases hc_8 : x_2 < (l1.length : Int)
      case neg => rw [if_neg hc_8] at h; cases h
      rw [if_pos hc_8] at h
      obtain ⟨t_10, hv_9, h⟩ := Option.bind_eq_some_iff.mp h
      try dsimp only at h
      refine sx_then (decide (x_2 < (l0.length : Int))) (by rfl) (decide_eq_true hc_6) ?_
      refine wp_skip ?_
      refine ex_then_n ?_
      refine wp_seq ?_
      refine wp_block ?_
      refine wp_seq ?_
      refine sx_drawT [0, 1, 4, 5] (.rd 2 (.rd 3 (.rd 6 (.rd 7 (.alt 8 (.rd 9 (.fin)) .non))))) 10 (C := Hp w (cs)) (by kernel_rfl) (by kernel_rfl) (fun d _ _ _ _ h => by cases d <;> exact h) (fun W h => h.drew) hp ?_
      refine preI_read rfl ?_
      refine sxq_val 17 (.slice A0 l0.length c0) (by rfl) (fun W _ => (by kernel_rfl)) ?_
      refine sxq_nil ?_
      refine preI_read rfl ?_
      refine sxq_val 18 (.int .i64 x_2) (by rfl) (fun W _ => (by kernel_rfl)) ?_
      refine sxq_nil ?_
      refine preI_read rfl ?_
      refine sxq_val 21 (.slice A1 l1.length c1) (by rfl) (fun W _ => (by kernel_rfl)) ?_
      refine sxq_nil ?_
      refine preI_read rfl ?_
      refine sxq_val 22 (.int .i64 x_2) (by rfl) (fun W _ => (by kernel_rfl)) ?_
      refine sxq_nil ?_
      refine preI_nil ?_
      intro W_11 hp
      refine treeI_rd rfl ?_
      refine sxq_val 19 (.pointer (some (adr A0 x_2 2))) (by rfl) (fun W hp => (ix_run (d := k55) (hC0 _ hp) (t := 27) (by rfl) (by rfl) (by rfl) Tryz.underlying27 (by kernel_rfl) (by omega) (by omega))) ?_
      refine sxq_nil ?_
      refine treeI_rd rfl ?_
      refine sxq_val 20 (.agg #[.int .i64 ((rd_Tile l0 x_2).f0), .int .i64 ((rd_Tile l0 x_2).f1)]) (by rfl) (fun W hp => (el_run (d := k55) (hC0 _ hp) z55 x_2 (by omega) (by omega) (cells := [.int .i64 ((rd_Tile l0 x_2).f0), .int .i64 ((rd_Tile l0 x_2).f1)]) (fun cs h => k55_open h) 0 [.int .i64 ((rd_Tile l0 x_2).f0), .int .i64 ((rd_Tile l0 x_2).f1)] (by rfl) (t := 55) (p := (.tmp 19)) (by rfl) (by rfl) (by kernel_rfl) (by kernel_rfl))) ?_
      refine sxq_nil ?_
      refine treeI_rd rfl ?_
      refine sxq_val 23 (.pointer (some (adr A1 x_2 2))) (by rfl) (fun W hp => (ix_run (d := k55) (hC1 _ hp) (t := 27) (by rfl) (by rfl) (by rfl) Tryz.underlying27 (by kernel_rfl) (by omega) (by omega))) ?_
      refine sxq_nil ?_
      refine treeI_rd rfl ?_
      refine sxq_val 24 (.agg #[.int .i64 ((rd_Tile l1 x_2).f0), .int .i64 ((rd_Tile l1 x_2).f1)]) (by rfl) (fun W hp => (el_run (d := k55) (hC1 _ hp) z55 x_2 (by omega) (by omega) (cells := [.int .i64 ((rd_Tile l1 x_2).f0), .int .i64 ((rd_Tile l1 x_2).f1)]) (fun cs h => k55_open h) 0 [.int .i64 ((rd_Tile l1 x_2).f0), .int .i64 ((rd_Tile l1 x_2).f1)] (by rfl) (t := 55) (p := (.tmp 23)) (by rfl) (by rfl) (by kernel_rfl) (by kernel_rfl))) ?_
      refine sxq_nil ?_
      refine treeI_ev rfl ?_
      refine sx_call 25 (by rfl) (by kernel_rfl) ((laws_eqTile.calls ((rd_Tile l0 x_2).f0) ((rd_Tile l0 x_2).f1) ((rd_Tile l1 x_2).f0) ((rd_Tile l1 x_2).f1) _ _ hv_9).mono ?_)
      rintro _ W_12 ⟨rfl, hb⟩
      refine ⟨_, rfl, ?_⟩
      replace hp := hp.below hb
      clear hb
      refine step_fin hp ?_
      refine treeI_rd rfl ?_
      refine sxq_val 26 (.bool (!t_10)) (by rfl) (fun W hp => (by kernel_rfl)) ?_
      refine sxq_nil ?_
      refine treeI_fin ?_
      refine sx_nil ?_
      refine ex_then_n ?_
      by_cases hc_13 : t_10 = true
      ·
        rw [if_pos hc_13] at h
        refine sx_else (!t_10) (by rfl) (show (!t_10) = false from by rw [hc_13]; rfl) ?_
        refine wp_skip ?_
        refine ex_blk_n ?_
        refine ex_then_n ?_
        refine sx_region ?_
        refine sx_rd 15 (.int .i64 x_2) (by rfl) (by kernel_rfl) ?_
        refine sx_rd 16 (.int .i64 (wrap64 (x_2 + 1))) (by rfl) (wr_w (by kernel_rfl)) ?_
        refine sx_rd 5 (.int .i64 (wrap64 (x_2 + 1))) (by rfl) (by kernel_rfl) ?_
        refine sx_nil ?_
        refine ex_then_n ?_
        exact ⟨_, (by omega), _, k_3, (wrap64 (x_2 + 1)), rfl, fr_front [(0, .slice A0 l0.length c0), (1, .slice A1 l1.length c1), (5, .int .i64 (wrap64 (x_2 + 1)))] ⟨rfl, rfl, rfl, trivial⟩, (hp.take [] 0 (by decide) (by simp)), h, (by omega)⟩
      ·
        rw [if_neg hc_13] at h
        refine sx_then (!t_10) (by rfl) (show (!t_10) = true from by rw [(Bool.eq_false_iff.mpr hc_13)]; rfl) ?_
        refine wp_seq ?_
        refine sx_region ?_
        refine sx_rd 4 (.bool false) (by rfl) (by kernel_rfl) ?_
        refine sx_nil ?_
        refine ex_then_n ?_
        refine wp_ret ?_
        refine ex_blk_r (ex_then_r (ex_then_r (ex_blk_r (ex_then_r ?_))))
        refine sx_end (.bool false) (res1 4 (by rfl)) ?_
        obtain rfl := Option.some.inj h
        exact ⟨rfl, hc2 _ (hp)⟩
    ·
      rw [if_neg hc_6] at h
      refine sx_else (decide (x_2 < (l0.length : Int))) (by rfl) (decide_eq_false hc_6) ?_
      refine wp_exit ?_
      refine ex_then_e (ex_then_e (ex_blk_here ?_))
      refine ex_then_n ?_
      refine wp_seq ?_
      refine sx_region ?_
      refine sx_rd 4 (.bool true) (by rfl) (by kernel_rfl) ?_
      refine sx_nil ?_
      refine ex_then_n ?_
      refine wp_ret ?_
      refine sx_end (.bool true) (res1 4 (by rfl)) ?_
      obtain rfl := Option.some.inj h
      exact ⟨rfl, hc2 _ (hp)⟩
  ·
    rw [if_neg hc_1] at h
    refine sx_then ((l0.length : Int) != (l1.length : Int)) (by rfl) (bne_iff_ne.mpr hc_1) ?_
    refine wp_seq ?_
    refine sx_region ?_
    refine sx_rd 4 (.bool false) (by rfl) (by kernel_rfl) ?_
    refine sx_nil ?_
    refine ex_then_n ?_
    refine wp_ret ?_
    refine ex_then_r ?_
    refine sx_end (.bool false) (res1 4 (by rfl)) ?_
    obtain rfl := Option.some.inj h
    exact ⟨rfl, hc2 _ (hp)⟩
end
section
open Go.RowKit Go.Proofs.YtokkiiepddhkiaaGreatDoorW.PrintWords Go.Proofs.YtokkiiepddhkiaaGreatDoorW.PrintLast Go.Proofs.YtokkiiepddhkiaaGreatDoorW.PrintMore
attribute [local go_sem] max2_int min2_int max_two min_two max_three min_three max_four min_four   -- for this text's walks alone
set_option linter.unusedVariables false
set_option linter.unusedSimpArgs false

def laws_heldStringS.l0 : Nat → List ByteArray → Int → Int → Option (Int)
  | 0, _, _, _ => none
  | k + 1, x0, x1, x5 => if x5 < (x0.length : Int) then (if 0 ≤ x5 then ((laws_markText.f k x1).bind fun t215 => (if (rdOf ByteArray.empty x0 x5).toList = t215.toList then (laws_heldStringS.l0 k x0 (wrap64 (x1 + 1)) (wrap64 (x5 + 1))) else (some (-1)))) else (none)) else (some x1)
def laws_heldStringS.f (k : Nat) (l0 : List ByteArray) (a1 : Int) : Option (Int) := laws_heldStringS.l0 k l0 a1 0
set_option maxRecDepth 100000 in
set_option maxHeartbeats 40000000 in
theorem laws_heldStringS.calls (k : Nat) (A0 : Option Addr) (c0 : Nat) (l0 : List ByteArray) (a1 : Int) (r : Int) (w : World) (hr0 : Kd.C Kd.string w A0 l0.length l0) (hc0 : l0.length ≤ c0) (h : laws_heldStringS.f k l0 a1 = some r) :
    Calls Tryz.prog 14 #[.slice A0 l0.length c0, .int .i64 a1] w fun e w' => e = .returned (.int .i64 r) ∧ Below w.heap.size w w' := by
  obtain ⟨cs, hcs⟩ : ∃ cs, cs = [old w w.heap.size] := ⟨_, rfl⟩
  have hp : Hp w cs w := by rw [hcs]; exact Hp.old_start w
  have hc2 : ∀ W, Hp w cs W → Below w.heap.size w W := fun W h => by rw [hcs] at h; exact h.since 0 _ rfl
  have hC0 : ∀ W, Hp w cs W → Kd.C Kd.string W A0 l0.length l0 := fun W h => Kd.C_below hr0 (hc2 W h)
  clear hcs
  unfold laws_heldStringS.f at h
  refine sx_enter (N := 22) (l := [.slice A0 l0.length c0, .int .i64 a1]) Tryz.func14 rfl rfl rfl ?_
  refine wp_seq ?_
  refine sx_region ?_
  refine sx_rd 4 (.int .i64 0) (by rfl) (by kernel_rfl) ?_
  refine sx_nil ?_
  refine ex_then_n ?_
  refine wp_seq ?_
  refine wp_seq ?_
  refine sx_region ?_
  refine sx_rd 5 (.int .i64 0) (by rfl) (by kernel_rfl) ?_
  refine sx_nil ?_
  refine ex_then_n ?_
  refine wp_block ?_
  refine wp_loop_ghost (fun n_ a_ W => ∃ (r_ : List (Nat × Value)) (k_3 : Nat) (x_1 : Int) (x_2 : Int)  , n_ = k_3 + 1 ∧ a_ = fr 22 ([(0, .slice A0 l0.length c0), (1, .int .i64 x_1), (5, .int .i64 x_2)] ++ r_) ∧ Hp w (cs) W ∧ (laws_heldStringS.l0 k_3 l0 x_1 x_2 = some r) ∧ (k_3 ≤ k)) _ ⟨_, k, a1, 0, rfl, fr_front [(0, .slice A0 l0.length c0), (1, .int .i64 a1), (5, .int .i64 0)] ⟨rfl, rfl, rfl, trivial⟩, (hp.take [] 0 (by decide) (by simp)), h, (Nat.le_refl _)⟩ ?_
  rintro _ _ W_5 ⟨r_, k_3, x_1, x_2, rfl, rfl, hp, h, hk_4⟩
  rcases k_3 with _ | k_3
  · simp [laws_heldStringS.l0] at h
  simp only [laws_heldStringS.l0] at h
  refine wp_seq ?_
  refine wp_seq ?_
  refine sx_region ?_
  refine sx_rd 6 (.int .i64 x_2) (by rfl) (by kernel_rfl) ?_
  refine sx_rd 7 (.slice A0 l0.length c0) (by rfl) (by kernel_rfl) ?_
  refine sx_rd 8 (.int .i64 (l0.length : Int)) (by rfl) (by kernel_rfl) ?_
  refine sx_rd 9 (.bool (decide (x_2 < (l0.length : Int)))) (by rfl) (by kernel_rfl) ?_
  refine sx_nil ?_
  refine ex_then_n ?_
  by_cases hc_6 : x_2 < (l0.length : Int)
  ·
    rw [if_pos hc_6] at h
    by_cases hc_7 : 0 ≤ x_2
    case neg => rw [if_neg hc_7] at h; cases h
    rw [if_pos hc_7] at h
    obtain ⟨t_9, hv_8, h⟩ := Option.bind_eq_some_iff.mp h
    try dsimp only at h
    refine sx_then (decide (x_2 < (l0.length : Int))) (by rfl) (decide_eq_true hc_6) ?_
    refine wp_skip ?_
    refine ex_then_n ?_
    refine wp_seq ?_
    refine wp_block ?_
    refine wp_seq ?_
    refine wp_seq ?_
    refine sx_drawT [0, 1, 4] (.rd 2 (.rd 3 (.alt 5 (.rd 6 (.fin)) .non))) 7 (C := Hp w (cs)) (by kernel_rfl) (by kernel_rfl) (fun d _ _ _ _ h => by cases d <;> exact h) (fun W h => h.drew) hp ?_
    refine preI_read rfl ?_
    refine sxq_val 12 (.slice A0 l0.length c0) (by rfl) (fun W _ => (by kernel_rfl)) ?_
    refine sxq_nil ?_
    refine preI_read rfl ?_
    refine sxq_val 13 (.int .i64 x_2) (by rfl) (fun W _ => (by kernel_rfl)) ?_
    refine sxq_nil ?_
    refine preI_read rfl ?_
    refine sxq_val 16 (.int .i64 x_1) (by rfl) (fun W _ => (by kernel_rfl)) ?_
    refine sxq_nil ?_
    refine preI_nil ?_
    intro W_10 hp
    refine treeI_rd rfl ?_
    refine sxq_val 14 (.pointer (some (adr A0 x_2 1))) (by rfl) (fun W hp => (ix_run (d := Kd.string) (hC0 _ hp) (t := 24) (by rfl) (by rfl) (by rfl) Tryz.underlying24 (by kernel_rfl) (by omega) (by omega))) ?_
    refine sxq_nil ?_
    refine treeI_rd rfl ?_
    refine sxq_val 15 (.string (rdOf ByteArray.empty l0 x_2)) (by rfl) (fun W hp => (ld1 (t := 9) (p := (.tmp 14)) (by rfl) (by rfl) (by kernel_rfl) (el_cell (d := Kd.string) (hC0 _ hp) ByteArray.empty x_2 (by omega) (by omega) (cells := [.string (rdOf ByteArray.empty l0 x_2)]) (fun cs h => h) 0 _ (by rfl)))) ?_
    refine sxq_nil ?_
    refine treeI_ev rfl ?_
    refine sx_call 17 (by rfl) (by kernel_rfl) ((laws_markText.calls _ x_1 _ _ hv_8).mono ?_)
    rintro _ W_11 ⟨rfl, hb⟩
    refine ⟨_, rfl, ?_⟩
    replace hp := hp.below hb
    clear hb
    refine step_fin hp ?_
    refine treeI_rd rfl ?_
    refine sxq_val 18 (.bool ((rdOf ByteArray.empty l0 x_2).toList != t_9.toList)) (by rfl) (fun W hp => (by kernel_rfl)) ?_
    refine sxq_nil ?_
    refine treeI_fin ?_
    refine sx_nil ?_
    refine ex_then_n ?_
    by_cases hc_12 : (rdOf ByteArray.empty l0 x_2).toList = t_9.toList
    ·
      rw [if_pos hc_12] at h
      refine sx_else ((rdOf ByteArray.empty l0 x_2).toList != t_9.toList) (by rfl) (bne_eq_false_iff_eq.mpr hc_12) ?_
      refine wp_skip ?_
      refine ex_then_n ?_
      refine sx_region ?_
      refine sx_rd 19 (.int .i64 x_1) (by rfl) (by kernel_rfl) ?_
      refine sx_rd 20 (.int .i64 (wrap64 (x_1 + 1))) (by rfl) (wr_w (by kernel_rfl)) ?_
      refine sx_rd 1 (.int .i64 (wrap64 (x_1 + 1))) (by rfl) (by kernel_rfl) ?_
      refine sx_nil ?_
      refine ex_blk_n ?_
      refine ex_then_n ?_
      refine sx_region ?_
      refine sx_rd 10 (.int .i64 x_2) (by rfl) (by kernel_rfl) ?_
      refine sx_rd 11 (.int .i64 (wrap64 (x_2 + 1))) (by rfl) (wr_w (by kernel_rfl)) ?_
      refine sx_rd 5 (.int .i64 (wrap64 (x_2 + 1))) (by rfl) (by kernel_rfl) ?_
      refine sx_nil ?_
      refine ex_then_n ?_
      exact ⟨_, (by omega), _, k_3, (wrap64 (x_1 + 1)), (wrap64 (x_2 + 1)), rfl, fr_front [(0, .slice A0 l0.length c0), (1, .int .i64 (wrap64 (x_1 + 1))), (5, .int .i64 (wrap64 (x_2 + 1)))] ⟨rfl, rfl, rfl, trivial⟩, (hp.take [] 0 (by decide) (by simp)), h, (by omega)⟩
    ·
      rw [if_neg hc_12] at h
      refine sx_then ((rdOf ByteArray.empty l0 x_2).toList != t_9.toList) (by rfl) (bne_iff_ne.mpr hc_12) ?_
      refine wp_seq ?_
      refine sx_region ?_
      refine sx_rd 4 (.int .i64 (-1)) (by rfl) (by kernel_rfl) ?_
      refine sx_nil ?_
      refine ex_then_n ?_
      refine wp_ret ?_
      refine ex_then_r (ex_blk_r (ex_then_r (ex_then_r (ex_blk_r (ex_then_r ?_)))))
      refine sx_end (.int .i64 (-1)) (res1 4 (by rfl)) ?_
      obtain rfl := Option.some.inj h
      exact ⟨rfl, hc2 _ (hp)⟩
  ·
    rw [if_neg hc_6] at h
    refine sx_else (decide (x_2 < (l0.length : Int))) (by rfl) (decide_eq_false hc_6) ?_
    refine wp_exit ?_
    refine ex_then_e (ex_then_e (ex_blk_here ?_))
    refine ex_then_n ?_
    refine wp_seq ?_
    refine sx_region ?_
    refine sx_rd 21 (.int .i64 x_1) (by rfl) (by kernel_rfl) ?_
    refine sx_rd 4 (.int .i64 x_1) (by rfl) (by kernel_rfl) ?_
    refine sx_nil ?_
    refine ex_then_n ?_
    refine wp_ret ?_
    refine sx_end (.int .i64 x_1) (res1 4 (by rfl)) ?_
    obtain rfl := Option.some.inj h
    exact ⟨rfl, hc2 _ (hp)⟩
end
section
open Go.RowKit Go.Proofs.YtokkiiepddhkiaaGreatDoorW.PrintWords Go.Proofs.YtokkiiepddhkiaaGreatDoorW.PrintLast Go.Proofs.YtokkiiepddhkiaaGreatDoorW.PrintMore
attribute [local go_sem] max2_int min2_int max_two min_two max_three min_three max_four min_four   -- for this text's walks alone
set_option linter.unusedVariables false
set_option linter.unusedSimpArgs false

def impl_tile.f (a0 : Int) (a1 : Int) : Option (Int × Int) := some (mn a0 a1, mx a0 a1)
set_option maxRecDepth 100000 in
set_option maxHeartbeats 40000000 in
theorem impl_tile.calls (a0 : Int) (a1 : Int) (r1 : Int) (r2 : Int) (w : World) (h : impl_tile.f a0 a1 = some (r1, r2)) :
    Calls Tryz.prog 80 #[.int .i64 a0, .int .i64 a1] w fun e w' => e = .returned (.agg #[.int .i64 r1, .int .i64 r2]) ∧ Below w.heap.size w w' := by
  obtain ⟨cs, hcs⟩ : ∃ cs, cs = [old w w.heap.size] := ⟨_, rfl⟩
  have hp : Hp w cs w := by rw [hcs]; exact Hp.old_start w
  have hc2 : ∀ W, Hp w cs W → Below w.heap.size w W := fun W h => by rw [hcs] at h; exact h.since 0 _ rfl
  clear hcs
  unfold impl_tile.f at h
  refine sx_enter (N := 12) (l := [.int .i64 a0, .int .i64 a1]) Tryz.func80 rfl rfl rfl ?_
  refine wp_seq ?_
  refine sx_region ?_
  refine sx_box 4 hp #[.int .i64 0, .int .i64 0] 55 (by rfl) (fun W => by kernel_rfl) ?_
  intro g_1 W_2 hp
  refine sx_nil ?_
  refine ex_then_n ?_
  refine wp_seq ?_
  refine sx_region ?_
  refine sx_rd 5 (.int .i64 a0) (by rfl) (by kernel_rfl) ?_
  refine sx_rd 6 (.int .i64 a1) (by rfl) (by kernel_rfl) ?_
  refine sx_rd 7 (.int .i64 (mn a0 a1)) (by rfl) (by kernel_rfl) ?_
  refine sx_rd 8 (.int .i64 a0) (by rfl) (by kernel_rfl) ?_
  refine sx_rd 9 (.int .i64 a1) (by rfl) (by kernel_rfl) ?_
  refine sx_rd 10 (.int .i64 (mx a0 a1)) (by rfl) (by kernel_rfl) ?_
  refine sx_rd 11 (.agg #[.int .i64 (mn a0 a1), .int .i64 (mx a0 a1)]) (by rfl) (by kernel_rfl) ?_
  refine sx_store (t := 55) (p := (.tmp 4)) (x := (.tmp 11)) (by rfl) (by rfl) 0 (by rfl) 0 [.int .i64 (mn a0 a1), .int .i64 (mx a0 a1)] (by rfl) (by rfl) (by kernel_rfl) (by simp [Value.oneCell']) (by show 2 ≤ 2; omega) #[.int .i64 (mn a0 a1), .int .i64 (mx a0 a1)] (by rfl) hp ?_
  intro W_3 hp; simp only [List.set_cons_succ, List.set_cons_zero] at hp
  refine sx_nil ?_
  refine ex_then_n ?_
  refine wp_ret ?_
  refine sx_end (.agg #[.int .i64 (mn a0 a1), .int .i64 (mx a0 a1)]) (resc (by rfl) (by rfl) (by kernel_rfl) (by kernel_rfl) (hp.at_ 0 _ (by rfl))) ?_
  simp only [Option.some.injEq, Prod.mk.injEq] at h; obtain ⟨rfl, rfl⟩ := h
  exact ⟨rfl, hc2 _ (hp.tail)⟩
end
end Go.Proofs.YtokkiiepddhkiaaGreatDoor.Hd
