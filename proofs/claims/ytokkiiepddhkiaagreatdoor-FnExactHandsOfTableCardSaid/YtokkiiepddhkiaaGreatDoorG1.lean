-- Printed by hprint.py and laid together by pack.py (this session's programs over the kit's print program). Lean checks it.
import Derived.Test.YtokkiiepddhkiaaGreatDoorMSx5
import Derived.Test.YtokkiiepddhkiaaGreatDoorMSxL
import Derived.Test.YtokkiiepddhkiaaGreatDoorG0
import Derived.Test.YtokkiiepddhkiaaGreatDoorMTileR
namespace Go.Proofs.YtokkiiepddhkiaaGreatDoor.Hd
section
open Go.RowKit Go.Proofs.YtokkiiepddhkiaaGreatDoorW.PrintWords Go.Proofs.YtokkiiepddhkiaaGreatDoorW.PrintLast Go.Proofs.YtokkiiepddhkiaaGreatDoorW.PrintMore
attribute [local go_sem] max2_int min2_int max_two min_two max_three min_three max_four min_four   -- for this text's walks alone
set_option linter.unusedVariables false
set_option linter.unusedSimpArgs false

def spec_tiGood.f (a0_0 : Int) (a0_1 : Int) : Option (Bool) := (spec_l1In.f a0_0 0 a0_1).bind fun t125 => (if t125 = true then (some (decide (a0_1 ≤ 9))) else (some false))
set_option maxRecDepth 100000 in
set_option maxHeartbeats 40000000 in
theorem spec_tiGood.calls (a0_0 : Int) (a0_1 : Int) (r : Bool) (w : World) (h : spec_tiGood.f a0_0 a0_1 = some r) :
    Calls Tryz.prog 74 #[.agg #[.int .i64 a0_0, .int .i64 a0_1]] w fun e w' => e = .returned (.bool r) ∧ Below w.heap.size w w' := by
  obtain ⟨cs, hcs⟩ : ∃ cs, cs = [old w w.heap.size] := ⟨_, rfl⟩
  have hp : Hp w cs w := by rw [hcs]; exact Hp.old_start w
  have hc2 : ∀ W, Hp w cs W → Below w.heap.size w W := fun W h => by rw [hcs] at h; exact h.since 0 _ rfl
  clear hcs
  unfold spec_tiGood.f at h
  obtain ⟨t_2, hv_1, h⟩ := Option.bind_eq_some_iff.mp h
  try dsimp only at h
  refine sx_enter (N := 13) (l := [.agg #[.int .i64 a0_0, .int .i64 a0_1]]) Tryz.func74 rfl rfl rfl ?_
  refine wp_seq ?_
  refine sx_region ?_
  refine sx_box 1 hp #[.int .i64 a0_0, .int .i64 a0_1] 55 (by rfl) (fun W => by kernel_rfl) ?_
  intro g_3 W_4 hp
  refine sx_rd 2 (.bool false) (by rfl) (by kernel_rfl) ?_
  refine sx_nil ?_
  refine ex_then_n ?_
  refine wp_seq ?_
  by_cases hc_5 : t_2 = true
  ·
    rw [if_pos hc_5] at h
    refine sx_region ?_
    refine sx_rd 3 (.pointer (some ⟨g_3, 0, none⟩)) (by rfl) (by kernel_rfl) ?_
    refine sx_rd 4 (.int .i64 a0_0) (by rfl) (ld1 (t := 3) (p := (.tmp 3)) (by rfl) (by rfl) (by kernel_rfl) (hp.cell 0 (by rfl) 0 _ (by rfl))) ?_
    refine sx_rd 5 (.pointer (some ⟨g_3, 1, none⟩)) (by rfl) (by kernel_rfl) ?_
    refine sx_rd 6 (.int .i64 a0_1) (by rfl) (ld1 (t := 3) (p := (.tmp 5)) (by rfl) (by rfl) (by kernel_rfl) (hp.cell 0 (by rfl) 1 _ (by rfl))) ?_
    refine sx_call 7 (by rfl) (by kernel_rfl) ((spec_l1In.calls a0_0 0 a0_1 _ _ hv_1).mono ?_)
    rintro _ W_6 ⟨rfl, hb⟩
    refine ⟨.bool true, congrArg (fun b => Ending.returned (.bool b)) hc_5, ?_⟩
    replace hp := hp.below hb.below
    clear hb
    refine sx_rd 8 (.bool true) (by rfl) (by kernel_rfl) ?_
    refine sx_want (by rfl) ?_
    refine sx_rd 9 (.pointer (some ⟨g_3, 1, none⟩)) (by rfl) (by kernel_rfl) ?_
    refine sx_want (by rfl) ?_
    refine sx_rd 10 (.int .i64 a0_1) (by rfl) (ld1 (t := 3) (p := (.tmp 9)) (by rfl) (by rfl) (by kernel_rfl) (hp.cell 0 (by rfl) 1 _ (by rfl))) ?_
    refine sx_want (by rfl) ?_
    refine sx_rd 11 (.bool (decide (a0_1 ≤ 9))) (by rfl) (by kernel_rfl) ?_
    refine sx_rd 12 (.bool (decide (a0_1 ≤ 9))) (by rfl) (by kernel_rfl) ?_
    refine sx_rd 2 (.bool (decide (a0_1 ≤ 9))) (by rfl) (by kernel_rfl) ?_
    refine sx_nil ?_
    refine ex_then_n ?_
    refine wp_ret ?_
    refine sx_end (.bool (decide (a0_1 ≤ 9))) (res1 2 (by rfl)) ?_
    obtain rfl := Option.some.inj h
    exact ⟨rfl, hc2 _ (hp.tail)⟩
  ·
    rw [if_neg hc_5] at h
    refine sx_region ?_
    refine sx_rd 3 (.pointer (some ⟨g_3, 0, none⟩)) (by rfl) (by kernel_rfl) ?_
    refine sx_rd 4 (.int .i64 a0_0) (by rfl) (ld1 (t := 3) (p := (.tmp 3)) (by rfl) (by rfl) (by kernel_rfl) (hp.cell 0 (by rfl) 0 _ (by rfl))) ?_
    refine sx_rd 5 (.pointer (some ⟨g_3, 1, none⟩)) (by rfl) (by kernel_rfl) ?_
    refine sx_rd 6 (.int .i64 a0_1) (by rfl) (ld1 (t := 3) (p := (.tmp 5)) (by rfl) (by rfl) (by kernel_rfl) (hp.cell 0 (by rfl) 1 _ (by rfl))) ?_
    refine sx_call 7 (by rfl) (by kernel_rfl) ((spec_l1In.calls a0_0 0 a0_1 _ _ hv_1).mono ?_)
    rintro _ W_7 ⟨rfl, hb⟩
    refine ⟨.bool false, congrArg (fun b => Ending.returned (.bool b)) (Bool.eq_false_iff.mpr hc_5), ?_⟩
    replace hp := hp.below hb.below
    clear hb
    refine sx_rd 8 (.bool false) (by rfl) (by kernel_rfl) ?_
    refine sx_skip 9 (by rfl) (by rfl) (by rfl) ?_
    refine sx_skip 10 (by rfl) (by rfl) (by rfl) ?_
    refine sx_skip 11 (by rfl) (by rfl) (by rfl) ?_
    refine sx_rd 12 (.bool false) (by rfl) (by kernel_rfl) ?_
    refine sx_rd 2 (.bool false) (by rfl) (by kernel_rfl) ?_
    refine sx_nil ?_
    refine ex_then_n ?_
    refine wp_ret ?_
    refine sx_end (.bool false) (res1 2 (by rfl)) ?_
    obtain rfl := Option.some.inj h
    exact ⟨rfl, hc2 _ (hp.tail)⟩
end
section
open Go.RowKit Go.Proofs.YtokkiiepddhkiaaGreatDoorW.PrintWords Go.Proofs.YtokkiiepddhkiaaGreatDoorW.PrintLast Go.Proofs.YtokkiiepddhkiaaGreatDoorW.PrintMore
attribute [local go_sem] max2_int min2_int max_two min_two max_three min_three max_four min_four   -- for this text's walks alone
set_option linter.unusedVariables false
set_option linter.unusedSimpArgs false

attribute [local go_sem high] eqA55
def spec_tiPlace.l0 : Nat → List (S_Tile) → Int → Int → Int → Int → Option (Int)
  | 0, _, _, _, _, _ => none
  | k + 1, x7, x8, x9, x127000, x127001 => if x9 < x8 then (if 0 ≤ x9 then (if x9 < (x7.length : Int) then (if (((rd_Tile x7 x9).f0) == x127000 && (((rd_Tile x7 x9).f1) == x127001)) = true then (some x9) else (spec_tiPlace.l0 k x7 x8 (wrap64 (x9 + 1)) x127000 x127001)) else (none)) else (none)) else (some (-1))
def spec_tiPlace.f (k : Nat) (l0 : List (S_Tile)) (a1_0 : Int) (a1_1 : Int) : Option (Int) := spec_tiPlace.l0 k l0 (l0.length : Int) 0 a1_0 a1_1
set_option maxRecDepth 100000 in
set_option maxHeartbeats 40000000 in
theorem spec_tiPlace.calls (k : Nat) (A0 : Option Addr) (c0 : Nat) (l0 : List (S_Tile)) (a1_0 : Int) (a1_1 : Int) (r : Int) (w : World) (hr0 : Kd.C k55 w A0 l0.length l0) (hc0 : l0.length ≤ c0) (h : spec_tiPlace.f k l0 a1_0 a1_1 = some r) :
    Calls Tryz.prog 75 #[.slice A0 l0.length c0, .agg #[.int .i64 a1_0, .int .i64 a1_1]] w fun e w' => e = .returned (.int .i64 r) ∧ Below w.heap.size w w' := by
  obtain ⟨cs, hcs⟩ : ∃ cs, cs = [old w w.heap.size] := ⟨_, rfl⟩
  have hp : Hp w cs w := by rw [hcs]; exact Hp.old_start w
  have hc2 : ∀ W, Hp w cs W → Below w.heap.size w W := fun W h => by rw [hcs] at h; exact h.since 0 _ rfl
  have hC0 : ∀ W, Hp w cs W → Kd.C k55 W A0 l0.length l0 := fun W h => Kd.C_below hr0 (hc2 W h)
  clear hcs
  unfold spec_tiPlace.f at h
  refine sx_enter (N := 19) (l := [.slice A0 l0.length c0, .agg #[.int .i64 a1_0, .int .i64 a1_1]]) Tryz.func75 rfl rfl rfl ?_
  refine wp_seq ?_
  refine sx_region ?_
  refine sx_box 3 hp #[.int .i64 a1_0, .int .i64 a1_1] 55 (by rfl) (fun W => by kernel_rfl) ?_
  intro g_1 W_2 hp
  refine sx_rd 4 (.int .i64 0) (by rfl) (by kernel_rfl) ?_
  refine sx_nil ?_
  refine ex_then_n ?_
  refine wp_seq ?_
  refine wp_seq ?_
  refine sx_region ?_
  refine sx_rd 7 (.slice A0 l0.length c0) (by rfl) (by kernel_rfl) ?_
  refine sx_rd 8 (.int .i64 (l0.length : Int)) (by rfl) (by kernel_rfl) ?_
  refine sx_rd 9 (.int .i64 0) (by rfl) (by kernel_rfl) ?_
  refine sx_nil ?_
  refine ex_then_n ?_
  refine wp_block ?_
  refine wp_loop_ghost (fun n_ a_ W => ∃ (r_ : List (Nat × Value)) (k_4 : Nat) (x_3 : Int)  , n_ = k_4 + 1 ∧ a_ = fr 19 ([(3, .pointer (some ⟨g_1, 0, none⟩)), (7, .slice A0 l0.length c0), (8, .int .i64 (l0.length : Int)), (9, .int .i64 x_3)] ++ r_) ∧ Hp w (blk g_1 #[.int .i64 a1_0, .int .i64 a1_1] 55 :: cs) W ∧ (spec_tiPlace.l0 k_4 l0 (l0.length : Int) x_3 a1_0 a1_1 = some r) ∧ (k_4 ≤ k)) _ ⟨_, k, 0, rfl, fr_front [(3, .pointer (some ⟨g_1, 0, none⟩)), (7, .slice A0 l0.length c0), (8, .int .i64 (l0.length : Int)), (9, .int .i64 0)] ⟨rfl, rfl, rfl, rfl, trivial⟩, (hp.take [0] 1 (by decide) (by simp)), h, (Nat.le_refl _)⟩ ?_
  rintro _ _ W_6 ⟨r_, k_4, x_3, rfl, rfl, hp, h, hk_5⟩
  rcases k_4 with _ | k_4
  · simp [spec_tiPlace.l0] at h
  simp only [spec_tiPlace.l0] at h
  refine wp_seq ?_
  refine sx_region ?_
  refine sx_rd 10 (.bool (decide (x_3 < (l0.length : Int)))) (by rfl) (by kernel_rfl) ?_
  refine sx_nil ?_
  refine ex_then_n ?_
  refine wp_seq ?_
  by_cases hc_7 : x_3 < (l0.length : Int)
  ·
    rw [if_pos hc_7] at h
    by_cases hc_8 : 0 ≤ x_3
    case neg => rw [if_neg hc_8] at h; cases h
    rw [if_pos hc_8] at h
    by_cases hc_9 : x_3 < (l0.length : Int)
    case neg => rw [if_neg hc_9] at h; cases h
    rw [if_pos hc_9] at h
    refine sx_then (decide (x_3 < (l0.length : Int))) (by rfl) (decide_eq_true hc_7) ?_
    refine wp_skip ?_
    refine ex_then_n ?_
    refine wp_seq ?_
    refine wp_block ?_
    refine wp_seq ?_
    refine sx_region ?_
    refine sx_rd 11 (.int .i64 x_3) (by rfl) (by kernel_rfl) ?_
    refine sx_rd 12 (.pointer (some (adr A0 x_3 2))) (by rfl) (ix_run (d := k55) (hC0 _ hp.tail) (t := 27) (by rfl) (by rfl) (by rfl) Tryz.underlying27 (by kernel_rfl) (by omega) (by omega)) ?_
    refine sx_rd 13 (.agg #[.int .i64 ((rd_Tile l0 x_3).f0), .int .i64 ((rd_Tile l0 x_3).f1)]) (by rfl) (el_run (d := k55) (hC0 _ hp.tail) z55 x_3 (by omega) (by omega) (cells := [.int .i64 ((rd_Tile l0 x_3).f0), .int .i64 ((rd_Tile l0 x_3).f1)]) (fun cs h => k55_open h) 0 [.int .i64 ((rd_Tile l0 x_3).f0), .int .i64 ((rd_Tile l0 x_3).f1)] (by rfl) (t := 55) (p := (.tmp 12)) (by rfl) (by rfl) (by kernel_rfl) (by kernel_rfl)) ?_
    refine sx_box 6 hp #[.int .i64 0, .int .i64 0] 55 (by rfl) (fun W => by kernel_rfl) ?_
    intro g_10 W_11 hp
    refine sx_rd 5 (.int .i64 x_3) (by rfl) (by kernel_rfl) ?_
    refine sx_store (t := 55) (p := (.tmp 6)) (x := (.tmp 13)) (by rfl) (by rfl) 0 (by rfl) 0 [.int .i64 ((rd_Tile l0 x_3).f0), .int .i64 ((rd_Tile l0 x_3).f1)] (by rfl) (by rfl) (by kernel_rfl) (by simp [Value.oneCell']) (by show 2 ≤ 2; omega) #[.int .i64 ((rd_Tile l0 x_3).f0), .int .i64 ((rd_Tile l0 x_3).f1)] (by rfl) hp ?_
    intro W_12 hp; simp only [List.set_cons_succ, List.set_cons_zero] at hp
    refine sx_nil ?_
    refine ex_then_n ?_
    refine wp_seq ?_
    refine sx_region ?_
    refine sx_rd 14 (.agg #[.int .i64 ((rd_Tile l0 x_3).f0), .int .i64 ((rd_Tile l0 x_3).f1)]) (by rfl) (ldn (t := 55) (p := (.tmp 6)) (by rfl) (by rfl) (by kernel_rfl) (by kernel_rfl) (by kernel_rfl) (hp.at_ 0 _ (by rfl))) ?_
    refine sx_rd 15 (.agg #[.int .i64 a1_0, .int .i64 a1_1]) (by rfl) (ldn (t := 55) (p := (.tmp 3)) (by rfl) (by rfl) (by kernel_rfl) (by kernel_rfl) (by kernel_rfl) (hp.at_ 1 _ (by rfl))) ?_
    refine sx_rd 16 (.bool ((rd_Tile l0 x_3).f0 == a1_0 && ((rd_Tile l0 x_3).f1 == a1_1))) (by rfl) (eqagg_run (by rfl) (by rfl) (by rfl) (fun d w => eqA55 d w _ _ _ _) (by kernel_rfl)) ?_
    refine sx_nil ?_
    refine ex_then_n ?_
    by_cases hc_13 : (((rd_Tile l0 x_3).f0) == a1_0 && (((rd_Tile l0 x_3).f1) == a1_1)) = true
    ·
      rw [if_pos hc_13] at h
      refine sx_then ((rd_Tile l0 x_3).f0 == a1_0 && ((rd_Tile l0 x_3).f1 == a1_1)) (by rfl) hc_13 ?_
      refine wp_seq ?_
      refine sx_region ?_
      refine sx_rd 17 (.int .i64 x_3) (by rfl) (by kernel_rfl) ?_
      refine sx_rd 4 (.int .i64 x_3) (by rfl) (by kernel_rfl) ?_
      refine sx_nil ?_
      refine ex_then_n ?_
      refine wp_ret ?_
      refine ex_blk_r (ex_then_r (ex_then_r (ex_blk_r (ex_then_r ?_))))
      refine sx_end (.int .i64 x_3) (res1 4 (by rfl)) ?_
      obtain rfl := Option.some.inj h
      exact ⟨rfl, hc2 _ (hp.tail.tail)⟩
    ·
      rw [if_neg hc_13] at h
      refine sx_else ((rd_Tile l0 x_3).f0 == a1_0 && ((rd_Tile l0 x_3).f1 == a1_1)) (by rfl) (Bool.eq_false_iff.mpr hc_13) ?_
      refine wp_skip ?_
      refine ex_blk_n ?_
      refine ex_then_n ?_
      refine sx_region ?_
      refine sx_rd 18 (.int .i64 (wrap64 (x_3 + 1))) (by rfl) (wr_w (by kernel_rfl)) ?_
      refine sx_rd 9 (.int .i64 (wrap64 (x_3 + 1))) (by rfl) (by kernel_rfl) ?_
      refine sx_nil ?_
      refine ex_then_n ?_
      exact ⟨_, (by omega), _, k_4, (wrap64 (x_3 + 1)), rfl, fr_front [(3, .pointer (some ⟨g_1, 0, none⟩)), (7, .slice A0 l0.length c0), (8, .int .i64 (l0.length : Int)), (9, .int .i64 (wrap64 (x_3 + 1)))] ⟨rfl, rfl, rfl, rfl, trivial⟩, (hp.take [1] 2 (by decide) (by simp)), h, (by omega)⟩
  ·
    rw [if_neg hc_7] at h
    refine sx_else (decide (x_3 < (l0.length : Int))) (by rfl) (decide_eq_false hc_7) ?_
    refine wp_exit ?_
    refine ex_then_e (ex_then_e (ex_blk_here ?_))
    refine ex_then_n ?_
    refine wp_seq ?_
    refine sx_region ?_
    refine sx_rd 4 (.int .i64 (-1)) (by rfl) (by kernel_rfl) ?_
    refine sx_nil ?_
    refine ex_then_n ?_
    refine wp_ret ?_
    refine sx_end (.int .i64 (-1)) (res1 4 (by rfl)) ?_
    obtain rfl := Option.some.inj h
    exact ⟨rfl, hc2 _ (hp.tail)⟩
end
section
open Go.RowKit Go.Proofs.YtokkiiepddhkiaaGreatDoorW.PrintWords Go.Proofs.YtokkiiepddhkiaaGreatDoorW.PrintLast Go.Proofs.YtokkiiepddhkiaaGreatDoorW.PrintMore
attribute [local go_sem] max2_int min2_int max_two min_two max_three min_three max_four min_four   -- for this text's walks alone
set_option linter.unusedVariables false
set_option linter.unusedSimpArgs false

def spec_tiHand.l0 : Nat → List (S_Tile) → List (S_Tile) → Int → Int → Option (Bool)
  | 0, _, _, _, _ => none
  | k + 1, x0, x8, x9, x10 => if x10 < x9 then (if 0 ≤ x10 then (if x10 < (x8.length : Int) then ((spec_tiGood.f ((rd_Tile x8 x10).f0) ((rd_Tile x8 x10).f1)).bind fun t131 => (if t131 = true then (if x10 ≤ (x0.length : Int) then ((spec_tiPlace.f k (x0.take (x10 : Int).toNat) ((rd_Tile x8 x10).f0) ((rd_Tile x8 x10).f1)).bind fun t136 => (if t136 ≥ 0 then (some false) else (spec_tiHand.l0 k x0 x8 x9 (wrap64 (x10 + 1))))) else (none)) else (some false))) else (none)) else (none)) else (some true)
def spec_tiHand.f (k : Nat) (l0 : List (S_Tile)) : Option (Bool) := if (l0.length : Int) > 55 then (some false) else (spec_tiHand.l0 k l0 l0 (l0.length : Int) 0)
set_option maxRecDepth 100000 in
set_option maxHeartbeats 40000000 in
theorem spec_tiHand.calls (k : Nat) (A0 : Option Addr) (c0 : Nat) (l0 : List (S_Tile)) (r : Bool) (w : World) (hr0 : Kd.C k55 w A0 l0.length l0) (hc0 : l0.length ≤ c0) (h : spec_tiHand.f k l0 = some r) :
    Calls Tryz.prog 46 #[.slice A0 l0.length c0] w fun e w' => e = .returned (.bool r) ∧ Below w.heap.size w w' := by
  obtain ⟨cs, hcs⟩ : ∃ cs, cs = [old w w.heap.size] := ⟨_, rfl⟩
  have hp : Hp w cs w := by rw [hcs]; exact Hp.old_start w
  have hc2 : ∀ W, Hp w cs W → Below w.heap.size w W := fun W h => by rw [hcs] at h; exact h.since 0 _ rfl
  have hC0 : ∀ W, Hp w cs W → Kd.C k55 W A0 l0.length l0 := fun W h => Kd.C_below hr0 (hc2 W h)
  clear hcs
  unfold spec_tiHand.f at h
  refine sx_enter (N := 27) (l := [.slice A0 l0.length c0]) Tryz.func46 rfl rfl rfl ?_
  refine wp_seq ?_
  refine sx_region ?_
  refine sx_rd 2 (.bool false) (by rfl) (by kernel_rfl) ?_
  refine sx_nil ?_
  refine ex_then_n ?_
  refine wp_seq ?_
  refine wp_seq ?_
  refine sx_region ?_
  refine sx_rd 5 (.slice A0 l0.length c0) (by rfl) (by kernel_rfl) ?_
  refine sx_rd 6 (.int .i64 (l0.length : Int)) (by rfl) (by kernel_rfl) ?_
  refine sx_rd 7 (.bool (decide ((l0.length : Int) > 55))) (by rfl) (by kernel_rfl) ?_
  refine sx_nil ?_
  refine ex_then_n ?_
  by_cases hc_1 : (l0.length : Int) > 55
  ·
    rw [if_pos hc_1] at h
    refine sx_then (decide ((l0.length : Int) > 55)) (by rfl) (decide_eq_true hc_1) ?_
    refine wp_seq ?_
    refine sx_region ?_
    refine sx_rd 2 (.bool false) (by rfl) (by kernel_rfl) ?_
    refine sx_nil ?_
    refine ex_then_n ?_
    refine wp_ret ?_
    refine ex_then_r ?_
    refine sx_end (.bool false) (res1 2 (by rfl)) ?_
    obtain rfl := Option.some.inj h
    exact ⟨rfl, hc2 _ (hp)⟩
  ·
    rw [if_neg hc_1] at h
    refine sx_else (decide ((l0.length : Int) > 55)) (by rfl) (decide_eq_false hc_1) ?_
    refine wp_skip ?_
    refine ex_then_n ?_
    refine wp_seq ?_
    refine wp_seq ?_
    refine sx_region ?_
    refine sx_rd 8 (.slice A0 l0.length c0) (by rfl) (by kernel_rfl) ?_
    refine sx_rd 9 (.int .i64 (l0.length : Int)) (by rfl) (by kernel_rfl) ?_
    refine sx_rd 10 (.int .i64 0) (by rfl) (by kernel_rfl) ?_
    refine sx_nil ?_
    refine ex_then_n ?_
    refine wp_block ?_
    refine wp_loop_ghost (fun n_ a_ W => ∃ (r_ : List (Nat × Value)) (k_3 : Nat) (x_2 : Int)  , n_ = k_3 + 1 ∧ a_ = fr 27 ([(0, .slice A0 l0.length c0), (8, .slice A0 l0.length c0), (9, .int .i64 (l0.length : Int)), (10, .int .i64 x_2)] ++ r_) ∧ Hp w (cs) W ∧ (spec_tiHand.l0 k_3 l0 l0 (l0.length : Int) x_2 = some r) ∧ (k_3 ≤ k)) _ ⟨_, k, 0, rfl, fr_front [(0, .slice A0 l0.length c0), (8, .slice A0 l0.length c0), (9, .int .i64 (l0.length : Int)), (10, .int .i64 0)] ⟨rfl, rfl, rfl, rfl, trivial⟩, (hp.take [] 0 (by decide) (by simp)), h, (Nat.le_refl _)⟩ ?_
    rintro _ _ W_5 ⟨r_, k_3, x_2, rfl, rfl, hp, h, hk_4⟩
    rcases k_3 with _ | k_3
    · simp [spec_tiHand.l0] at h
    simp only [spec_tiHand.l0] at h
    refine wp_seq ?_
    refine sx_region ?_
    refine sx_rd 11 (.bool (decide (x_2 < (l0.length : Int)))) (by rfl) (by kernel_rfl) ?_
    refine sx_nil ?_
    refine ex_then_n ?_
    refine wp_seq ?_
    by_cases hc_6 : x_2 < (l0.length : Int)
    ·
      rw [if_pos hc_6] at h
      by_cases hc_7 : 0 ≤ x_2
      case neg => rw [if_neg hc_7] at h; cases h
      rw [if_pos hc_7] at h
      by_cases hc_8 : x_2 < (l0.length : Int)
      case neg => rw [if_neg hc_8] at h; cases h
      rw [if_pos hc_8] at h
      obtain ⟨t_10, hv_9, h⟩ := Option.bind_eq_some_iff.mp h
      try dsimp only at h
      refine sx_then (decide (x_2 < (l0.length : Int))) (by rfl) (decide_eq_true hc_6) ?_
      refine wp_skip ?_
      refine ex_then_n ?_
      refine wp_seq ?_
      refine wp_block ?_
      refine wp_seq ?_
      refine sx_region ?_
      refine sx_rd 12 (.int .i64 x_2) (by rfl) (by kernel_rfl) ?_
      refine sx_rd 13 (.pointer (some (adr A0 x_2 2))) (by rfl) (ix_run (d := k55) (hC0 _ hp) (t := 27) (by rfl) (by rfl) (by rfl) Tryz.underlying27 (by kernel_rfl) (by omega) (by omega)) ?_
      refine sx_rd 14 (.agg #[.int .i64 ((rd_Tile l0 x_2).f0), .int .i64 ((rd_Tile l0 x_2).f1)]) (by rfl) (el_run (d := k55) (hC0 _ hp) z55 x_2 (by omega) (by omega) (cells := [.int .i64 ((rd_Tile l0 x_2).f0), .int .i64 ((rd_Tile l0 x_2).f1)]) (fun cs h => k55_open h) 0 [.int .i64 ((rd_Tile l0 x_2).f0), .int .i64 ((rd_Tile l0 x_2).f1)] (by rfl) (t := 55) (p := (.tmp 13)) (by rfl) (by rfl) (by kernel_rfl) (by kernel_rfl)) ?_
      refine sx_box 4 hp #[.int .i64 0, .int .i64 0] 55 (by rfl) (fun W => by kernel_rfl) ?_
      intro g_11 W_12 hp
      refine sx_rd 3 (.int .i64 x_2) (by rfl) (by kernel_rfl) ?_
      refine sx_store (t := 55) (p := (.tmp 4)) (x := (.tmp 14)) (by rfl) (by rfl) 0 (by rfl) 0 [.int .i64 ((rd_Tile l0 x_2).f0), .int .i64 ((rd_Tile l0 x_2).f1)] (by rfl) (by rfl) (by kernel_rfl) (by simp [Value.oneCell']) (by show 2 ≤ 2; omega) #[.int .i64 ((rd_Tile l0 x_2).f0), .int .i64 ((rd_Tile l0 x_2).f1)] (by rfl) hp ?_
      intro W_13 hp; simp only [List.set_cons_succ, List.set_cons_zero] at hp
      refine sx_nil ?_
      refine ex_then_n ?_
      refine wp_seq ?_
      by_cases hc_14 : t_10 = true
      ·
        rw [if_pos hc_14] at h
        by_cases hc_15 : x_2 ≤ (l0.length : Int)
        case neg => rw [if_neg hc_15] at h; cases h
        rw [if_pos hc_15] at h
        obtain ⟨t_17, hv_16, h⟩ := Option.bind_eq_some_iff.mp h
        try dsimp only at h
        refine sx_drawT [] (.rd 0 (.alt 1 (.rd 2 (.rd 3 (.rd 4 (.rd 5 (.rd 7 (.alt 6 (.alt 8 (.rd 9 (.rd 10 (.fin))) .non) .non)))))) .non)) 11 (C := Hp w (blk g_11 #[.int .i64 ((rd_Tile l0 x_2).f0), .int .i64 ((rd_Tile l0 x_2).f1)] 55 :: cs)) (by kernel_rfl) (by kernel_rfl) (fun d _ _ _ _ h => by cases d <;> exact h) (fun W h => h.drew) hp ?_
        refine preI_nil ?_
        intro W_18 hp
        refine treeI_rd rfl ?_
        refine sxq_val 15 (.agg #[.int .i64 ((rd_Tile l0 x_2).f0), .int .i64 ((rd_Tile l0 x_2).f1)]) (by rfl) (fun W hp => (ldn (t := 55) (p := (.tmp 4)) (by rfl) (by rfl) (by kernel_rfl) (by kernel_rfl) (by kernel_rfl) (hp.at_ 0 _ (by rfl)))) ?_
        refine sxq_nil ?_
        refine treeI_ev rfl ?_
        refine sx_call 16 (by rfl) (by kernel_rfl) ((spec_tiGood.calls ((rd_Tile l0 x_2).f0) ((rd_Tile l0 x_2).f1) _ _ hv_9).mono ?_)
        rintro _ W_19 ⟨rfl, hb⟩
        refine ⟨_, rfl, ?_⟩
        replace hp := hp.below hb
        clear hb
        refine step_fin hp ?_
        refine treeI_rd rfl ?_
        refine sxq_val 17 (.bool false) (by rfl) (fun W hp => (bv (show (!t_10) = false from by rw [hc_14]; rfl) (by kernel_rfl))) ?_
        refine sxq_nil ?_
        refine treeI_rd rfl ?_
        refine sxq_val 18 (.bool false) (by rfl) (fun W hp => (by kernel_rfl)) ?_
        refine sxq_nil ?_
        refine treeI_rd rfl ?_
        refine sxq_want (by rfl) ?_
        refine sxq_val 19 (.slice A0 l0.length c0) (by rfl) (fun W hp => (by kernel_rfl)) ?_
        refine sxq_nil ?_
        refine treeI_rd rfl ?_
        refine sxq_want (by rfl) ?_
        refine sxq_val 20 (.int .i64 x_2) (by rfl) (fun W hp => (by kernel_rfl)) ?_
        refine sxq_nil ?_
        refine treeI_rd rfl ?_
        refine sxq_want (by rfl) ?_
        refine sxq_val 22 (.agg #[.int .i64 ((rd_Tile l0 x_2).f0), .int .i64 ((rd_Tile l0 x_2).f1)]) (by rfl) (fun W hp => (ldn (t := 55) (p := (.tmp 4)) (by rfl) (by rfl) (by kernel_rfl) (by kernel_rfl) (by kernel_rfl) (hp.at_ 0 _ (by rfl)))) ?_
        refine sxq_nil ?_
        refine treeI_ev rfl ?_
        refine sx_want (by rfl) ?_
        have hcap_20 : l0.length ≤ c0 := hc0
        refine sx_rd 21 (.slice A0 ((l0.take (x_2).toNat).length) c0) (by rfl) (sl_hi (x_2).toNat (sz := 2) (xs := l0) (by rfl) (by rfl) (by rfl) (by omega) Tryz.underlying27 (by kernel_rfl) (by omega) hcap_20) ?_
        refine step_fin hp ?_
        refine treeI_ev rfl ?_
        refine sx_want (by rfl) ?_
        refine sx_call 23 (by rfl) (by kernel_rfl) ((spec_tiPlace.calls _ A0 c0 (l0.take (x_2).toNat) ((rd_Tile l0 x_2).f0) ((rd_Tile l0 x_2).f1) _ _ (Kd.C_take (hC0 _ hp.tail) (by omega)) (show (l0.take (x_2).toNat).length ≤ c0 by simp; omega) hv_16).mono ?_)
        rintro _ W_21 ⟨rfl, hb⟩
        refine ⟨_, rfl, ?_⟩
        replace hp := hp.below hb
        clear hb
        refine step_fin hp ?_
        refine treeI_rd rfl ?_
        refine sxq_want (by rfl) ?_
        refine sxq_val 24 (.bool (decide (t_17 ≥ 0))) (by rfl) (fun W hp => (by kernel_rfl)) ?_
        refine sxq_nil ?_
        refine treeI_rd rfl ?_
        refine sxq_val 25 (.bool (decide (t_17 ≥ 0))) (by rfl) (fun W hp => (by kernel_rfl)) ?_
        refine sxq_nil ?_
        refine treeI_fin ?_
        refine sx_nil ?_
        refine ex_then_n ?_
        by_cases hc_22 : t_17 ≥ 0
        ·
          rw [if_pos hc_22] at h
          refine sx_then (decide (t_17 ≥ 0)) (by rfl) (decide_eq_true hc_22) ?_
          refine wp_seq ?_
          refine sx_region ?_
          refine sx_rd 2 (.bool false) (by rfl) (by kernel_rfl) ?_
          refine sx_nil ?_
          refine ex_then_n ?_
          refine wp_ret ?_
          refine ex_blk_r (ex_then_r (ex_then_r (ex_blk_r (ex_then_r ?_))))
          refine sx_end (.bool false) (res1 2 (by rfl)) ?_
          obtain rfl := Option.some.inj h
          exact ⟨rfl, hc2 _ (hp.tail)⟩
        ·
          rw [if_neg hc_22] at h
          refine sx_else (decide (t_17 ≥ 0)) (by rfl) (decide_eq_false hc_22) ?_
          refine wp_skip ?_
          refine ex_blk_n ?_
          refine ex_then_n ?_
          refine sx_region ?_
          refine sx_rd 26 (.int .i64 (wrap64 (x_2 + 1))) (by rfl) (wr_w (by kernel_rfl)) ?_
          refine sx_rd 10 (.int .i64 (wrap64 (x_2 + 1))) (by rfl) (by kernel_rfl) ?_
          refine sx_nil ?_
          refine ex_then_n ?_
          exact ⟨_, (by omega), _, k_3, (wrap64 (x_2 + 1)), rfl, fr_front [(0, .slice A0 l0.length c0), (8, .slice A0 l0.length c0), (9, .int .i64 (l0.length : Int)), (10, .int .i64 (wrap64 (x_2 + 1)))] ⟨rfl, rfl, rfl, rfl, trivial⟩, (hp.take [] 1 (by decide) (by simp)), h, (by omega)⟩
      ·
        rw [if_neg hc_14] at h
        refine sx_drawT [] (.rd 0 (.alt 1 (.rd 2 (.rd 3 (.rd 4 (.rd 5 (.rd 7 (.alt 6 (.alt 8 (.rd 9 (.rd 10 (.fin))) .non) .non)))))) .non)) 11 (C := Hp w (blk g_11 #[.int .i64 ((rd_Tile l0 x_2).f0), .int .i64 ((rd_Tile l0 x_2).f1)] 55 :: cs)) (by kernel_rfl) (by kernel_rfl) (fun d _ _ _ _ h => by cases d <;> exact h) (fun W h => h.drew) hp ?_
        refine preI_nil ?_
        intro W_23 hp
        refine treeI_rd rfl ?_
        refine sxq_val 15 (.agg #[.int .i64 ((rd_Tile l0 x_2).f0), .int .i64 ((rd_Tile l0 x_2).f1)]) (by rfl) (fun W hp => (ldn (t := 55) (p := (.tmp 4)) (by rfl) (by rfl) (by kernel_rfl) (by kernel_rfl) (by kernel_rfl) (hp.at_ 0 _ (by rfl)))) ?_
        refine sxq_nil ?_
        refine treeI_ev rfl ?_
        refine sx_call 16 (by rfl) (by kernel_rfl) ((spec_tiGood.calls ((rd_Tile l0 x_2).f0) ((rd_Tile l0 x_2).f1) _ _ hv_9).mono ?_)
        rintro _ W_24 ⟨rfl, hb⟩
        refine ⟨_, rfl, ?_⟩
        replace hp := hp.below hb
        clear hb
        refine step_fin hp ?_
        refine treeI_rd rfl ?_
        refine sxq_val 17 (.bool true) (by rfl) (fun W hp => (bv (show (!t_10) = true from by rw [(Bool.eq_false_iff.mpr hc_14)]; rfl) (by kernel_rfl))) ?_
        refine sxq_nil ?_
        refine treeI_rd rfl ?_
        refine sxq_val 18 (.bool true) (by rfl) (fun W hp => (by kernel_rfl)) ?_
        refine sxq_nil ?_
        refine treeI_rd rfl ?_
        refine sxq_skip 19 (by rfl) (by rfl) (by rfl) ?_
        refine sxq_nil ?_
        refine treeI_rd rfl ?_
        refine sxq_skip 20 (by rfl) (by rfl) (by rfl) ?_
        refine sxq_nil ?_
        refine treeI_rd rfl ?_
        refine sxq_skip 22 (by rfl) (by rfl) (by rfl) ?_
        refine sxq_nil ?_
        refine treeI_ev rfl ?_
        refine sx_skip 21 (by rfl) (by rfl) (by rfl) ?_
        refine step_fin hp ?_
        refine treeI_ev rfl ?_
        refine sx_skip 23 (by rfl) (by rfl) (by rfl) ?_
        refine step_fin hp ?_
        refine treeI_rd rfl ?_
        refine sxq_skip 24 (by rfl) (by rfl) (by rfl) ?_
        refine sxq_nil ?_
        refine treeI_rd rfl ?_
        refine sxq_val 25 (.bool true) (by rfl) (fun W hp => (by kernel_rfl)) ?_
        refine sxq_nil ?_
        refine treeI_fin ?_
        refine sx_nil ?_
        refine ex_then_n ?_
        refine sx_then true (by rfl) rfl ?_
        refine wp_seq ?_
        refine sx_region ?_
        refine sx_rd 2 (.bool false) (by rfl) (by kernel_rfl) ?_
        refine sx_nil ?_
        refine ex_then_n ?_
        refine wp_ret ?_
        refine ex_blk_r (ex_then_r (ex_then_r (ex_blk_r (ex_then_r ?_))))
        refine sx_end (.bool false) (res1 2 (by rfl)) ?_
        obtain rfl := Option.some.inj h
        exact ⟨rfl, hc2 _ (hp.tail)⟩
    ·
      rw [if_neg hc_6] at h
      refine sx_else (decide (x_2 < (l0.length : Int))) (by rfl) (decide_eq_false hc_6) ?_
      refine wp_exit ?_
      refine ex_then_e (ex_then_e (ex_blk_here ?_))
      refine ex_then_n ?_
      refine wp_seq ?_
      refine sx_region ?_
      refine sx_rd 2 (.bool true) (by rfl) (by kernel_rfl) ?_
      refine sx_nil ?_
      refine ex_then_n ?_
      refine wp_ret ?_
      refine sx_end (.bool true) (res1 2 (by rfl)) ?_
      obtain rfl := Option.some.inj h
      exact ⟨rfl, hc2 _ (hp)⟩
end
section
open Go.RowKit Go.Proofs.YtokkiiepddhkiaaGreatDoorW.PrintWords Go.Proofs.YtokkiiepddhkiaaGreatDoorW.PrintLast Go.Proofs.YtokkiiepddhkiaaGreatDoorW.PrintMore
attribute [local go_sem] max2_int min2_int max_two min_two max_three min_three max_four min_four   -- for this text's walks alone
set_option linter.unusedVariables false
set_option linter.unusedSimpArgs false

def spec_tiOf.f (a0 : Int) (a1 : Int) : Option (Int × Int) := (spec_l1Least.f a0 a1).bind fun t148 => ((spec_l1Most.f a0 a1).bind fun t149 => (some (t148, t149)))
set_option maxRecDepth 100000 in
set_option maxHeartbeats 40000000 in
theorem spec_tiOf.calls (a0 : Int) (a1 : Int) (r1 : Int) (r2 : Int) (w : World) (h : spec_tiOf.f a0 a1 = some (r1, r2)) :
    Calls Tryz.prog 73 #[.int .i64 a0, .int .i64 a1] w fun e w' => e = .returned (.agg #[.int .i64 r1, .int .i64 r2]) ∧ Below w.heap.size w w' := by
  obtain ⟨cs, hcs⟩ : ∃ cs, cs = [old w w.heap.size] := ⟨_, rfl⟩
  have hp : Hp w cs w := by rw [hcs]; exact Hp.old_start w
  have hc2 : ∀ W, Hp w cs W → Below w.heap.size w W := fun W h => by rw [hcs] at h; exact h.since 0 _ rfl
  clear hcs
  unfold spec_tiOf.f at h
  obtain ⟨t_2, hv_1, h⟩ := Option.bind_eq_some_iff.mp h
  try dsimp only at h
  obtain ⟨t_4, hv_3, h⟩ := Option.bind_eq_some_iff.mp h
  try dsimp only at h
  refine sx_enter (N := 12) (l := [.int .i64 a0, .int .i64 a1]) Tryz.func73 rfl rfl rfl ?_
  refine wp_seq ?_
  refine sx_region ?_
  refine sx_box 4 hp #[.int .i64 0, .int .i64 0] 55 (by rfl) (fun W => by kernel_rfl) ?_
  intro g_5 W_6 hp
  refine sx_nil ?_
  refine ex_then_n ?_
  refine wp_seq ?_
  refine sx_region ?_
  refine sx_rd 5 (.int .i64 a0) (by rfl) (by kernel_rfl) ?_
  refine sx_rd 6 (.int .i64 a1) (by rfl) (by kernel_rfl) ?_
  refine sx_call 7 (by rfl) (by kernel_rfl) ((spec_l1Least.calls a0 a1 _ _ hv_1).mono ?_)
  rintro _ W_7 ⟨rfl, hb⟩
  refine ⟨_, rfl, ?_⟩
  replace hp := hp.below hb.below
  clear hb
  refine sx_rd 8 (.int .i64 a0) (by rfl) (by kernel_rfl) ?_
  refine sx_rd 9 (.int .i64 a1) (by rfl) (by kernel_rfl) ?_
  refine sx_call 10 (by rfl) (by kernel_rfl) ((spec_l1Most.calls a0 a1 _ _ hv_3).mono ?_)
  rintro _ W_8 ⟨rfl, hb⟩
  refine ⟨_, rfl, ?_⟩
  replace hp := hp.below hb.below
  clear hb
  refine sx_rd 11 (.agg #[.int .i64 t_2, .int .i64 t_4]) (by rfl) (by kernel_rfl) ?_
  refine sx_store (t := 55) (p := (.tmp 4)) (x := (.tmp 11)) (by rfl) (by rfl) 0 (by rfl) 0 [.int .i64 t_2, .int .i64 t_4] (by rfl) (by rfl) (by kernel_rfl) (by simp [Value.oneCell']) (by show 2 ≤ 2; omega) #[.int .i64 t_2, .int .i64 t_4] (by rfl) hp ?_
  intro W_9 hp; simp only [List.set_cons_succ, List.set_cons_zero] at hp
  refine sx_nil ?_
  refine ex_then_n ?_
  refine wp_ret ?_
  refine sx_end (.agg #[.int .i64 t_2, .int .i64 t_4]) (resc (by rfl) (by rfl) (by kernel_rfl) (by kernel_rfl) (hp.at_ 0 _ (by rfl))) ?_
  simp only [Option.some.injEq, Prod.mk.injEq] at h; obtain ⟨rfl, rfl⟩ := h
  exact ⟨rfl, hc2 _ (hp.tail)⟩
end
section
open Go.RowKit Go.Proofs.YtokkiiepddhkiaaGreatDoorW.PrintWords Go.Proofs.YtokkiiepddhkiaaGreatDoorW.PrintLast Go.Proofs.YtokkiiepddhkiaaGreatDoorW.PrintMore
attribute [local go_sem] max2_int min2_int max_two min_two max_three min_three max_four min_four   -- for this text's walks alone
set_option linter.unusedVariables false
set_option linter.unusedSimpArgs false

attribute [local go_sem high] eqA55
end
section
open Go.RowKit Go.Proofs.YtokkiiepddhkiaaGreatDoorW.PrintWords Go.Proofs.YtokkiiepddhkiaaGreatDoorW.PrintLast Go.Proofs.YtokkiiepddhkiaaGreatDoorW.PrintMore
attribute [local go_sem] max2_int min2_int max_two min_two max_three min_three max_four min_four   -- for this text's walks alone
set_option linter.unusedVariables false
set_option linter.unusedSimpArgs false

end
section
open Go.RowKit Go.Proofs.YtokkiiepddhkiaaGreatDoorW.PrintWords Go.Proofs.YtokkiiepddhkiaaGreatDoorW.PrintLast Go.Proofs.YtokkiiepddhkiaaGreatDoorW.PrintMore
attribute [local go_sem] max2_int min2_int max_two min_two max_three min_three max_four min_four   -- for this text's walks alone
set_option linter.unusedVariables false
set_option linter.unusedSimpArgs false

end
section
open Go.RowKit Go.Proofs.YtokkiiepddhkiaaGreatDoorW.PrintWords Go.Proofs.YtokkiiepddhkiaaGreatDoorW.PrintLast Go.Proofs.YtokkiiepddhkiaaGreatDoorW.PrintMore
attribute [local go_sem] max2_int min2_int max_two min_two max_three min_three max_four min_four   -- for this text's walks alone
set_option linter.unusedVariables false
set_option linter.unusedSimpArgs false

def spec_taTiles.l0 : Nat → List (S_Tile) → List Int → Int → Int → Int → Int → List Int → Option ((List (S_Tile)))
  | 0, _, _, _, _, _, _, _ => none
  | k + 1, x5, x9, x10, x11, x293000, x293001, x293002 => if x11 < x10 then (if 0 ≤ x11 then (if x11 < (x9.length : Int) then ((spec_taOther.f k x293000 x293001 x293002 x11 (rd x9 x11)).bind fun t294 => (if t294 > x11 then (if x11 < (x293002.length : Int) then (if 0 ≤ t294 then (if t294 < (x293002.length : Int) then ((spec_tiOf.f (rd x293002 x11) (rd x293002 t294)).bind fun bt297 => (if x5.length < 8796093022208 then (spec_taTiles.l0 k (x5 ++ [(⟨bt297.1, bt297.2⟩ : S_Tile)]) x9 x10 (wrap64 (x11 + 1)) x293000 x293001 x293002) else (none))) else (none)) else (none)) else (none)) else (spec_taTiles.l0 k x5 x9 x10 (wrap64 (x11 + 1)) x293000 x293001 x293002))) else (none)) else (none)) else (some x5)
def spec_taTiles.f (k : Nat) (a0_0 : Int) (a0_1 : Int) (l0_2 : List Int) (l1 : List Int) : Option ((List (S_Tile))) := spec_taTiles.l0 k ([] : List (S_Tile)) l1 (l1.length : Int) 0 a0_0 a0_1 l0_2
def spec_taTiles.T7 : Bool × List (List Nat × List Nat) := (true, [([], []), ([], []), ([1], [1]), ([], []), ([2, 3], [2, 3]), ([4], [4]), ([], []), ([6], [6]), ([], []), ([7, 8], [7, 8]), ([9], [9]), ([5, 10], [5, 10]), ([11], [11]), ([0, 12, 11], [0, 12]), ([13, 13, 0, 1, 2, 3, 4, 5, 6, 7, 8, 9, 10, 11, 12, 13], [0, 13])])
def spec_taTiles.B7 : List Nat := [0, 0, 2, 0, 14, 30, 0, 64, 0, 448, 960, 2046, 4094, 8191, 16383]
theorem spec_taTiles.tab7 : rtab .any (opsOf Tryz.f45 7) = spec_taTiles.T7 := by kernel_rfl
theorem spec_taTiles.bits7 : waitsOk spec_taTiles.T7.2 spec_taTiles.B7 = true := by kernel_rfl
set_option maxHeartbeats 8000000 in
set_option maxRecDepth 100000 in
theorem spec_taTiles.calls (k : Nat) (a0_0 : Int) (a0_1 : Int) (A0_2 : Option Addr) (c0_2 : Nat) (l0_2 : List Int) (A1 : Option Addr) (c1 : Nat) (l1 : List Int) (r : List (S_Tile)) (w : World) (hr0_2 : Kd.C (Kd.int .i64) w A0_2 l0_2.length l0_2) (hc0_2 : l0_2.length ≤ c0_2) (hr1 : Kd.C (Kd.int .u8) w A1 l1.length l1) (hc1 : l1.length ≤ c1) (h : spec_taTiles.f k a0_0 a0_1 l0_2 l1 = some r) :
    Calls Tryz.prog 45 #[.agg #[.int .i64 a0_0, .int .i64 a0_1, .slice A0_2 l0_2.length c0_2], .slice A1 l1.length c1] w fun e w' => ∃ v0_ : Value, e = .returned (v0_) ∧ Kd.R k55 55 w' w.heap.size (fun _ => True) v0_ r ∧ Below w.heap.size w w' := by
  have hu44 := Tryz.underlying44
  have HR0_2 := Aside0.mk hr0_2
  have HC0_2 := Aside0.mk hc0_2
  clear hr0_2 hc0_2
  have HR1 := Aside0.mk hr1
  have HC1 := Aside0.mk hc1
  clear hr1 hc1
  have HB := Aside0.mk (Below.refl w.heap.size w)
  have H : (spec_taTiles.l0 k ([] : List (S_Tile)) l1 (l1.length : Int) 0 a0_0 a0_1 l0_2) = some r := h
  clear h
  have H' := Aside0.mk H
  clear H
  go_enter Tryz.func45, Tryz.ntmps45
  go_wp2_with (first | ((with_reducible refine gate_dst (N := 2) rfl ?_); refine box_event ?hg (N := 2) ?hd (cs := #[.int .i64 a0_0, .int .i64 a0_1, .slice A0_2 l0_2.length c0_2]) (t := 44) ?hr ?_; (case hd => rfl); (case hg => rfl); (case hr => first | (go_simp; done) | (go_simp; rfl)); intro gb292 hg w3 hbox hb; have n0_ := Aside0.mk (below_step (by repeat (first | (with_reducible first | exact HB.out | apply below_alloc | apply pw_below_drewN | apply below_drew1) | exact HB.out)) hb); have n1_ := Aside0.mk (hbox); have n2_ := Aside0.mk ((by rw [hg]; exact (below_size (by repeat (first | (with_reducible first | exact HB.out | apply below_alloc | apply pw_below_drewN | apply below_drew1) | exact HB.out))) : w.heap.size ≤ gb292)); have n3_ := Aside0.mk ((by rw [hg]; exact (below_size (by repeat (first | (with_reducible first | exact HB.out | apply below_alloc | apply pw_below_drewN | apply below_drew1) | exact HB.out))) : w.heap.size ≤ gb292)); clear HB; have HB := n0_; have BK292 := n1_; have GW292 := n2_; have GE292 := n3_; clear n0_ n1_ n2_ n3_; clear hb hbox hg))
  go_loopg [5, 11] k (fun kq v5 v11 w' => ∃ (x5_1 : List (S_Tile)) (x11_1 : Int), v11 = .int .i64 x11_1 ∧ Aside0 (spec_taTiles.l0 kq x5_1 l1 (l1.length : Int) x11_1 a0_0 a0_1 l0_2 = some r) ∧ Aside0 (kq ≤ k) ∧ Aside0 (Kd.R k55 55 w' w.heap.size (fun _ => True) v5 x5_1) ∧ Aside0 (w'.heap[gb292]? = some (.cells #[.int .i64 a0_0, .int .i64 a0_1, (.slice A0_2 l0_2.length c0_2)] 44 (0, 0))) ∧ Aside0 (Below w.heap.size w w'))
  case atStart => exact ⟨(([] : List (S_Tile))), (0), (by first | rfl | (simp; done) | (simp [*]; done)), H', ⟨Nat.le_refl _⟩, ⟨by first | exact Kd.R_nil _ _ _ _ _ | exact Kd.N_nil _ _ _ _ _ | exact Kd.V_nil _ _ _ _ _ | exact Kd.Q_nil _ _ _ _ _ | exact Kd.S_nil _ _ _ _ _⟩, ⟨by (with_reducible repeat (first | refine blk_drewN ?_ _ | refine blk_drew ?_ | refine blk_alloc ?_ _)); exact BK292.out⟩, ⟨by repeat (first | (with_reducible first | exact HB.out | apply below_alloc | apply pw_below_drewN | apply below_drew1 | refine below_set ?_ GE292.out) | exact HB.out)⟩⟩
  case round =>
    clear H'
    try clear c1
    try clear p2
    obtain ⟨x5_1, x11_1, rfl, HA, HK1, HO_5, BK292, HB⟩ := hrel
    cases gk with
    | zero => exact absurd HA.out (by simp [spec_taTiles.l0])
    | succ k1 =>
      have H := HA.out
      clear HA
      simp only [spec_taTiles.l0] at H
      by_cases c4 : x11_1 < (l1.length : Int)
      · rw [if_pos c4] at H
        have c4b0 : decide (x11_1 < (l1.length : Int)) = true := decide_eq_true c4
        clear c4
        by_cases c5 : 0 ≤ x11_1
        · rw [if_pos c5] at H
          have c5b0 : decide (0 ≤ x11_1) = true := decide_eq_true c5
          clear c5
          by_cases c6 : x11_1 < (l1.length : Int)
          · rw [if_pos c6] at H
            have c6b0 : decide (x11_1 < (l1.length : Int)) = true := decide_eq_true c6
            clear c6
            replace H := Option.bind_eq_some_iff.mp H
            obtain ⟨t294, A70, H⟩ := H
            replace H : (if t294 > x11_1 then (if x11_1 < (l0_2.length : Int) then (if 0 ≤ t294 then (if t294 < (l0_2.length : Int) then ((spec_tiOf.f (rd l0_2 x11_1) (rd l0_2 t294)).bind fun bt297 => (if x5_1.length < 8796093022208 then (spec_taTiles.l0 k1 (x5_1 ++ [(⟨bt297.1, bt297.2⟩ : S_Tile)]) l1 (l1.length : Int) (wrap64 (x11_1 + 1)) a0_0 a0_1 l0_2) else (none))) else (none)) else (none)) else (none)) else (spec_taTiles.l0 k1 x5_1 l1 (l1.length : Int) (wrap64 (x11_1 + 1)) a0_0 a0_1 l0_2)) = some r := H
            have A7 := Aside0.mk A70
            clear A70
            by_cases c8 : t294 > x11_1
            · rw [if_pos c8] at H
              have c8b0 : decide (x11_1 < t294) = true := decide_eq_true c8
              clear c8
              by_cases c9 : x11_1 < (l0_2.length : Int)
              · rw [if_pos c9] at H
                have c9b0 : decide (x11_1 < (l0_2.length : Int)) = true := decide_eq_true c9
                clear c9
                by_cases c10 : 0 ≤ t294
                · rw [if_pos c10] at H
                  have c10b0 : decide (0 ≤ t294) = true := decide_eq_true c10
                  clear c10
                  by_cases c11 : t294 < (l0_2.length : Int)
                  · rw [if_pos c11] at H
                    have c11b0 : decide (t294 < (l0_2.length : Int)) = true := decide_eq_true c11
                    clear c11
                    replace H := Option.bind_eq_some_iff.mp H
                    obtain ⟨⟨t297, t298⟩, A120, H⟩ := H
                    replace H : (if x5_1.length < 8796093022208 then (spec_taTiles.l0 k1 (x5_1 ++ [(⟨t297, t298⟩ : S_Tile)]) l1 (l1.length : Int) (wrap64 (x11_1 + 1)) a0_0 a0_1 l0_2) else (none)) = some r := H
                    have A12 := Aside0.mk A120
                    clear A120
                    by_cases c13 : x5_1.length < 8796093022208
                    · rw [if_pos c13] at H
                      have LMc13 := Aside0.mk c13
                      clear c13
                      obtain ⟨y299, hy299⟩ : ∃ y_ : List (S_Tile), y_ = (x5_1 ++ [(⟨t297, t298⟩ : S_Tile)]) := ⟨_, rfl⟩
                      replace H : (spec_taTiles.l0 k1 y299 l1 (l1.length : Int) (wrap64 (x11_1 + 1)) a0_0 a0_1 l0_2) = some r := by first | (rw [hy299]; with_reducible exact H) | (have H2_ := (Option.bind_some _ _).symm.trans H; rw [hy299]; with_reducible exact H2_) | (have H2_ := (Option.bind_some _ _).symm.trans H; with_reducible exact H2_) | with_reducible exact H | (rw [hy299]; exact H) | exact H
                      have Ny299 := Aside0.mk hy299
                      clear hy299
                      have H' := Aside0.mk H
                      clear H
                      have p293 : 0 ≤ (x11_1 : Int) := of_decide_eq_true (by first | (with_reducible assumption) | assumption)
                      have q293 : x11_1 < (l1.length : Int) := of_decide_eq_true (by first | (with_reducible assumption) | assumption)
                      obtain ⟨ad293, e293, hx293_0⟩ := Kd.at_int HR1.out x11_1 p293 q293
                      cases e293
                      replace hx293_0 := (HB.out.cell (World.block_lt_of_cell? w _ hx293_0)).trans hx293_0
                      replace p293 := eq_true p293
                      replace q293 := eq_true q293
                      have hcz14_0 : wr.cell? ⟨gb292, 0, none⟩ = some (.int .i64 a0_0) := (blk_cell BK292.out 0).trans rfl
                      have hcz14_1 : wr.cell? ⟨gb292, 1, none⟩ = some (.int .i64 a0_1) := (blk_cell BK292.out 1).trans rfl
                      have hcz14_2 : wr.cell? ⟨gb292, 2, none⟩ = some (.slice A0_2 l0_2.length c0_2) := (blk_cell BK292.out 2).trans rfl
                      have hfz14_0 := blk_frozen BK292.out 0
                      have hfz14_1 := blk_frozen BK292.out 1
                      have hfz14_2 := blk_frozen BK292.out 2
                      try go_wp2_with (first | ((with_reducible refine gate_callee (f := 31) rfl ?_); refine goesL_ (some 19) rfl rfl Tryz.func31 (by kernel_rfl) rfl #[.agg #[.int .i64 a0_0, .int .i64 a0_1, .slice A0_2 l0_2.length c0_2], .int .i64 x11_1, .int .u8 (rd l1 x11_1)] rfl (by (try simp only [List.map_toArray, List.map_cons, List.map_nil]); first | done | rfl | (simp only [List.length_drop, List.length_take]; rfl)) ?_; (with_reducible refine (spec_taOther.calls k1 a0_0 a0_1 _ _ l0_2 x11_1 (rd l1 x11_1) t294 _ ?side1 ?side2 A7.out).mono ?_); (case side1 => repeat (first | exact (Kd.C_below HR0_2.out HB.out) | (with_reducible refine Kd.C_alloc ?_ _) | (with_reducible refine Kd.C_drewN ?_ _) | (with_reducible refine Kd.C_drew ?_))); (case side2 => exact HC0_2.out); rintro e w15 ⟨rfl, hb⟩; refine ⟨_, rfl, ?_⟩; have n0_ := Aside0.mk (Kd.R_below (by (with_reducible repeat (first | apply Kd.R_alloc | apply Kd.R_drewN | apply Kd.R_drew)); exact HO_5.out) hb); have n1_ := Aside0.mk (blk_below (g := gb292) (o := .cells #[.int .i64 a0_0, .int .i64 a0_1, .slice A0_2 l0_2.length c0_2] 44 (0, 0)) (by (with_reducible repeat (first | refine blk_drewN ?_ _ | refine blk_drew ?_ | refine blk_alloc ?_ _)); exact BK292.out) hb); have n2_ := Aside0.mk (below_step (by repeat (first | (with_reducible first | exact HB.out | apply below_alloc | apply pw_below_drewN | apply below_drew1 | refine below_set ?_ GE292.out) | exact HB.out)) hb); clear HO_5; clear BK292; clear HB; have HO_5 := n0_; have BK292 := n1_; have HB := n2_; clear n0_ n1_ n2_; (try clear hb); (try clear hb2); (try clear hk); (try clear hi)))
                      have n0_ := Aside0.mk (Kd.R_drew HO_5.out)
                      have n1_ := Aside0.mk (blk_drew BK292.out)
                      have n2_ := Aside0.mk (below_drew1 HB.out)
                      clear HO_5
                      clear BK292
                      clear HB
                      have HO_5 := n0_
                      have BK292 := n1_
                      have HB := n2_
                      clear n0_ n1_ n2_
                      have p295 : 0 ≤ (x11_1 : Int) := of_decide_eq_true (by first | (with_reducible assumption) | assumption)
                      have q295 : x11_1 < (l0_2.length : Int) := of_decide_eq_true (by first | (with_reducible assumption) | assumption)
                      obtain ⟨ad295, e295, hx295_0⟩ := Kd.at_int HR0_2.out x11_1 p295 q295
                      have hw295_0 := hx295_0
                      cases e295
                      replace hx295_0 := (HB.out.cell (World.block_lt_of_cell? w _ hx295_0)).trans hx295_0
                      replace p295 := eq_true p295
                      replace q295 := eq_true q295
                      have p296 : 0 ≤ (t294 : Int) := of_decide_eq_true (by first | (with_reducible assumption) | assumption)
                      have q296 : t294 < (l0_2.length : Int) := of_decide_eq_true (by first | (with_reducible assumption) | assumption)
                      obtain ⟨ad296, e296, hx296_0⟩ := Kd.at_int HR0_2.out t294 p296 q296
                      have hw296_0 := hx296_0
                      obtain rfl : ad295 = ad296 := (by injection e296)
                      replace hx296_0 := (HB.out.cell (World.block_lt_of_cell? w _ hx296_0)).trans hx296_0
                      replace p296 := eq_true p296
                      replace q296 := eq_true q296
                      refine start_ (n := 15) (S := fun w' => w'.cell? ⟨gb292, 0, none⟩ = some (.int .i64 a0_0) ∧ w'.cell? ⟨gb292, 1, none⟩ = some (.int .i64 a0_1) ∧ w'.cell? ⟨gb292, 2, none⟩ = some (.slice (some ad295) l0_2.length c0_2) ∧ w'.cell? (ad295.add (x11_1).toNat) = some (.int .i64 (rd l0_2 x11_1)) ∧ w'.cell? (ad295.add (t294).toNat) = some (.int .i64 (rd l0_2 t294))) (ds := []) #[false, false, false, false, false, false, false, false, false, false, false, false, false, false, false] (by kernel_rfl) rfl rfl ⟨(blk_cell BK292.out 0).trans rfl, (blk_cell BK292.out 1).trans rfl, (blk_cell BK292.out 2).trans rfl, ((HB.out.cell (World.block_lt_of_cell? w _ hw295_0)).trans hw295_0), ((HB.out.cell (World.block_lt_of_cell? w _ hw296_0)).trans hw296_0)⟩ (fun hHeld => ?_); refine with_tabW spec_taTiles.tab7 spec_taTiles.bits7 (fun HT_ HW_ => ?_)
                      generalize w15.drew = w16 at HO_5 BK292 HB hx295_0 hx296_0 hHeld ⊢
                      refine pure_ (i := 0) (N := some 23) (v := ?_) (a' := ?_) #[true, false, false, false, false, false, false, false, false, false, false, false, false, false, false] rfl rfl (any_of HT_.out (by kernel_rfl)) (fun _ _ _ h => h) (Or.inl ⟨by rfl, ?_⟩) ?_ ?_
                      rotate_left
                      · intro w'
                        go_simp
                        with_reducible rfl
                      rotate_left
                      · simp only [Act.put, List.setIfInBounds_toArray, List.set_cons_zero, List.set_cons_succ, i64_w, i32_w]
                        rfl
                      refine pure_ (i := 1) (N := some 24) (v := ?_) (a' := ?_) #[true, true, false, false, false, false, false, false, false, false, false, false, false, false, false] rfl rfl (any_of HT_.out (by kernel_rfl)) (fun _ _ _ h => h) (Or.inl ⟨by rfl, ?_⟩) ?_ ?_
                      rotate_left
                      · intro w'
                        go_simp
                        with_reducible rfl
                      rotate_left
                      · simp only [Act.put, List.setIfInBounds_toArray, List.set_cons_zero, List.set_cons_succ, i64_w, i32_w]
                        rfl
                      refine pure_ (i := 3) (N := some 26) (v := ?_) (a' := ?_) #[true, true, false, true, false, false, false, false, false, false, false, false, false, false, false] rfl rfl (any_of HT_.out (by kernel_rfl)) (fun _ _ _ h => h) (Or.inl ⟨by rfl, ?_⟩) ?_ ?_
                      rotate_left
                      · intro w'
                        go_simp
                        with_reducible rfl
                      rotate_left
                      · simp only [Act.put, List.setIfInBounds_toArray, List.set_cons_zero, List.set_cons_succ, i64_w, i32_w]
                        rfl
                      refine pure_ (i := 6) (N := some 29) (v := ?_) (a' := ?_) #[true, true, false, true, false, false, true, false, false, false, false, false, false, false, false] rfl rfl (any_of HT_.out (by kernel_rfl)) (fun _ _ _ h => h) (Or.inl ⟨by rfl, ?_⟩) ?_ ?_
                      rotate_left
                      · intro w'
                        go_simp
                        with_reducible rfl
                      rotate_left
                      · simp only [Act.put, List.setIfInBounds_toArray, List.set_cons_zero, List.set_cons_succ, i64_w, i32_w]
                        rfl
                      refine pure_ (i := 8) (N := some 31) (v := ?_) (a' := ?_) #[true, true, false, true, false, false, true, false, true, false, false, false, false, false, false] rfl rfl (any_of HT_.out (by kernel_rfl)) (fun _ _ _ h => h) (Or.inl ⟨by rfl, ?_⟩) ?_ ?_
                      rotate_left
                      · intro w'
                        go_simp
                        with_reducible rfl
                      rotate_left
                      · simp only [Act.put, List.setIfInBounds_toArray, List.set_cons_zero, List.set_cons_succ, i64_w, i32_w]
                        rfl
                      refine take_ (i := 2) (N := some 25) (v := ?_) (a' := ?_) #[true, true, true, true, false, false, true, false, true, false, false, false, false, false, false] rfl rfl (take_ofW HT_.out HW_.out (by kernel_rfl)) (fun _ _ _ h => h) (Or.inl ⟨by rfl, ?_⟩) hHeld ?_ ?_
                      rotate_left
                      · rintro w' ⟨s0, s1, s2, s3, s4⟩
                        go_simp
                        with_reducible rfl
                      rotate_left
                      · simp only [Act.put, List.setIfInBounds_toArray, List.set_cons_zero, List.set_cons_succ, i64_w, i32_w]
                        rfl
                      refine pure_ (i := 4) (N := some 27) (v := ?_) (a' := ?_) #[true, true, true, true, true, false, true, false, true, false, false, false, false, false, false] rfl rfl (any_of HT_.out (by kernel_rfl)) (fun _ _ _ h => h) (Or.inl ⟨by rfl, ?_⟩) ?_ ?_
                      rotate_left
                      · intro w'
                        go_simp
                        with_reducible rfl
                      rotate_left
                      · simp only [Act.put, List.setIfInBounds_toArray, List.set_cons_zero, List.set_cons_succ, i64_w, i32_w]
                        rfl
                      refine take_ (i := 5) (N := some 28) (v := ?_) (a' := ?_) #[true, true, true, true, true, true, true, false, true, false, false, false, false, false, false] rfl rfl (take_ofW HT_.out HW_.out (by kernel_rfl)) (fun _ _ _ h => h) (Or.inl ⟨by rfl, ?_⟩) hHeld ?_ ?_
                      rotate_left
                      · rintro w' ⟨s0, s1, s2, s3, s4⟩
                        go_simp
                        with_reducible rfl
                      rotate_left
                      · simp only [Act.put, List.setIfInBounds_toArray, List.set_cons_zero, List.set_cons_succ, i64_w, i32_w]
                        rfl
                      refine take_ (i := 7) (N := some 30) (v := ?_) (a' := ?_) #[true, true, true, true, true, true, true, true, true, false, false, false, false, false, false] rfl rfl (take_ofW HT_.out HW_.out (by kernel_rfl)) (fun _ _ _ h => h) (Or.inl ⟨by rfl, ?_⟩) hHeld ?_ ?_
                      rotate_left
                      · rintro w' ⟨s0, s1, s2, s3, s4⟩
                        go_simp
                        with_reducible rfl
                      rotate_left
                      · simp only [Act.put, List.setIfInBounds_toArray, List.set_cons_zero, List.set_cons_succ, i64_w, i32_w]
                        rfl
                      refine pure_ (i := 9) (N := some 32) (v := ?_) (a' := ?_) #[true, true, true, true, true, true, true, true, true, true, false, false, false, false, false] rfl rfl (any_of HT_.out (by kernel_rfl)) (fun _ _ _ h => h) (Or.inl ⟨by rfl, ?_⟩) ?_ ?_
                      rotate_left
                      · intro w'
                        go_simp
                        with_reducible rfl
                      rotate_left
                      · simp only [Act.put, List.setIfInBounds_toArray, List.set_cons_zero, List.set_cons_succ, i64_w, i32_w]
                        rfl
                      refine take_ (i := 10) (N := some 33) (v := ?_) (a' := ?_) #[true, true, true, true, true, true, true, true, true, true, true, false, false, false, false] rfl rfl (take_ofW HT_.out HW_.out (by kernel_rfl)) (fun _ _ _ h => h) (Or.inl ⟨by rfl, ?_⟩) hHeld ?_ ?_
                      rotate_left
                      · rintro w' ⟨s0, s1, s2, s3, s4⟩
                        go_simp
                        with_reducible rfl
                      rotate_left
                      · simp only [Act.put, List.setIfInBounds_toArray, List.set_cons_zero, List.set_cons_succ, i64_w, i32_w]
                        rfl
                      refine one_ (i := 11) (N := some 34) #[true, true, true, true, true, true, true, true, true, true, true, true, false, false, false] rfl rfl (one_of HT_.out (by kernel_rfl)) (by decide) (fun K hK => ?_)
                      refine goes_ Tryz.func73 (by kernel_rfl) rfl #[.int .i64 (rd l0_2 x11_1), .int .i64 (rd l0_2 t294)] (by rfl) rfl rfl (by (try simp only [List.map_toArray, List.map_cons, List.map_nil]); first | done | rfl | (simp only [List.length_drop, List.length_take]; rfl)) ?_
                      with_reducible refine (spec_tiOf.calls (rd l0_2 x11_1) (rd l0_2 t294) t297 t298 _ A12.out).mono ?_
                      rintro e w17 ⟨rfl, hb⟩
                      refine ⟨_, rfl, ?_⟩
                      have n0_ := Aside0.mk (Kd.R_below (by (with_reducible repeat (first | apply Kd.R_alloc | apply Kd.R_drewN | apply Kd.R_drew)); exact HO_5.out) hb)
                      have n1_ := Aside0.mk (blk_below (g := gb292) (o := .cells #[.int .i64 a0_0, .int .i64 a0_1, .slice (some ad295) l0_2.length c0_2] 44 (0, 0)) (by (with_reducible repeat (first | refine blk_drewN ?_ _ | refine blk_drew ?_ | refine blk_alloc ?_ _)); exact BK292.out) hb)
                      have n2_ := Aside0.mk (below_step (by repeat (first | (with_reducible first | exact HB.out | apply below_alloc | apply pw_below_drewN | apply below_drew1 | refine below_set ?_ GE292.out) | exact HB.out)) hb)
                      clear HO_5
                      clear BK292
                      clear HB
                      have HO_5 := n0_
                      have BK292 := n1_
                      have HB := n2_
                      clear n0_ n1_ n2_
                      (try clear hb)
                      (try clear hb2)
                      (try clear hk)
                      (try clear hi)
                      refine hK.out _ _ ⟨(blk_cell BK292.out 0).trans rfl, (blk_cell BK292.out 1).trans rfl, (blk_cell BK292.out 2).trans rfl, ((HB.out.cell (World.block_lt_of_cell? w _ hw295_0)).trans hw295_0), ((HB.out.cell (World.block_lt_of_cell? w _ hw296_0)).trans hw296_0)⟩ (fun hHeld => ?_)
                      clear hK K
                      refine norm_ (a' := ?_) ?_ ?_
                      rotate_left
                      · show Act.put _ (some 34) _ = _
                        simp only [Act.put, List.setIfInBounds_toArray, List.set_cons_zero, List.set_cons_succ, i64_w, i32_w]
                        rfl
                      refine one_ (i := 12) (N := some 35) #[true, true, true, true, true, true, true, true, true, true, true, true, true, false, false] rfl rfl (one_of HT_.out (by kernel_rfl)) (by decide) (fun K hK => ?_)
                      refine value_ (w1 := ?_) (v := ?_) (by rfl) rfl ?_ ?_
                      rotate_left 2
                      · go_simp
                        constructor
                        · rfl
                        · rfl
                      refine hK.out _ _ ⟨(blk_cell (blk_alloc BK292.out _) 0).trans rfl, (blk_cell (blk_alloc BK292.out _) 1).trans rfl, (blk_cell (blk_alloc BK292.out _) 2).trans rfl, (World.cell?_alloc_lt _ _ _ (World.block_lt_of_cell? _ _ (((HB.out.cell (World.block_lt_of_cell? w _ hw295_0)).trans hw295_0)))).trans (((HB.out.cell (World.block_lt_of_cell? w _ hw295_0)).trans hw295_0)), (World.cell?_alloc_lt _ _ _ (World.block_lt_of_cell? _ _ (((HB.out.cell (World.block_lt_of_cell? w _ hw296_0)).trans hw296_0)))).trans (((HB.out.cell (World.block_lt_of_cell? w _ hw296_0)).trans hw296_0))⟩ (fun hHeld => ?_)
                      clear hK K
                      refine norm_ (a' := ?_) ?_ ?_
                      rotate_left
                      · show Act.put _ (some 35) _ = _
                        simp only [Act.put, List.setIfInBounds_toArray, List.set_cons_zero, List.set_cons_succ, i64_w, i32_w]
                        rfl
                      refine one_ (i := 13) (N := some 36) #[true, true, true, true, true, true, true, true, true, true, true, true, true, true, false] rfl rfl (one_of HT_.out (by kernel_rfl)) (by decide) (fun K hK => ?_)
                      refine Kd.R_append_step k55 (w0 := w) w.heap.size (by rfl) (.tmp 23) (.tmp 35) 27 55 (.agg #[(.int .i64 0), (.int .i64 0)]) 16 rfl Tryz.underlying27 info55 rfl (by decide) (by omega) u5 x5_1 (⟨t297, t298⟩ : S_Tile) [.int .i64 t297, .int .i64 t298] (fun _ => True) (fun _ => False) rfl rfl ?aP (fun _ hk => hk.elim) ?aF ?aO ?aB ?aS ?aL ?_
                      (case aP => exact k55_mkM _ _ _ (⟨t297, t298⟩ : S_Tile))
                      (case aB => exact (by repeat (first | (with_reducible first | exact HB.out | apply below_alloc | apply pw_below_drewN | apply below_drew1 | refine below_set ?_ GE292.out) | exact HB.out)))
                      (case aF => exact (fun _ _ => trivial))
                      (case aO => exact (by (with_reducible repeat (first | apply Kd.R_alloc | apply Kd.R_drewN | apply Kd.R_drew)); exact HO_5.out))
                      (case aS => exact (below_size (by repeat (first | (with_reducible first | exact HB.out | apply below_alloc | apply pw_below_drewN | apply below_drew1 | refine below_set ?_ GE292.out) | exact HB.out))))
                      (case aL => have := LMc13.out; omega)
                      intro v300 w18 ho hb hg hat
                      rw [← Ny299.out] at ho
                      have n0_ := Aside0.mk (blk_grown (g := gb292) (o := .cells #[.int .i64 a0_0, .int .i64 a0_1, .slice (some ad295) l0_2.length c0_2] 44 (0, 0)) (by (with_reducible repeat (first | refine blk_drewN ?_ _ | refine blk_drew ?_ | refine blk_alloc ?_ _)); exact BK292.out) hg (Kd.R_ne HO_5.out BK292.out (by decide)))
                      have n1_ := Aside0.mk (hb)
                      have n2_ := Aside0.mk (ho)
                      clear BK292
                      clear HB
                      clear HO_5
                      have BK292 := n0_
                      have HB := n1_
                      have HO301 := n2_
                      clear n0_ n1_ n2_
                      clear ho hb hg hat
                      refine hK.out _ _ ⟨(blk_cell BK292.out 0).trans rfl, (blk_cell BK292.out 1).trans rfl, (blk_cell BK292.out 2).trans rfl, ((HB.out.cell (World.block_lt_of_cell? w _ hw295_0)).trans hw295_0), ((HB.out.cell (World.block_lt_of_cell? w _ hw296_0)).trans hw296_0)⟩ (fun hHeld => ?_)
                      clear hK K
                      refine norm_ (a' := ?_) ?_ ?_
                      rotate_left
                      · show Act.put _ (some 36) _ = _
                        simp only [Act.put, List.setIfInBounds_toArray, List.set_cons_zero, List.set_cons_succ, i64_w, i32_w]
                        rfl
                      refine pure_ (i := 14) (N := some 5) (v := ?_) (a' := ?_) #[true, true, true, true, true, true, true, true, true, true, true, true, true, true, true] rfl rfl (any_of HT_.out (by kernel_rfl)) (fun _ _ _ h => h) (Or.inl ⟨by rfl, ?_⟩) ?_ ?_
                      rotate_left
                      · intro w'
                        go_simp
                        with_reducible rfl
                      rotate_left
                      · simp only [Act.put, List.setIfInBounds_toArray, List.set_cons_zero, List.set_cons_succ, i64_w, i32_w]
                        rfl
                      refine done_ (done_of HT_.out (by kernel_rfl)) ?_
                      try go_wp2
                      go_roundg k1
                      case measure => have := HK1.out; omega
                      case rel => exact ⟨(y299), (wrap64 (x11_1 + 1)), (by first | rfl | (simp; done) | (simp [*]; done)), H', ⟨by have := HK1.out; omega⟩, ⟨by (with_reducible repeat (first | apply Kd.R_alloc | apply Kd.R_drewN | apply Kd.R_drew)); exact HO301.out⟩, ⟨by (with_reducible repeat (first | refine blk_drewN ?_ _ | refine blk_drew ?_ | refine blk_alloc ?_ _)); exact BK292.out⟩, ⟨by repeat (first | (with_reducible first | exact HB.out | apply below_alloc | apply pw_below_drewN | apply below_drew1 | refine below_set ?_ GE292.out) | exact HB.out)⟩⟩
                    · rw [if_neg c13] at H
                      exact absurd H (by simp)
                  · rw [if_neg c11] at H
                    exact absurd H (by simp)
                · rw [if_neg c10] at H
                  exact absurd H (by simp)
              · rw [if_neg c9] at H
                exact absurd H (by simp)
            · rw [if_neg c8] at H
              have c8b0 : decide (x11_1 < t294) = false := decide_eq_false c8
              clear c8
              have H' := Aside0.mk H
              clear H
              have p293 : 0 ≤ (x11_1 : Int) := of_decide_eq_true (by first | (with_reducible assumption) | assumption)
              have q293 : x11_1 < (l1.length : Int) := of_decide_eq_true (by first | (with_reducible assumption) | assumption)
              obtain ⟨ad293, e293, hx293_0⟩ := Kd.at_int HR1.out x11_1 p293 q293
              cases e293
              replace hx293_0 := (HB.out.cell (World.block_lt_of_cell? w _ hx293_0)).trans hx293_0
              replace p293 := eq_true p293
              replace q293 := eq_true q293
              have hcz19_0 : wr.cell? ⟨gb292, 0, none⟩ = some (.int .i64 a0_0) := (blk_cell BK292.out 0).trans rfl
              have hcz19_1 : wr.cell? ⟨gb292, 1, none⟩ = some (.int .i64 a0_1) := (blk_cell BK292.out 1).trans rfl
              have hcz19_2 : wr.cell? ⟨gb292, 2, none⟩ = some (.slice A0_2 l0_2.length c0_2) := (blk_cell BK292.out 2).trans rfl
              have hfz19_0 := blk_frozen BK292.out 0
              have hfz19_1 := blk_frozen BK292.out 1
              have hfz19_2 := blk_frozen BK292.out 2
              go_wp2_with (first | ((with_reducible refine gate_callee (f := 31) rfl ?_); refine goesL_ (some 19) rfl rfl Tryz.func31 (by kernel_rfl) rfl #[.agg #[.int .i64 a0_0, .int .i64 a0_1, .slice A0_2 l0_2.length c0_2], .int .i64 x11_1, .int .u8 (rd l1 x11_1)] rfl (by (try simp only [List.map_toArray, List.map_cons, List.map_nil]); first | done | rfl | (simp only [List.length_drop, List.length_take]; rfl)) ?_; (with_reducible refine (spec_taOther.calls k1 a0_0 a0_1 _ _ l0_2 x11_1 (rd l1 x11_1) t294 _ ?side1 ?side2 A7.out).mono ?_); (case side1 => repeat (first | exact (Kd.C_below HR0_2.out HB.out) | (with_reducible refine Kd.C_alloc ?_ _) | (with_reducible refine Kd.C_drewN ?_ _) | (with_reducible refine Kd.C_drew ?_))); (case side2 => exact HC0_2.out); rintro e w20 ⟨rfl, hb⟩; refine ⟨_, rfl, ?_⟩; have n0_ := Aside0.mk (Kd.R_below (by (with_reducible repeat (first | apply Kd.R_alloc | apply Kd.R_drewN | apply Kd.R_drew)); exact HO_5.out) hb); have n1_ := Aside0.mk (blk_below (g := gb292) (o := .cells #[.int .i64 a0_0, .int .i64 a0_1, .slice A0_2 l0_2.length c0_2] 44 (0, 0)) (by (with_reducible repeat (first | refine blk_drewN ?_ _ | refine blk_drew ?_ | refine blk_alloc ?_ _)); exact BK292.out) hb); have n2_ := Aside0.mk (below_step (by repeat (first | (with_reducible first | exact HB.out | apply below_alloc | apply pw_below_drewN | apply below_drew1 | refine below_set ?_ GE292.out) | exact HB.out)) hb); clear HO_5; clear BK292; clear HB; have HO_5 := n0_; have BK292 := n1_; have HB := n2_; clear n0_ n1_ n2_; (try clear hb); (try clear hb2); (try clear hk); (try clear hi)))
              go_roundg k1
              case measure => have := HK1.out; omega
              case rel => exact ⟨(x5_1), (wrap64 (x11_1 + 1)), (by first | rfl | (simp; done) | (simp [*]; done)), H', ⟨by have := HK1.out; omega⟩, ⟨by (with_reducible repeat (first | apply Kd.R_alloc | apply Kd.R_drewN | apply Kd.R_drew)); exact HO_5.out⟩, ⟨by (with_reducible repeat (first | refine blk_drewN ?_ _ | refine blk_drew ?_ | refine blk_alloc ?_ _)); exact BK292.out⟩, ⟨by repeat (first | (with_reducible first | exact HB.out | apply below_alloc | apply pw_below_drewN | apply below_drew1 | refine below_set ?_ GE292.out) | exact HB.out)⟩⟩
          · rw [if_neg c6] at H
            exact absurd H (by simp)
        · rw [if_neg c5] at H
          exact absurd H (by simp)
      · rw [if_neg c4] at H
        have c4b0 : decide (x11_1 < (l1.length : Int)) = false := decide_eq_false c4
        clear c4
        obtain rfl := Option.some.inj H
        go_wp2
        go_ret
        exact ⟨_, by first | rfl | (simp [errW_none, errW_some] <;> rfl) | (simp [*, errW_none, errW_some] <;> rfl), by (with_reducible repeat (first | apply Kd.R_alloc | apply Kd.R_drewN | apply Kd.R_drew)); exact HO_5.out, by repeat (first | (with_reducible first | exact HB.out | apply below_alloc | apply pw_below_drewN | apply below_drew1 | refine below_set ?_ GE292.out) | exact HB.out)⟩

end
section
open Go.RowKit Go.Proofs.YtokkiiepddhkiaaGreatDoorW.PrintWords Go.Proofs.YtokkiiepddhkiaaGreatDoorW.PrintLast Go.Proofs.YtokkiiepddhkiaaGreatDoorW.PrintMore
attribute [local go_sem] max2_int min2_int max_two min_two max_three min_three max_four min_four   -- for this text's walks alone
set_option linter.unusedVariables false
set_option linter.unusedSimpArgs false

def spec_tiText.l0 : Nat → ByteArray → List (S_Tile) → Int → Int → Option (ByteArray)
  | 0, _, _, _, _ => none
  | k + 1, x3, x9, x10, x11 => if x11 < x10 then (if 0 ≤ x11 then (if x11 < (x9.length : Int) then (if x11 > 0 then (if x3.size + 1 ≤ 9223372036854775807 then ((spec_l1Num.f k ((rd_Tile x9 x11).f0)).bind fun t311 => ((spec_l1Num.f k ((rd_Tile x9 x11).f1)).bind fun t312 => (if t311.size + t312.size ≤ 9223372036854775807 then (if (x3 ++ (⟨#[44]⟩ : ByteArray)).size + (t311 ++ t312).size ≤ 9223372036854775807 then (spec_tiText.l0 k ((x3 ++ (⟨#[44]⟩ : ByteArray)) ++ (t311 ++ t312)) x9 x10 (wrap64 (x11 + 1))) else (none)) else (none)))) else (none)) else ((spec_l1Num.f k ((rd_Tile x9 x11).f0)).bind fun t313 => ((spec_l1Num.f k ((rd_Tile x9 x11).f1)).bind fun t314 => (if t313.size + t314.size ≤ 9223372036854775807 then (if x3.size + (t313 ++ t314).size ≤ 9223372036854775807 then (spec_tiText.l0 k (x3 ++ (t313 ++ t314)) x9 x10 (wrap64 (x11 + 1))) else (none)) else (none))))) else (none)) else (none)) else (some x3)
def spec_tiText.f (k : Nat) (l0 : List (S_Tile)) : Option (ByteArray) := if (l0.length : Int) = 0 then (some (⟨#[45]⟩ : ByteArray)) else (spec_tiText.l0 k (⟨#[]⟩ : ByteArray) l0 (l0.length : Int) 0)
set_option maxRecDepth 100000 in
set_option maxHeartbeats 40000000 in
theorem spec_tiText.calls (k : Nat) (A0 : Option Addr) (c0 : Nat) (l0 : List (S_Tile)) (r : ByteArray) (w : World) (hr0 : Kd.C k55 w A0 l0.length l0) (hc0 : l0.length ≤ c0) (h : spec_tiText.f k l0 = some r) :
    Calls Tryz.prog 47 #[.slice A0 l0.length c0] w fun e w' => e = .returned (.string r) ∧ Below w.heap.size w w' := by
  obtain ⟨cs, hcs⟩ : ∃ cs, cs = [old w w.heap.size] := ⟨_, rfl⟩
  have hp : Hp w cs w := by rw [hcs]; exact Hp.old_start w
  have hc2 : ∀ W, Hp w cs W → Below w.heap.size w W := fun W h => by rw [hcs] at h; exact h.since 0 _ rfl
  have hC0 : ∀ W, Hp w cs W → Kd.C k55 W A0 l0.length l0 := fun W h => Kd.C_below hr0 (hc2 W h)
  clear hcs
  unfold spec_tiText.f at h
  refine sx_enter (N := 31) (l := [.slice A0 l0.length c0]) Tryz.func47 rfl rfl rfl ?_
  refine wp_seq ?_
  refine sx_region ?_
  refine sx_rd 2 (.string (⟨#[]⟩ : ByteArray)) (by rfl) (by kernel_rfl) ?_
  refine sx_nil ?_
  refine ex_then_n ?_
  refine wp_seq ?_
  refine wp_seq ?_
  refine sx_region ?_
  refine sx_rd 6 (.slice A0 l0.length c0) (by rfl) (by kernel_rfl) ?_
  refine sx_rd 7 (.int .i64 (l0.length : Int)) (by rfl) (by kernel_rfl) ?_
  refine sx_rd 8 (.bool ((l0.length : Int) == 0)) (by rfl) (by kernel_rfl) ?_
  refine sx_nil ?_
  refine ex_then_n ?_
  by_cases hc_1 : (l0.length : Int) = 0
  ·
    rw [if_pos hc_1] at h
    refine sx_then ((l0.length : Int) == 0) (by rfl) (beq_iff_eq.mpr hc_1) ?_
    refine wp_seq ?_
    refine sx_region ?_
    refine sx_rd 2 (.string (⟨#[45]⟩ : ByteArray)) (by rfl) (by kernel_rfl) ?_
    refine sx_nil ?_
    refine ex_then_n ?_
    refine wp_ret ?_
    refine ex_then_r ?_
    refine sx_end (.string (⟨#[45]⟩ : ByteArray)) (res1 2 (by rfl)) ?_
    obtain rfl := Option.some.inj h
    exact ⟨rfl, hc2 _ (hp)⟩
  ·
    rw [if_neg hc_1] at h
    refine sx_else ((l0.length : Int) == 0) (by rfl) (beq_eq_false_iff_ne.mpr hc_1) ?_
    refine wp_skip ?_
    refine ex_then_n ?_
    refine wp_seq ?_
    refine sx_region ?_
    refine sx_rd 3 (.string (⟨#[]⟩ : ByteArray)) (by rfl) (by kernel_rfl) ?_
    refine sx_nil ?_
    refine ex_then_n ?_
    refine wp_seq ?_
    refine wp_seq ?_
    refine sx_region ?_
    refine sx_rd 9 (.slice A0 l0.length c0) (by rfl) (by kernel_rfl) ?_
    refine sx_rd 10 (.int .i64 (l0.length : Int)) (by rfl) (by kernel_rfl) ?_
    refine sx_rd 11 (.int .i64 0) (by rfl) (by kernel_rfl) ?_
    refine sx_nil ?_
    refine ex_then_n ?_
    refine wp_block ?_
    refine wp_loop_ghost (fun n_ a_ W => ∃ (r_ : List (Nat × Value)) (k_4 : Nat) (x_2 : ByteArray) (x_3 : Int)  , n_ = k_4 + 1 ∧ a_ = fr 31 ([(3, .string x_2), (9, .slice A0 l0.length c0), (10, .int .i64 (l0.length : Int)), (11, .int .i64 x_3)] ++ r_) ∧ Hp w (cs) W ∧ (spec_tiText.l0 k_4 x_2 l0 (l0.length : Int) x_3 = some r) ∧ (k_4 ≤ k)) _ ⟨_, k, (⟨#[]⟩ : ByteArray), 0, rfl, fr_front [(3, .string (⟨#[]⟩ : ByteArray)), (9, .slice A0 l0.length c0), (10, .int .i64 (l0.length : Int)), (11, .int .i64 0)] ⟨rfl, rfl, rfl, rfl, trivial⟩, (hp.take [] 0 (by decide) (by simp)), h, (Nat.le_refl _)⟩ ?_
    rintro _ _ W_6 ⟨r_, k_4, x_2, x_3, rfl, rfl, hp, h, hk_5⟩
    rcases k_4 with _ | k_4
    · simp [spec_tiText.l0] at h
    simp only [spec_tiText.l0] at h
    refine wp_seq ?_
    refine sx_region ?_
    refine sx_rd 12 (.bool (decide (x_3 < (l0.length : Int)))) (by rfl) (by kernel_rfl) ?_
    refine sx_nil ?_
    refine ex_then_n ?_
    refine wp_seq ?_
    by_cases hc_7 : x_3 < (l0.length : Int)
    ·
      rw [if_pos hc_7] at h
      by_cases hc_8 : 0 ≤ x_3
      case neg => rw [if_neg hc_8] at h; cases h
      rw [if_pos hc_8] at h
      by_cases hc_9 : x_3 < (l0.length : Int)
      case neg => rw [if_neg hc_9] at h; cases h
      rw [if_pos hc_9] at h
      refine sx_then (decide (x_3 < (l0.length : Int))) (by rfl) (decide_eq_true hc_7) ?_
      refine wp_skip ?_
      refine ex_then_n ?_
      refine wp_seq ?_
      refine wp_block ?_
      refine wp_seq ?_
      refine sx_region ?_
      refine sx_rd 13 (.int .i64 x_3) (by rfl) (by kernel_rfl) ?_
      refine sx_rd 14 (.pointer (some (adr A0 x_3 2))) (by rfl) (ix_run (d := k55) (hC0 _ hp) (t := 27) (by rfl) (by rfl) (by rfl) Tryz.underlying27 (by kernel_rfl) (by omega) (by omega)) ?_
      refine sx_rd 15 (.agg #[.int .i64 ((rd_Tile l0 x_3).f0), .int .i64 ((rd_Tile l0 x_3).f1)]) (by rfl) (el_run (d := k55) (hC0 _ hp) z55 x_3 (by omega) (by omega) (cells := [.int .i64 ((rd_Tile l0 x_3).f0), .int .i64 ((rd_Tile l0 x_3).f1)]) (fun cs h => k55_open h) 0 [.int .i64 ((rd_Tile l0 x_3).f0), .int .i64 ((rd_Tile l0 x_3).f1)] (by rfl) (t := 55) (p := (.tmp 14)) (by rfl) (by rfl) (by kernel_rfl) (by kernel_rfl)) ?_
      refine sx_box 5 hp #[.int .i64 0, .int .i64 0] 55 (by rfl) (fun W => by kernel_rfl) ?_
      intro g_10 W_11 hp
      refine sx_rd 4 (.int .i64 x_3) (by rfl) (by kernel_rfl) ?_
      refine sx_store (t := 55) (p := (.tmp 5)) (x := (.tmp 15)) (by rfl) (by rfl) 0 (by rfl) 0 [.int .i64 ((rd_Tile l0 x_3).f0), .int .i64 ((rd_Tile l0 x_3).f1)] (by rfl) (by rfl) (by kernel_rfl) (by simp [Value.oneCell']) (by show 2 ≤ 2; omega) #[.int .i64 ((rd_Tile l0 x_3).f0), .int .i64 ((rd_Tile l0 x_3).f1)] (by rfl) hp ?_
      intro W_12 hp; simp only [List.set_cons_succ, List.set_cons_zero] at hp
      refine sx_nil ?_
      refine ex_then_n ?_
      refine wp_seq ?_
      refine wp_seq ?_
      refine sx_region ?_
      refine sx_rd 16 (.int .i64 x_3) (by rfl) (by kernel_rfl) ?_
      refine sx_rd 17 (.bool (decide (x_3 > 0))) (by rfl) (by kernel_rfl) ?_
      refine sx_nil ?_
      refine ex_then_n ?_
      by_cases hc_13 : x_3 > 0
      ·
        rw [if_pos hc_13] at h
        by_cases hc_14 : x_2.size + 1 ≤ 9223372036854775807
        case neg => rw [if_neg hc_14] at h; cases h
        rw [if_pos hc_14] at h
        obtain ⟨t_16, hv_15, h⟩ := Option.bind_eq_some_iff.mp h
        try dsimp only at h
        obtain ⟨t_18, hv_17, h⟩ := Option.bind_eq_some_iff.mp h
        try dsimp only at h
        by_cases hc_19 : t_16.size + t_18.size ≤ 9223372036854775807
        case neg => rw [if_neg hc_19] at h; cases h
        rw [if_pos hc_19] at h
        by_cases hc_20 : (x_2 ++ (⟨#[44]⟩ : ByteArray)).size + (t_16 ++ t_18).size ≤ 9223372036854775807
        case neg => rw [if_neg hc_20] at h; cases h
        rw [if_pos hc_20] at h
        refine sx_then (decide (x_3 > 0)) (by rfl) (decide_eq_true hc_13) ?_
        refine sx_region ?_
        refine sx_rd 18 (.string x_2) (by rfl) (by kernel_rfl) ?_
        refine sx_rd 19 (.string (x_2 ++ (⟨#[44]⟩ : ByteArray))) (by rfl) (sadd_run (by rfl) (by rfl) (by rfl) (by first | omega | (show _ + 1 ≤ _; omega) | (simp; omega))) ?_
        refine sx_rd 3 (.string (x_2 ++ (⟨#[44]⟩ : ByteArray))) (by rfl) (by kernel_rfl) ?_
        refine sx_nil ?_
        refine ex_then_n ?_
        refine sx_drawT [0, 1, 4] (.rd 2 (.rd 5 (.alt 3 (.alt 6 (.rd 7 (.rd 8 (.rd 9 (.fin)))) .non) .non))) 10 (C := Hp w (blk g_10 #[.int .i64 ((rd_Tile l0 x_3).f0), .int .i64 ((rd_Tile l0 x_3).f1)] 55 :: cs)) (by kernel_rfl) (by kernel_rfl) (fun d _ _ _ _ h => by cases d <;> exact h) (fun W h => h.drew) hp ?_
        refine preI_read rfl ?_
        refine sxq_val 20 (.string (x_2 ++ (⟨#[44]⟩ : ByteArray))) (by rfl) (fun W _ => (by kernel_rfl)) ?_
        refine sxq_nil ?_
        refine preI_read rfl ?_
        refine sxq_val 21 (.pointer (some ⟨g_10, 0, none⟩)) (by rfl) (fun W _ => (by kernel_rfl)) ?_
        refine sxq_nil ?_
        refine preI_read rfl ?_
        refine sxq_val 24 (.pointer (some ⟨g_10, 1, none⟩)) (by rfl) (fun W _ => (by kernel_rfl)) ?_
        refine sxq_nil ?_
        refine preI_nil ?_
        intro W_21 hp
        refine treeI_rd rfl ?_
        refine sxq_val 22 (.int .i64 ((rd_Tile l0 x_3).f0)) (by rfl) (fun W hp => (ld1 (t := 3) (p := (.tmp 21)) (by rfl) (by rfl) (by kernel_rfl) (hp.cell 0 (by rfl) 0 _ (by rfl)))) ?_
        refine sxq_nil ?_
        refine treeI_rd rfl ?_
        refine sxq_val 25 (.int .i64 ((rd_Tile l0 x_3).f1)) (by rfl) (fun W hp => (ld1 (t := 3) (p := (.tmp 24)) (by rfl) (by rfl) (by kernel_rfl) (hp.cell 0 (by rfl) 1 _ (by rfl)))) ?_
        refine sxq_nil ?_
        refine treeI_ev rfl ?_
        refine sx_call 23 (by rfl) (by kernel_rfl) ((spec_l1Num.calls _ ((rd_Tile l0 x_3).f0) _ _ hv_15).mono ?_)
        rintro _ W_22 ⟨rfl, hb⟩
        refine ⟨_, rfl, ?_⟩
        replace hp := hp.below hb
        clear hb
        refine step_fin hp ?_
        refine treeI_ev rfl ?_
        refine sx_call 26 (by rfl) (by kernel_rfl) ((spec_l1Num.calls _ ((rd_Tile l0 x_3).f1) _ _ hv_17).mono ?_)
        rintro _ W_23 ⟨rfl, hb⟩
        refine ⟨_, rfl, ?_⟩
        replace hp := hp.below hb
        clear hb
        refine step_fin hp ?_
        refine treeI_rd rfl ?_
        refine sxq_val 27 (.string (t_16 ++ t_18)) (by rfl) (fun W hp => (sadd_run (by rfl) (by rfl) (by rfl) (by first | omega | (show _ + 1 ≤ _; omega) | (simp; omega)))) ?_
        refine sxq_nil ?_
        refine treeI_rd rfl ?_
        refine sxq_val 28 (.string ((x_2 ++ (⟨#[44]⟩ : ByteArray)) ++ (t_16 ++ t_18))) (by rfl) (fun W hp => (sadd_run (by rfl) (by rfl) (by rfl) (by first | omega | (show _ + 1 ≤ _; omega) | (simp; omega)))) ?_
        refine sxq_nil ?_
        refine treeI_rd rfl ?_
        refine sxq_val 3 (.string ((x_2 ++ (⟨#[44]⟩ : ByteArray)) ++ (t_16 ++ t_18))) (by rfl) (fun W hp => (by kernel_rfl)) ?_
        refine sxq_nil ?_
        refine treeI_fin ?_
        refine sx_nil ?_
        refine ex_blk_n ?_
        refine ex_then_n ?_
        refine sx_region ?_
        refine sx_rd 29 (.int .i64 (wrap64 (x_3 + 1))) (by rfl) (wr_w (by kernel_rfl)) ?_
        refine sx_rd 11 (.int .i64 (wrap64 (x_3 + 1))) (by rfl) (by kernel_rfl) ?_
        refine sx_nil ?_
        refine ex_then_n ?_
        exact ⟨_, (by omega), _, k_4, ((x_2 ++ (⟨#[44]⟩ : ByteArray)) ++ (t_16 ++ t_18)), (wrap64 (x_3 + 1)), rfl, fr_front [(3, .string ((x_2 ++ (⟨#[44]⟩ : ByteArray)) ++ (t_16 ++ t_18))), (9, .slice A0 l0.length c0), (10, .int .i64 (l0.length : Int)), (11, .int .i64 (wrap64 (x_3 + 1)))] ⟨rfl, rfl, rfl, rfl, trivial⟩, (hp.take [] 1 (by decide) (by simp)), h, (by omega)⟩
      ·
        rw [if_neg hc_13] at h
        obtain ⟨t_25, hv_24, h⟩ := Option.bind_eq_some_iff.mp h
        try dsimp only at h
        obtain ⟨t_27, hv_26, h⟩ := Option.bind_eq_some_iff.mp h
        try dsimp only at h
        by_cases hc_28 : t_25.size + t_27.size ≤ 9223372036854775807
        case neg => rw [if_neg hc_28] at h; cases h
        rw [if_pos hc_28] at h
        by_cases hc_29 : x_2.size + (t_25 ++ t_27).size ≤ 9223372036854775807
        case neg => rw [if_neg hc_29] at h; cases h
        rw [if_pos hc_29] at h
        refine sx_else (decide (x_3 > 0)) (by rfl) (decide_eq_false hc_13) ?_
        refine wp_skip ?_
        refine ex_then_n ?_
        refine sx_drawT [0, 1, 4] (.rd 2 (.rd 5 (.alt 3 (.alt 6 (.rd 7 (.rd 8 (.rd 9 (.fin)))) .non) .non))) 10 (C := Hp w (blk g_10 #[.int .i64 ((rd_Tile l0 x_3).f0), .int .i64 ((rd_Tile l0 x_3).f1)] 55 :: cs)) (by kernel_rfl) (by kernel_rfl) (fun d _ _ _ _ h => by cases d <;> exact h) (fun W h => h.drew) hp ?_
        refine preI_read rfl ?_
        refine sxq_val 20 (.string x_2) (by rfl) (fun W _ => (by kernel_rfl)) ?_
        refine sxq_nil ?_
        refine preI_read rfl ?_
        refine sxq_val 21 (.pointer (some ⟨g_10, 0, none⟩)) (by rfl) (fun W _ => (by kernel_rfl)) ?_
        refine sxq_nil ?_
        refine preI_read rfl ?_
        refine sxq_val 24 (.pointer (some ⟨g_10, 1, none⟩)) (by rfl) (fun W _ => (by kernel_rfl)) ?_
        refine sxq_nil ?_
        refine preI_nil ?_
        intro W_30 hp
        refine treeI_rd rfl ?_
        refine sxq_val 22 (.int .i64 ((rd_Tile l0 x_3).f0)) (by rfl) (fun W hp => (ld1 (t := 3) (p := (.tmp 21)) (by rfl) (by rfl) (by kernel_rfl) (hp.cell 0 (by rfl) 0 _ (by rfl)))) ?_
        refine sxq_nil ?_
        refine treeI_rd rfl ?_
        refine sxq_val 25 (.int .i64 ((rd_Tile l0 x_3).f1)) (by rfl) (fun W hp => (ld1 (t := 3) (p := (.tmp 24)) (by rfl) (by rfl) (by kernel_rfl) (hp.cell 0 (by rfl) 1 _ (by rfl)))) ?_
        refine sxq_nil ?_
        refine treeI_ev rfl ?_
        refine sx_call 23 (by rfl) (by kernel_rfl) ((spec_l1Num.calls _ ((rd_Tile l0 x_3).f0) _ _ hv_24).mono ?_)
        rintro _ W_31 ⟨rfl, hb⟩
        refine ⟨_, rfl, ?_⟩
        replace hp := hp.below hb
        clear hb
        refine step_fin hp ?_
        refine treeI_ev rfl ?_
        refine sx_call 26 (by rfl) (by kernel_rfl) ((spec_l1Num.calls _ ((rd_Tile l0 x_3).f1) _ _ hv_26).mono ?_)
        rintro _ W_32 ⟨rfl, hb⟩
        refine ⟨_, rfl, ?_⟩
        replace hp := hp.below hb
        clear hb
        refine step_fin hp ?_
        refine treeI_rd rfl ?_
        refine sxq_val 27 (.string (t_25 ++ t_27)) (by rfl) (fun W hp => (sadd_run (by rfl) (by rfl) (by rfl) (by first | omega | (show _ + 1 ≤ _; omega) | (simp; omega)))) ?_
        refine sxq_nil ?_
        refine treeI_rd rfl ?_
        refine sxq_val 28 (.string (x_2 ++ (t_25 ++ t_27))) (by rfl) (fun W hp => (sadd_run (by rfl) (by rfl) (by rfl) (by first | omega | (show _ + 1 ≤ _; omega) | (simp; omega)))) ?_
        refine sxq_nil ?_
        refine treeI_rd rfl ?_
        refine sxq_val 3 (.string (x_2 ++ (t_25 ++ t_27))) (by rfl) (fun W hp => (by kernel_rfl)) ?_
        refine sxq_nil ?_
        refine treeI_fin ?_
        refine sx_nil ?_
        refine ex_blk_n ?_
        refine ex_then_n ?_
        refine sx_region ?_
        refine sx_rd 29 (.int .i64 (wrap64 (x_3 + 1))) (by rfl) (wr_w (by kernel_rfl)) ?_
        refine sx_rd 11 (.int .i64 (wrap64 (x_3 + 1))) (by rfl) (by kernel_rfl) ?_
        refine sx_nil ?_
        refine ex_then_n ?_
        exact ⟨_, (by omega), _, k_4, (x_2 ++ (t_25 ++ t_27)), (wrap64 (x_3 + 1)), rfl, fr_front [(3, .string (x_2 ++ (t_25 ++ t_27))), (9, .slice A0 l0.length c0), (10, .int .i64 (l0.length : Int)), (11, .int .i64 (wrap64 (x_3 + 1)))] ⟨rfl, rfl, rfl, rfl, trivial⟩, (hp.take [] 1 (by decide) (by simp)), h, (by omega)⟩
    ·
      rw [if_neg hc_7] at h
      refine sx_else (decide (x_3 < (l0.length : Int))) (by rfl) (decide_eq_false hc_7) ?_
      refine wp_exit ?_
      refine ex_then_e (ex_then_e (ex_blk_here ?_))
      refine ex_then_n ?_
      refine wp_seq ?_
      refine sx_region ?_
      refine sx_rd 30 (.string x_2) (by rfl) (by kernel_rfl) ?_
      refine sx_rd 2 (.string x_2) (by rfl) (by kernel_rfl) ?_
      refine sx_nil ?_
      refine ex_then_n ?_
      refine wp_ret ?_
      refine sx_end (.string x_2) (res1 2 (by rfl)) ?_
      obtain rfl := Option.some.inj h
      exact ⟨rfl, hc2 _ (hp)⟩
end
section
open Go.RowKit Go.Proofs.YtokkiiepddhkiaaGreatDoorW.PrintWords Go.Proofs.YtokkiiepddhkiaaGreatDoorW.PrintLast Go.Proofs.YtokkiiepddhkiaaGreatDoorW.PrintMore
attribute [local go_sem] max2_int min2_int max_two min_two max_three min_three max_four min_four   -- for this text's walks alone
set_option linter.unusedVariables false
set_option linter.unusedSimpArgs false

def spec_tiPick.l0 : Nat → List (S_Tile) → Bool → List (S_Tile) → List (S_Tile) → Int → Int → Option ((List (S_Tile)))
  | 0, _, _, _, _, _, _ => none
  | k + 1, x1, x2, x7, x11, x12, x13 => if x13 < x12 then (if 0 ≤ x13 then (if x13 < (x11.length : Int) then ((spec_tiPlace.f k x1 ((rd_Tile x11 x13).f0) ((rd_Tile x11 x13).f1)).bind fun t323 => (if ((decide (t323 ≥ 0)) == x2) = true then (if x7.length < 8796093022208 then (spec_tiPick.l0 k x1 x2 (x7 ++ [(⟨(rd_Tile x11 x13).f0, (rd_Tile x11 x13).f1⟩ : S_Tile)]) x11 x12 (wrap64 (x13 + 1))) else (none)) else (spec_tiPick.l0 k x1 x2 x7 x11 x12 (wrap64 (x13 + 1))))) else (none)) else (none)) else (some x7)
def spec_tiPick.f (k : Nat) (a0 : Int) (l1 : List (S_Tile)) (a2 : Bool) : Option ((List (S_Tile))) := (spec_tiSet.f k a0).bind fun t318 => (spec_tiPick.l0 k l1 a2 ([] : List (S_Tile)) t318 (t318.length : Int) 0)
set_option maxRecDepth 100000 in
set_option maxHeartbeats 40000000 in
theorem spec_tiPick.calls (k : Nat) (a0 : Int) (A1 : Option Addr) (c1 : Nat) (l1 : List (S_Tile)) (a2 : Bool) (r : List (S_Tile)) (w : World) (hr1 : Kd.C k55 w A1 l1.length l1) (hc1 : l1.length ≤ c1) (h : spec_tiPick.f k a0 l1 a2 = some r) :
    Calls Tryz.prog 77 #[.int .i64 a0, .slice A1 l1.length c1, .bool a2] w fun e w' => ∃ v0_ : Value, e = .returned (v0_) ∧ Kd.R k55 55 w' w.heap.size (fun _ => True) v0_ r ∧ Below w.heap.size w w' := by
  obtain ⟨cs, hcs⟩ : ∃ cs, cs = [old w w.heap.size] := ⟨_, rfl⟩
  have hp : Hp w cs w := by rw [hcs]; exact Hp.old_start w
  have hc2 : ∀ W, Hp w cs W → Below w.heap.size w W := fun W h => by rw [hcs] at h; exact h.since 0 _ rfl
  have hC1 : ∀ W, Hp w cs W → Kd.C k55 W A1 l1.length l1 := fun W h => Kd.C_below hr1 (hc2 W h)
  clear hcs
  unfold spec_tiPick.f at h
  obtain ⟨t_2, hv_1, h⟩ := Option.bind_eq_some_iff.mp h
  try dsimp only at h
  refine sx_enter (N := 29) (l := [.int .i64 a0, .slice A1 l1.length c1, .bool a2]) Tryz.func77 rfl rfl rfl ?_
  refine wp_seq ?_
  refine sx_region ?_
  refine sx_rd 6 (.slice none 0 0) (by rfl) (by kernel_rfl) ?_
  refine sx_nil ?_
  refine ex_then_n ?_
  refine wp_seq ?_
  refine sx_region ?_
  refine sx_rd 7 (.slice none 0 0) (by rfl) (by kernel_rfl) ?_
  refine sx_nil ?_
  refine ex_then_n ?_
  refine wp_seq ?_
  refine wp_seq ?_
  refine sx_region ?_
  refine sx_rd 10 (.int .i64 a0) (by rfl) (by kernel_rfl) ?_
  refine sx_call 11 (by rfl) (by kernel_rfl) ((spec_tiSet.calls _ a0 _ _ hv_1).mono ?_)
  rintro _ W_8 ⟨v_4, rfl, hR_3, hb⟩
  refine ⟨_, rfl, ?_⟩
  obtain ⟨A_5, c_6, rfl, hcc_c_6, _⟩ := Kd.R_reads hR_3
  obtain ⟨F_7, hp⟩ : ∃ F, Hp w (row k55 55 w.heap.size (.slice A_5 t_2.length c_6) t_2 F :: cs) _ := ⟨_, Hp.made hp hb hR_3⟩
  refine sx_rd 12 (.int .i64 (t_2.length : Int)) (by rfl) (by kernel_rfl) ?_
  refine sx_rd 13 (.int .i64 0) (by rfl) (by kernel_rfl) ?_
  refine sx_nil ?_
  refine ex_then_n ?_
  refine wp_block ?_
  have hp := hp.nilrow k55 55 w.heap.size
  refine wp_loop_ghost (fun n_ a_ W => ∃ (r_ : List (Nat × Value)) (k_11 : Nat) (x_10 : Int) (x_9 : List (S_Tile)) (A_12 : Option Addr) (n_13 c_14 : Nat) (F_15 : Nat → Prop), n_ = k_11 + 1 ∧ a_ = fr 29 ([(1, .slice A1 l1.length c1), (2, .bool a2), (7, .slice A_12 n_13 c_14), (11, .slice A_5 t_2.length c_6), (12, .int .i64 (t_2.length : Int)), (13, .int .i64 x_10)] ++ r_) ∧ Hp w (row k55 55 w.heap.size (.slice A_12 n_13 c_14) x_9 F_15 :: row k55 55 w.heap.size (.slice A_5 t_2.length c_6) t_2 F_7 :: cs) W ∧ (spec_tiPick.l0 k_11 l1 a2 x_9 t_2 (t_2.length : Int) x_10 = some r) ∧ (k_11 ≤ k)) _ ⟨_, k, 0, ([] : List (S_Tile)), _, _, _, _, rfl, fr_front [(1, .slice A1 l1.length c1), (2, .bool a2), (7, .slice none 0 0), (11, .slice A_5 t_2.length c_6), (12, .int .i64 (t_2.length : Int)), (13, .int .i64 0)] ⟨rfl, rfl, rfl, rfl, rfl, rfl, trivial⟩, (hp.take [0, 1] 2 (by decide) (by simp)), h, (Nat.le_refl _)⟩ ?_
  rintro _ _ W_17 ⟨r_, k_11, x_10, x_9, A_12, n_13, c_14, F_15, rfl, rfl, hp, h, hk_16⟩
  obtain ⟨rfl, -⟩ := row_len (hp.at_ 0 _ (by rfl))
  rcases k_11 with _ | k_11
  · simp [spec_tiPick.l0] at h
  simp only [spec_tiPick.l0] at h
  refine wp_seq ?_
  refine sx_region ?_
  refine sx_rd 14 (.bool (decide (x_10 < (t_2.length : Int)))) (by rfl) (by kernel_rfl) ?_
  refine sx_nil ?_
  refine ex_then_n ?_
  refine wp_seq ?_
  by_cases hc_18 : x_10 < (t_2.length : Int)
  ·
    rw [if_pos hc_18] at h
    by_cases hc_19 : 0 ≤ x_10
    case neg => rw [if_neg hc_19] at h; cases h
    rw [if_pos hc_19] at h
    by_cases hc_20 : x_10 < (t_2.length : Int)
    case neg => rw [if_neg hc_20] at h; cases h
    rw [if_pos hc_20] at h
    obtain ⟨t_22, hv_21, h⟩ := Option.bind_eq_some_iff.mp h
    try dsimp only at h
    refine sx_then (decide (x_10 < (t_2.length : Int))) (by rfl) (decide_eq_true hc_18) ?_
    refine wp_skip ?_
    refine ex_then_n ?_
    refine wp_seq ?_
    refine wp_block ?_
    refine wp_seq ?_
    refine sx_region ?_
    refine sx_rd 15 (.pointer (some (adr A_5 x_10 2))) (by rfl) (ix_run (d := k55) (row_C (hp.at_ 1 _ (by rfl))) (t := 27) (by rfl) (by rfl) (by rfl) Tryz.underlying27 (by kernel_rfl) (by omega) (by omega)) ?_
    refine sx_rd 16 (.agg #[.int .i64 ((rd_Tile t_2 x_10).f0), .int .i64 ((rd_Tile t_2 x_10).f1)]) (by rfl) (el_run (d := k55) (row_C (hp.at_ 1 _ (by rfl))) z55 x_10 (by omega) (by omega) (cells := [.int .i64 ((rd_Tile t_2 x_10).f0), .int .i64 ((rd_Tile t_2 x_10).f1)]) (fun cs h => k55_open h) 0 [.int .i64 ((rd_Tile t_2 x_10).f0), .int .i64 ((rd_Tile t_2 x_10).f1)] (by rfl) (t := 55) (p := (.tmp 15)) (by rfl) (by rfl) (by kernel_rfl) (by kernel_rfl)) ?_
    refine sx_box 9 hp #[.int .i64 0, .int .i64 0] 55 (by rfl) (fun W => by kernel_rfl) ?_
    intro g_23 W_24 hp
    refine sx_store (t := 55) (p := (.tmp 9)) (x := (.tmp 16)) (by rfl) (by rfl) 0 (by rfl) 0 [.int .i64 ((rd_Tile t_2 x_10).f0), .int .i64 ((rd_Tile t_2 x_10).f1)] (by rfl) (by rfl) (by kernel_rfl) (by simp [Value.oneCell']) (by show 2 ≤ 2; omega) #[.int .i64 ((rd_Tile t_2 x_10).f0), .int .i64 ((rd_Tile t_2 x_10).f1)] (by rfl) hp ?_
    intro W_25 hp; simp only [List.set_cons_succ, List.set_cons_zero] at hp
    refine sx_nil ?_
    refine ex_then_n ?_
    refine wp_seq ?_
    refine sx_region ?_
    refine sx_rd 17 (.slice A1 l1.length c1) (by rfl) (by kernel_rfl) ?_
    refine sx_rd 18 (.agg #[.int .i64 ((rd_Tile t_2 x_10).f0), .int .i64 ((rd_Tile t_2 x_10).f1)]) (by rfl) (ldn (t := 55) (p := (.tmp 9)) (by rfl) (by rfl) (by kernel_rfl) (by kernel_rfl) (by kernel_rfl) (hp.at_ 0 _ (by rfl))) ?_
    refine sx_call 19 (by rfl) (by kernel_rfl) ((spec_tiPlace.calls _ A1 c1 l1 ((rd_Tile t_2 x_10).f0) ((rd_Tile t_2 x_10).f1) _ _ (hC1 _ hp.tail.tail.tail) hc1 hv_21).mono ?_)
    rintro _ W_26 ⟨rfl, hb⟩
    refine ⟨_, rfl, ?_⟩
    replace hp := hp.below hb
    clear hb
    refine sx_rd 20 (.bool (decide (t_22 ≥ 0))) (by rfl) (by kernel_rfl) ?_
    refine sx_rd 21 (.bool a2) (by rfl) (by kernel_rfl) ?_
    refine sx_rd 22 (.bool ((decide (t_22 ≥ 0)) == a2)) (by rfl) (by kernel_rfl) ?_
    refine sx_nil ?_
    refine ex_then_n ?_
    by_cases hc_27 : ((decide (t_22 ≥ 0)) == a2) = true
    ·
      rw [if_pos hc_27] at h
      by_cases hc_28 : x_9.length < 8796093022208
      case neg => rw [if_neg hc_28] at h; cases h
      rw [if_pos hc_28] at h
      refine sx_then ((decide (t_22 ≥ 0)) == a2) (by rfl) hc_27 ?_
      refine sx_region ?_
      refine sx_rd 23 (.slice A_12 x_9.length c_14) (by rfl) (by kernel_rfl) ?_
      refine sx_rd 24 (.agg #[.int .i64 ((rd_Tile t_2 x_10).f0), .int .i64 ((rd_Tile t_2 x_10).f1)]) (by rfl) (ldn (t := 55) (p := (.tmp 9)) (by rfl) (by rfl) (by kernel_rfl) (by kernel_rfl) (by kernel_rfl) (hp.at_ 0 _ (by rfl))) ?_
      refine sx_lit 25 (by rfl) k55 w.heap.size 55 ([(rd_Tile t_2 x_10)]) [.int .i64 ((rd_Tile t_2 x_10).f0), .int .i64 ((rd_Tile t_2 x_10).f1)] (fun W => by kernel_rfl) (tile_reps _ _ _) (by simp) hp.size hp ?_
      intro g_29 F_30 W_31 hp hz; clear hz
      refine sx_append 26 (by rfl) k55 2 (by rfl) (.agg #[.int .i64 0, .int .i64 0]) 16 (by rfl) Tryz.underlying27 (by kernel_rfl) rfl (by decide) (by decide) ([(rd_Tile t_2 x_10)]) (by rfl) (by rfl) (row_C (hp.at_ 0 _ (by rfl))) tile_kp hp.size (by first | omega | (simp; omega)) hp ?_
      intro A_32 c_33 F_34 W_35 hp hz; clear hz; simp only [List.set_cons_succ, List.set_cons_zero] at hp
      refine sx_rd 7 (.slice A_32 ((x_9 ++ [(rd_Tile t_2 x_10)]).length) c_33) (by rfl) (by kernel_rfl) ?_
      refine sx_nil ?_
      refine ex_blk_n ?_
      refine ex_then_n ?_
      refine sx_region ?_
      refine sx_rd 27 (.int .i64 (wrap64 (x_10 + 1))) (by rfl) (wr_w (by kernel_rfl)) ?_
      refine sx_rd 13 (.int .i64 (wrap64 (x_10 + 1))) (by rfl) (by kernel_rfl) ?_
      refine sx_nil ?_
      refine ex_then_n ?_
      exact ⟨_, (by omega), _, k_11, (wrap64 (x_10 + 1)), (x_9 ++ [(⟨(rd_Tile t_2 x_10).f0, (rd_Tile t_2 x_10).f1⟩ : S_Tile)]), _, _, _, _, rfl, fr_front [(1, .slice A1 l1.length c1), (2, .bool a2), (7, .slice A_32 ((x_9 ++ [(rd_Tile t_2 x_10)]).length) c_33), (11, .slice A_5 t_2.length c_6), (12, .int .i64 (t_2.length : Int)), (13, .int .i64 (wrap64 (x_10 + 1)))] ⟨rfl, rfl, rfl, rfl, rfl, rfl, trivial⟩, (hp.take [2, 3] 4 (by decide) (by simp)), h, (by omega)⟩
    ·
      rw [if_neg hc_27] at h
      refine sx_else ((decide (t_22 ≥ 0)) == a2) (by rfl) (Bool.eq_false_iff.mpr hc_27) ?_
      refine wp_skip ?_
      refine ex_blk_n ?_
      refine ex_then_n ?_
      refine sx_region ?_
      refine sx_rd 27 (.int .i64 (wrap64 (x_10 + 1))) (by rfl) (wr_w (by kernel_rfl)) ?_
      refine sx_rd 13 (.int .i64 (wrap64 (x_10 + 1))) (by rfl) (by kernel_rfl) ?_
      refine sx_nil ?_
      refine ex_then_n ?_
      exact ⟨_, (by omega), _, k_11, (wrap64 (x_10 + 1)), x_9, _, _, _, _, rfl, fr_front [(1, .slice A1 l1.length c1), (2, .bool a2), (7, .slice A_12 x_9.length c_14), (11, .slice A_5 t_2.length c_6), (12, .int .i64 (t_2.length : Int)), (13, .int .i64 (wrap64 (x_10 + 1)))] ⟨rfl, rfl, rfl, rfl, rfl, rfl, trivial⟩, (hp.take [1, 2] 3 (by decide) (by simp)), h, (by omega)⟩
  ·
    rw [if_neg hc_18] at h
    refine sx_else (decide (x_10 < (t_2.length : Int))) (by rfl) (decide_eq_false hc_18) ?_
    refine wp_exit ?_
    refine ex_then_e (ex_then_e (ex_blk_here ?_))
    refine ex_then_n ?_
    refine wp_seq ?_
    refine sx_region ?_
    refine sx_rd 28 (.slice A_12 x_9.length c_14) (by rfl) (by kernel_rfl) ?_
    refine sx_rd 6 (.slice A_12 x_9.length c_14) (by rfl) (by kernel_rfl) ?_
    refine sx_nil ?_
    refine ex_then_n ?_
    refine wp_ret ?_
    refine sx_end (.slice A_12 x_9.length c_14) (res1 6 (by rfl)) ?_
    obtain rfl := Option.some.inj h
    exact ⟨_, rfl, Kd.R_mono (row_R (hp.at_ 0 _ (by rfl))) (fun _ _ => trivial), hc2 _ (hp.tail.tail)⟩
end
section
open Go.RowKit Go.Proofs.YtokkiiepddhkiaaGreatDoorW.PrintWords Go.Proofs.YtokkiiepddhkiaaGreatDoorW.PrintLast Go.Proofs.YtokkiiepddhkiaaGreatDoorW.PrintMore
attribute [local go_sem] max2_int min2_int max_two min_two max_three min_three max_four min_four   -- for this text's walks alone
set_option linter.unusedVariables false
set_option linter.unusedSimpArgs false

def spec_tiSort.f (k : Nat) (l0 : List (S_Tile)) : Option ((List (S_Tile))) := (spec_tiPick.f k 9 l0 true).bind fun t327 => (some t327)
set_option maxRecDepth 100000 in
set_option maxHeartbeats 40000000 in
theorem spec_tiSort.calls (k : Nat) (A0 : Option Addr) (c0 : Nat) (l0 : List (S_Tile)) (r : List (S_Tile)) (w : World) (hr0 : Kd.C k55 w A0 l0.length l0) (hc0 : l0.length ≤ c0) (h : spec_tiSort.f k l0 = some r) :
    Calls Tryz.prog 48 #[.slice A0 l0.length c0] w fun e w' => ∃ v0_ : Value, e = .returned (v0_) ∧ Kd.R k55 55 w' w.heap.size (fun _ => True) v0_ r ∧ Below w.heap.size w w' := by
  obtain ⟨cs, hcs⟩ : ∃ cs, cs = [old w w.heap.size] := ⟨_, rfl⟩
  have hp : Hp w cs w := by rw [hcs]; exact Hp.old_start w
  have hc2 : ∀ W, Hp w cs W → Below w.heap.size w W := fun W h => by rw [hcs] at h; exact h.since 0 _ rfl
  have hC0 : ∀ W, Hp w cs W → Kd.C k55 W A0 l0.length l0 := fun W h => Kd.C_below hr0 (hc2 W h)
  clear hcs
  unfold spec_tiSort.f at h
  obtain ⟨t_2, hv_1, h⟩ := Option.bind_eq_some_iff.mp h
  try dsimp only at h
  refine sx_enter (N := 5) (l := [.slice A0 l0.length c0]) Tryz.func48 rfl rfl rfl ?_
  refine wp_seq ?_
  refine sx_region ?_
  refine sx_rd 2 (.slice none 0 0) (by rfl) (by kernel_rfl) ?_
  refine sx_nil ?_
  refine ex_then_n ?_
  refine wp_seq ?_
  refine sx_region ?_
  refine sx_rd 3 (.slice A0 l0.length c0) (by rfl) (by kernel_rfl) ?_
  refine sx_call 4 (by rfl) (by kernel_rfl) ((spec_tiPick.calls _ 9 A0 c0 l0 true _ _ (hC0 _ hp) hc0 hv_1).mono ?_)
  rintro _ W_8 ⟨v_4, rfl, hR_3, hb⟩
  refine ⟨_, rfl, ?_⟩
  obtain ⟨A_5, c_6, rfl, hcc_c_6, _⟩ := Kd.R_reads hR_3
  obtain ⟨F_7, hp⟩ : ∃ F, Hp w (row k55 55 w.heap.size (.slice A_5 t_2.length c_6) t_2 F :: cs) _ := ⟨_, Hp.made hp hb hR_3⟩
  refine sx_rd 2 (.slice A_5 t_2.length c_6) (by rfl) (by kernel_rfl) ?_
  refine sx_nil ?_
  refine ex_then_n ?_
  refine wp_ret ?_
  refine sx_end (.slice A_5 t_2.length c_6) (res1 2 (by rfl)) ?_
  obtain rfl := Option.some.inj h
  exact ⟨_, rfl, Kd.R_mono (row_R (hp.at_ 0 _ (by rfl))) (fun _ _ => trivial), hc2 _ (hp.tail)⟩
end
section
open Go.RowKit Go.Proofs.YtokkiiepddhkiaaGreatDoorW.PrintWords Go.Proofs.YtokkiiepddhkiaaGreatDoorW.PrintLast Go.Proofs.YtokkiiepddhkiaaGreatDoorW.PrintMore
attribute [local go_sem] max2_int min2_int max_two min_two max_three min_three max_four min_four   -- for this text's walks alone
set_option linter.unusedVariables false
set_option linter.unusedSimpArgs false

def impl_tile.f (a0 : Int) (a1 : Int) : Option (Int × Int) := some (mn a0 a1, mx a0 a1)
set_option maxRecDepth 100000 in
set_option maxHeartbeats 40000000 in
theorem impl_tile.calls (a0 : Int) (a1 : Int) (r1 : Int) (r2 : Int) (w : World) (h : impl_tile.f a0 a1 = some (r1, r2)) :
    Calls Tryz.prog 80 #[.int .i64 a0, .int .i64 a1] w fun e w' => e = .returned (.agg #[.int .i64 r1, .int .i64 r2]) ∧ Below w.heap.size w w' := by
  obtain ⟨cs, hcs⟩ : ∃ cs, cs = [old w w.heap.size] := ⟨_, rfl⟩
  have hp : Hp w cs w := by rw [hcs]; exact Hp.old_start w
  have hc2 : ∀ W, Hp w cs W → Below w.heap.size w W := fun W h => by rw [hcs] at h; exact h.since 0 _ rfl
  clear hcs
  unfold impl_tile.f at h
  refine sx_enter (N := 12) (l := [.int .i64 a0, .int .i64 a1]) Tryz.func80 rfl rfl rfl ?_
  refine wp_seq ?_
  refine sx_region ?_
  refine sx_box 4 hp #[.int .i64 0, .int .i64 0] 55 (by rfl) (fun W => by kernel_rfl) ?_
  intro g_1 W_2 hp
  refine sx_nil ?_
  refine ex_then_n ?_
  refine wp_seq ?_
  refine sx_region ?_
  refine sx_rd 5 (.int .i64 a0) (by rfl) (by kernel_rfl) ?_
  refine sx_rd 6 (.int .i64 a1) (by rfl) (by kernel_rfl) ?_
  refine sx_rd 7 (.int .i64 (mn a0 a1)) (by rfl) (by kernel_rfl) ?_
  refine sx_rd 8 (.int .i64 a0) (by rfl) (by kernel_rfl) ?_
  refine sx_rd 9 (.int .i64 a1) (by rfl) (by kernel_rfl) ?_
  refine sx_rd 10 (.int .i64 (mx a0 a1)) (by rfl) (by kernel_rfl) ?_
  refine sx_rd 11 (.agg #[.int .i64 (mn a0 a1), .int .i64 (mx a0 a1)]) (by rfl) (by kernel_rfl) ?_
  refine sx_store (t := 55) (p := (.tmp 4)) (x := (.tmp 11)) (by rfl) (by rfl) 0 (by rfl) 0 [.int .i64 (mn a0 a1), .int .i64 (mx a0 a1)] (by rfl) (by rfl) (by kernel_rfl) (by simp [Value.oneCell']) (by show 2 ≤ 2; omega) #[.int .i64 (mn a0 a1), .int .i64 (mx a0 a1)] (by rfl) hp ?_
  intro W_3 hp; simp only [List.set_cons_succ, List.set_cons_zero] at hp
  refine sx_nil ?_
  refine ex_then_n ?_
  refine wp_ret ?_
  refine sx_end (.agg #[.int .i64 (mn a0 a1), .int .i64 (mx a0 a1)]) (resc (by rfl) (by rfl) (by kernel_rfl) (by kernel_rfl) (hp.at_ 0 _ (by rfl))) ?_
  simp only [Option.some.injEq, Prod.mk.injEq] at h; obtain ⟨rfl, rfl⟩ := h
  exact ⟨rfl, hc2 _ (hp.tail)⟩
end
end Go.Proofs.YtokkiiepddhkiaaGreatDoor.Hd
