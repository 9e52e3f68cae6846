-- Printed by hprint.py and laid together by pack.py (this session's programs over the kit's print program). Lean checks it.
import Derived.Test.YtkjaahmlnbgnjaaGreatMSx5
import Derived.Test.YtkjaahmlnbgnjaaGreatMSxL
import Derived.Test.YtkjaahmlnbgnjaaGreatG0
import Derived.Test.YtkjaahmlnbgnjaaGreatMTileR
import Derived.Test.YtkjaahmlnbgnjaaGreatMWithin
namespace Go.Proofs.YtkjaahmlnbgnjaaGreat.Hd
section
open Go.RowKit Go.Proofs.YtkjaahmlnbgnjaaGreatW.PrintWords Go.Proofs.YtkjaahmlnbgnjaaGreatW.PrintLast Go.Proofs.YtkjaahmlnbgnjaaGreatW.PrintMore
attribute [local go_sem] max2_int min2_int max_two min_two max_three min_three max_four min_four   -- for this text's walks alone
set_option linter.unusedVariables false
set_option linter.unusedSimpArgs false

def laws_szGame.f (l0_0 : List (S_LTile)) (l0_1 : List (S_LTile)) (l0_2 : List Int) (a0_3 : Int) (a0_4 : Int) (a1 : Int) : Option (Int) := (laws_szTileS.f l0_0 a1).bind fun t102 => (if t102 < 0 then (some (-1)) else ((laws_szTileS.f l0_1 t102).bind fun t103 => (if t103 < 0 then (some (-1)) else ((laws_szIntS.f l0_2 t103).bind fun t104 => (if t104 < 0 then (some (-1)) else (some t104))))))
set_option maxRecDepth 100000 in
set_option maxHeartbeats 40000000 in
theorem laws_szGame.calls (A0_0 : Option Addr) (c0_0 : Nat) (l0_0 : List (S_LTile)) (A0_1 : Option Addr) (c0_1 : Nat) (l0_1 : List (S_LTile)) (A0_2 : Option Addr) (c0_2 : Nat) (l0_2 : List Int) (a0_3 : Int) (a0_4 : Int) (a1 : Int) (r : Int) (w : World) (hr0_0 : Kd.C k78 w A0_0 l0_0.length l0_0) (hc0_0 : l0_0.length ≤ c0_0) (hr0_1 : Kd.C k78 w A0_1 l0_1.length l0_1) (hc0_1 : l0_1.length ≤ c0_1) (hr0_2 : Kd.C (Kd.int .i64) w A0_2 l0_2.length l0_2) (hc0_2 : l0_2.length ≤ c0_2) (h : laws_szGame.f l0_0 l0_1 l0_2 a0_3 a0_4 a1 = some r) :
    Calls Tryz.prog 6 #[.agg #[.slice A0_0 l0_0.length c0_0, .slice A0_1 l0_1.length c0_1, .slice A0_2 l0_2.length c0_2, .int .i64 a0_3, .int .i64 a0_4], .int .i64 a1] w fun e w' => e = .returned (.int .i64 r) ∧ Below w.heap.size w w' := by
  obtain ⟨cs, hcs⟩ : ∃ cs, cs = [old w w.heap.size] := ⟨_, rfl⟩
  have hp : Hp w cs w := by rw [hcs]; exact Hp.old_start w
  have hc2 : ∀ W, Hp w cs W → Below w.heap.size w W := fun W h => by rw [hcs] at h; exact h.since 0 _ rfl
  have hC0_0 : ∀ W, Hp w cs W → Kd.C k78 W A0_0 l0_0.length l0_0 := fun W h => Kd.C_below hr0_0 (hc2 W h)
  have hC0_1 : ∀ W, Hp w cs W → Kd.C k78 W A0_1 l0_1.length l0_1 := fun W h => Kd.C_below hr0_1 (hc2 W h)
  have hC0_2 : ∀ W, Hp w cs W → Kd.C (Kd.int .i64) W A0_2 l0_2.length l0_2 := fun W h => Kd.C_below hr0_2 (hc2 W h)
  clear hcs
  unfold laws_szGame.f at h
  obtain ⟨t_2, hv_1, h⟩ := Option.bind_eq_some_iff.mp h
  try dsimp only at h
  refine sx_enter (N := 24) (l := [.agg #[.slice A0_0 l0_0.length c0_0, .slice A0_1 l0_1.length c0_1, .slice A0_2 l0_2.length c0_2, .int .i64 a0_3, .int .i64 a0_4], .int .i64 a1]) Tryz.func6 rfl rfl rfl ?_
  refine wp_seq ?_
  refine sx_region ?_
  refine sx_box 2 hp #[.slice A0_0 l0_0.length c0_0, .slice A0_1 l0_1.length c0_1, .slice A0_2 l0_2.length c0_2, .int .i64 a0_3, .int .i64 a0_4] 25 (by rfl) (fun W => by kernel_rfl) ?_
  intro g_3 W_4 hp
  refine sx_rd 4 (.int .i64 0) (by rfl) (by kernel_rfl) ?_
  refine sx_nil ?_
  refine ex_then_n ?_
  refine wp_seq ?_
  refine sx_region ?_
  refine sx_rd 5 (.pointer (some ⟨g_3, 0, none⟩)) (by rfl) (by kernel_rfl) ?_
  refine sx_rd 6 (.slice A0_0 l0_0.length c0_0) (by rfl) (ld1 (t := 22) (p := (.tmp 5)) (by rfl) (by rfl) (by kernel_rfl) (hp.cell 0 (by rfl) 0 _ (by rfl))) ?_
  refine sx_rd 7 (.int .i64 a1) (by rfl) (by kernel_rfl) ?_
  refine sx_call 8 (by rfl) (by kernel_rfl) ((laws_szTileS.calls A0_0 c0_0 l0_0 a1 _ _ (hC0_0 _ hp.tail) hc0_0 hv_1).mono ?_)
  rintro _ W_5 ⟨rfl, hb⟩
  refine ⟨_, rfl, ?_⟩
  replace hp := hp.below hb.below
  clear hb
  refine sx_rd 1 (.int .i64 t_2) (by rfl) (by kernel_rfl) ?_
  refine sx_nil ?_
  refine ex_then_n ?_
  refine wp_seq ?_
  refine wp_seq ?_
  refine sx_region ?_
  refine sx_rd 9 (.int .i64 t_2) (by rfl) (by kernel_rfl) ?_
  refine sx_rd 10 (.bool (decide (t_2 < 0))) (by rfl) (by kernel_rfl) ?_
  refine sx_nil ?_
  refine ex_then_n ?_
  by_cases hc_6 : t_2 < 0
  ·
    rw [if_pos hc_6] at h
    refine sx_then (decide (t_2 < 0)) (by rfl) (decide_eq_true hc_6) ?_
    refine wp_seq ?_
    refine sx_region ?_
    refine sx_rd 4 (.int .i64 (-1)) (by rfl) (by kernel_rfl) ?_
    refine sx_nil ?_
    refine ex_then_n ?_
    refine wp_ret ?_
    refine ex_then_r ?_
    refine sx_end (.int .i64 (-1)) (res1 4 (by rfl)) ?_
    obtain rfl := Option.some.inj h
    exact ⟨rfl, hc2 _ (hp.tail)⟩
  ·
    rw [if_neg hc_6] at h
    obtain ⟨t_8, hv_7, h⟩ := Option.bind_eq_some_iff.mp h
    try dsimp only at h
    refine sx_else (decide (t_2 < 0)) (by rfl) (decide_eq_false hc_6) ?_
    refine wp_skip ?_
    refine ex_then_n ?_
    refine wp_seq ?_
    refine sx_region ?_
    refine sx_rd 11 (.pointer (some ⟨g_3, 1, none⟩)) (by rfl) (by kernel_rfl) ?_
    refine sx_rd 12 (.slice A0_1 l0_1.length c0_1) (by rfl) (ld1 (t := 22) (p := (.tmp 11)) (by rfl) (by rfl) (by kernel_rfl) (hp.cell 0 (by rfl) 1 _ (by rfl))) ?_
    refine sx_rd 13 (.int .i64 t_2) (by rfl) (by kernel_rfl) ?_
    refine sx_call 14 (by rfl) (by kernel_rfl) ((laws_szTileS.calls A0_1 c0_1 l0_1 t_2 _ _ (hC0_1 _ hp.tail) hc0_1 hv_7).mono ?_)
    rintro _ W_9 ⟨rfl, hb⟩
    refine ⟨_, rfl, ?_⟩
    replace hp := hp.below hb.below
    clear hb
    refine sx_rd 1 (.int .i64 t_8) (by rfl) (by kernel_rfl) ?_
    refine sx_nil ?_
    refine ex_then_n ?_
    refine wp_seq ?_
    refine wp_seq ?_
    refine sx_region ?_
    refine sx_rd 15 (.int .i64 t_8) (by rfl) (by kernel_rfl) ?_
    refine sx_rd 16 (.bool (decide (t_8 < 0))) (by rfl) (by kernel_rfl) ?_
    refine sx_nil ?_
    refine ex_then_n ?_
    by_cases hc_10 : t_8 < 0
    ·
      rw [if_pos hc_10] at h
      refine sx_then (decide (t_8 < 0)) (by rfl) (decide_eq_true hc_10) ?_
      refine wp_seq ?_
      refine sx_region ?_
      refine sx_rd 4 (.int .i64 (-1)) (by rfl) (by kernel_rfl) ?_
      refine sx_nil ?_
      refine ex_then_n ?_
      refine wp_ret ?_
      refine ex_then_r ?_
      refine sx_end (.int .i64 (-1)) (res1 4 (by rfl)) ?_
      obtain rfl := Option.some.inj h
      exact ⟨rfl, hc2 _ (hp.tail)⟩
    ·
      rw [if_neg hc_10] at h
      obtain ⟨t_12, hv_11, h⟩ := Option.bind_eq_some_iff.mp h
      try dsimp only at h
      refine sx_else (decide (t_8 < 0)) (by rfl) (decide_eq_false hc_10) ?_
      refine wp_skip ?_
      refine ex_then_n ?_
      refine wp_seq ?_
      refine sx_region ?_
      refine sx_rd 17 (.pointer (some ⟨g_3, 2, none⟩)) (by rfl) (by kernel_rfl) ?_
      refine sx_rd 18 (.slice A0_2 l0_2.length c0_2) (by rfl) (ld1 (t := 23) (p := (.tmp 17)) (by rfl) (by rfl) (by kernel_rfl) (hp.cell 0 (by rfl) 2 _ (by rfl))) ?_
      refine sx_rd 19 (.int .i64 t_8) (by rfl) (by kernel_rfl) ?_
      refine sx_call 20 (by rfl) (by kernel_rfl) ((laws_szIntS.calls A0_2 c0_2 l0_2 t_8 _ _ (hC0_2 _ hp.tail) hc0_2 hv_11).mono ?_)
      rintro _ W_13 ⟨rfl, hb⟩
      refine ⟨_, rfl, ?_⟩
      replace hp := hp.below hb.below
      clear hb
      refine sx_rd 1 (.int .i64 t_12) (by rfl) (by kernel_rfl) ?_
      refine sx_nil ?_
      refine ex_then_n ?_
      refine wp_seq ?_
      refine wp_seq ?_
      refine sx_region ?_
      refine sx_rd 21 (.int .i64 t_12) (by rfl) (by kernel_rfl) ?_
      refine sx_rd 22 (.bool (decide (t_12 < 0))) (by rfl) (by kernel_rfl) ?_
      refine sx_nil ?_
      refine ex_then_n ?_
      by_cases hc_14 : t_12 < 0
      ·
        rw [if_pos hc_14] at h
        refine sx_then (decide (t_12 < 0)) (by rfl) (decide_eq_true hc_14) ?_
        refine wp_seq ?_
        refine sx_region ?_
        refine sx_rd 4 (.int .i64 (-1)) (by rfl) (by kernel_rfl) ?_
        refine sx_nil ?_
        refine ex_then_n ?_
        refine wp_ret ?_
        refine ex_then_r ?_
        refine sx_end (.int .i64 (-1)) (res1 4 (by rfl)) ?_
        obtain rfl := Option.some.inj h
        exact ⟨rfl, hc2 _ (hp.tail)⟩
      ·
        rw [if_neg hc_14] at h
        refine sx_else (decide (t_12 < 0)) (by rfl) (decide_eq_false hc_14) ?_
        refine wp_skip ?_
        refine ex_then_n ?_
        refine wp_seq ?_
        refine sx_region ?_
        refine sx_rd 23 (.int .i64 t_12) (by rfl) (by kernel_rfl) ?_
        refine sx_rd 4 (.int .i64 t_12) (by rfl) (by kernel_rfl) ?_
        refine sx_nil ?_
        refine ex_then_n ?_
        refine wp_ret ?_
        refine sx_end (.int .i64 t_12) (res1 4 (by rfl)) ?_
        obtain rfl := Option.some.inj h
        exact ⟨rfl, hc2 _ (hp.tail)⟩
end
section
open Go.RowKit Go.Proofs.YtkjaahmlnbgnjaaGreatW.PrintWords Go.Proofs.YtkjaahmlnbgnjaaGreatW.PrintLast Go.Proofs.YtkjaahmlnbgnjaaGreatW.PrintMore
attribute [local go_sem] max2_int min2_int max_two min_two max_three min_three max_four min_four   -- for this text's walks alone
set_option linter.unusedVariables false
set_option linter.unusedSimpArgs false

def spec_tiGood.f (a0_0 : Int) (a0_1 : Int) : Option (Bool) := (spec_l1In.f a0_0 0 a0_1).bind fun t106 => (if t106 = true then (some (decide (a0_1 ≤ 9))) else (some false))
set_option maxRecDepth 100000 in
set_option maxHeartbeats 40000000 in
theorem spec_tiGood.calls (a0_0 : Int) (a0_1 : Int) (r : Bool) (w : World) (h : spec_tiGood.f a0_0 a0_1 = some r) :
    Calls Tryz.prog 77 #[.agg #[.int .i64 a0_0, .int .i64 a0_1]] w fun e w' => e = .returned (.bool r) ∧ Below w.heap.size w w' := by
  obtain ⟨cs, hcs⟩ : ∃ cs, cs = [old w w.heap.size] := ⟨_, rfl⟩
  have hp : Hp w cs w := by rw [hcs]; exact Hp.old_start w
  have hc2 : ∀ W, Hp w cs W → Below w.heap.size w W := fun W h => by rw [hcs] at h; exact h.since 0 _ rfl
  clear hcs
  unfold spec_tiGood.f at h
  obtain ⟨t_2, hv_1, h⟩ := Option.bind_eq_some_iff.mp h
  try dsimp only at h
  refine sx_enter (N := 13) (l := [.agg #[.int .i64 a0_0, .int .i64 a0_1]]) Tryz.func77 rfl rfl rfl ?_
  refine wp_seq ?_
  refine sx_region ?_
  refine sx_box 1 hp #[.int .i64 a0_0, .int .i64 a0_1] 59 (by rfl) (fun W => by kernel_rfl) ?_
  intro g_3 W_4 hp
  refine sx_rd 2 (.bool false) (by rfl) (by kernel_rfl) ?_
  refine sx_nil ?_
  refine ex_then_n ?_
  refine wp_seq ?_
  by_cases hc_5 : t_2 = true
  ·
    rw [if_pos hc_5] at h
    refine sx_region ?_
    refine sx_rd 3 (.pointer (some ⟨g_3, 0, none⟩)) (by rfl) (by kernel_rfl) ?_
    refine sx_rd 4 (.int .i64 a0_0) (by rfl) (ld1 (t := 3) (p := (.tmp 3)) (by rfl) (by rfl) (by kernel_rfl) (hp.cell 0 (by rfl) 0 _ (by rfl))) ?_
    refine sx_rd 5 (.pointer (some ⟨g_3, 1, none⟩)) (by rfl) (by kernel_rfl) ?_
    refine sx_rd 6 (.int .i64 a0_1) (by rfl) (ld1 (t := 3) (p := (.tmp 5)) (by rfl) (by rfl) (by kernel_rfl) (hp.cell 0 (by rfl) 1 _ (by rfl))) ?_
    refine sx_call 7 (by rfl) (by kernel_rfl) ((spec_l1In.calls a0_0 0 a0_1 _ _ hv_1).mono ?_)
    rintro _ W_6 ⟨rfl, hb⟩
    refine ⟨.bool true, congrArg (fun b => Ending.returned (.bool b)) hc_5, ?_⟩
    replace hp := hp.below hb.below
    clear hb
    refine sx_rd 8 (.bool true) (by rfl) (by kernel_rfl) ?_
    refine sx_want (by rfl) ?_
    refine sx_rd 9 (.pointer (some ⟨g_3, 1, none⟩)) (by rfl) (by kernel_rfl) ?_
    refine sx_want (by rfl) ?_
    refine sx_rd 10 (.int .i64 a0_1) (by rfl) (ld1 (t := 3) (p := (.tmp 9)) (by rfl) (by rfl) (by kernel_rfl) (hp.cell 0 (by rfl) 1 _ (by rfl))) ?_
    refine sx_want (by rfl) ?_
    refine sx_rd 11 (.bool (decide (a0_1 ≤ 9))) (by rfl) (by kernel_rfl) ?_
    refine sx_rd 12 (.bool (decide (a0_1 ≤ 9))) (by rfl) (by kernel_rfl) ?_
    refine sx_rd 2 (.bool (decide (a0_1 ≤ 9))) (by rfl) (by kernel_rfl) ?_
    refine sx_nil ?_
    refine ex_then_n ?_
    refine wp_ret ?_
    refine sx_end (.bool (decide (a0_1 ≤ 9))) (res1 2 (by rfl)) ?_
    obtain rfl := Option.some.inj h
    exact ⟨rfl, hc2 _ (hp.tail)⟩
  ·
    rw [if_neg hc_5] at h
    refine sx_region ?_
    refine sx_rd 3 (.pointer (some ⟨g_3, 0, none⟩)) (by rfl) (by kernel_rfl) ?_
    refine sx_rd 4 (.int .i64 a0_0) (by rfl) (ld1 (t := 3) (p := (.tmp 3)) (by rfl) (by rfl) (by kernel_rfl) (hp.cell 0 (by rfl) 0 _ (by rfl))) ?_
    refine sx_rd 5 (.pointer (some ⟨g_3, 1, none⟩)) (by rfl) (by kernel_rfl) ?_
    refine sx_rd 6 (.int .i64 a0_1) (by rfl) (ld1 (t := 3) (p := (.tmp 5)) (by rfl) (by rfl) (by kernel_rfl) (hp.cell 0 (by rfl) 1 _ (by rfl))) ?_
    refine sx_call 7 (by rfl) (by kernel_rfl) ((spec_l1In.calls a0_0 0 a0_1 _ _ hv_1).mono ?_)
    rintro _ W_7 ⟨rfl, hb⟩
    refine ⟨.bool false, congrArg (fun b => Ending.returned (.bool b)) (Bool.eq_false_iff.mpr hc_5), ?_⟩
    replace hp := hp.below hb.below
    clear hb
    refine sx_rd 8 (.bool false) (by rfl) (by kernel_rfl) ?_
    refine sx_skip 9 (by rfl) (by rfl) (by rfl) ?_
    refine sx_skip 10 (by rfl) (by rfl) (by rfl) ?_
    refine sx_skip 11 (by rfl) (by rfl) (by rfl) ?_
    refine sx_rd 12 (.bool false) (by rfl) (by kernel_rfl) ?_
    refine sx_rd 2 (.bool false) (by rfl) (by kernel_rfl) ?_
    refine sx_nil ?_
    refine ex_then_n ?_
    refine wp_ret ?_
    refine sx_end (.bool false) (res1 2 (by rfl)) ?_
    obtain rfl := Option.some.inj h
    exact ⟨rfl, hc2 _ (hp.tail)⟩
end
section
open Go.RowKit Go.Proofs.YtkjaahmlnbgnjaaGreatW.PrintWords Go.Proofs.YtkjaahmlnbgnjaaGreatW.PrintLast Go.Proofs.YtkjaahmlnbgnjaaGreatW.PrintMore
attribute [local go_sem] max2_int min2_int max_two min_two max_three min_three max_four min_four   -- for this text's walks alone
set_option linter.unusedVariables false
set_option linter.unusedSimpArgs false

def spec_tiHand.l0 : Nat → List (S_Tile) → List (S_Tile) → Int → Int → Option (Bool)
  | 0, _, _, _, _ => none
  | k + 1, x0, x8, x9, x10 => if x10 < x9 then (if 0 ≤ x10 then (if x10 < (x8.length : Int) then ((spec_tiGood.f ((rd_Tile x8 x10).f0) ((rd_Tile x8 x10).f1)).bind fun t112 => (if t112 = true then (if x10 ≤ (x0.length : Int) then ((spec_tiPlace.f k (x0.take (x10 : Int).toNat) ((rd_Tile x8 x10).f0) ((rd_Tile x8 x10).f1)).bind fun t117 => (if t117 ≥ 0 then (some false) else (spec_tiHand.l0 k x0 x8 x9 (wrap64 (x10 + 1))))) else (none)) else (some false))) else (none)) else (none)) else (some true)
def spec_tiHand.f (k : Nat) (l0 : List (S_Tile)) : Option (Bool) := if (l0.length : Int) > 55 then (some false) else (spec_tiHand.l0 k l0 l0 (l0.length : Int) 0)
def spec_tiHand.T6 : Bool × List (List Nat × List Nat) := (true, [([], []), ([0], [0]), ([1], [1]), ([2, 1], [2]), ([3], [3]), ([3], [3]), ([4, 5, 3], [3, 4, 5]), ([3], [3]), ([6, 7, 3, 3], [3, 6, 7]), ([8, 3], [3, 8]), ([3, 9], [3, 9])])
def spec_tiHand.B6 : List Nat := [0, 1, 3, 7, 15, 15, 63, 15, 255, 511, 1023]
theorem spec_tiHand.tab6 : rtab .any (opsOf Tryz.f52 6) = spec_tiHand.T6 := by kernel_rfl
theorem spec_tiHand.bits6 : waitsOk spec_tiHand.T6.2 spec_tiHand.B6 = true := by kernel_rfl
set_option maxHeartbeats 8000000 in
set_option maxRecDepth 100000 in
theorem spec_tiHand.calls (k : Nat) (A0 : Option Addr) (c0 : Nat) (l0 : List (S_Tile)) (r : Bool) (w : World) (hr0 : Kd.C k59 w A0 l0.length l0) (hc0 : l0.length ≤ c0) (h : spec_tiHand.f k l0 = some r) :
    Calls Tryz.prog 52 #[.slice A0 l0.length c0] w fun e w' => e = .returned (.bool r) ∧ Below w.heap.size w w' := by
  have hu59 := Tryz.underlying59
  have HR0 := Aside0.mk hr0
  have HC0 := Aside0.mk hc0
  clear hr0 hc0
  have HB := Aside0.mk (Below.refl w.heap.size w)
  have H : (if (l0.length : Int) > 55 then (some false) else (spec_tiHand.l0 k l0 l0 (l0.length : Int) 0)) = some r := h
  clear h
  by_cases c2 : (l0.length : Int) > 55
  · rw [if_pos c2] at H
    have c2b0 : decide (55 < (l0.length : Int)) = true := decide_eq_true c2
    have c2b1 : decide (55 < l0.length) = true := decide_eq_true (by omega)
    clear c2
    obtain rfl := Option.some.inj H
    go_enter Tryz.func52, Tryz.ntmps52
    go_wp2
    go_ret
    exact ⟨by first | rfl | (simp [errW_none, errW_some] <;> rfl) | (simp [*, errW_none, errW_some] <;> rfl), by repeat (first | (with_reducible first | exact HB.out | apply below_alloc | apply pw_below_drewN | apply below_drew1) | exact HB.out)⟩
  · rw [if_neg c2] at H
    have c2b0 : decide (55 < (l0.length : Int)) = false := decide_eq_false c2
    have c2b1 : decide (55 < l0.length) = false := decide_eq_false (by omega)
    clear c2
    have H' := Aside0.mk H
    clear H
    go_enter Tryz.func52, Tryz.ntmps52
    go_wp2
    go_loopg [10] k (fun kq v10 w' => ∃ (x10_1 : Int), v10 = .int .i64 x10_1 ∧ Aside0 (spec_tiHand.l0 kq l0 l0 (l0.length : Int) x10_1 = some r) ∧ Aside0 (kq ≤ k) ∧ Aside0 (Below w.heap.size w w'))
    case atStart => exact ⟨(0), (by first | rfl | (simp; done) | (simp [*]; done)), H', ⟨Nat.le_refl _⟩, ⟨by repeat (first | (with_reducible first | exact HB.out | apply below_alloc | apply pw_below_drewN | apply below_drew1) | exact HB.out)⟩⟩
    case round =>
      clear H'
      try clear c2
      try clear c2b0
      try clear c2b1
      try clear p2
      obtain ⟨x10_1, rfl, HA, HK1, HB⟩ := hrel
      cases gk with
      | zero => exact absurd HA.out (by simp [spec_tiHand.l0])
      | succ k1 =>
        have H := HA.out
        clear HA
        simp only [spec_tiHand.l0] at H
        by_cases c3 : x10_1 < (l0.length : Int)
        · rw [if_pos c3] at H
          have c3b0 : decide (x10_1 < (l0.length : Int)) = true := decide_eq_true c3
          clear c3
          by_cases c4 : 0 ≤ x10_1
          · rw [if_pos c4] at H
            have c4b0 : decide (0 ≤ x10_1) = true := decide_eq_true c4
            clear c4
            by_cases c5 : x10_1 < (l0.length : Int)
            · rw [if_pos c5] at H
              have c5b0 : decide (x10_1 < (l0.length : Int)) = true := decide_eq_true c5
              clear c5
              replace H := Option.bind_eq_some_iff.mp H
              obtain ⟨t112, A60, H⟩ := H
              replace H : (if t112 = true then (if x10_1 ≤ (l0.length : Int) then ((spec_tiPlace.f k1 (l0.take (x10_1 : Int).toNat) ((rd_Tile l0 x10_1).f0) ((rd_Tile l0 x10_1).f1)).bind fun t117 => (if t117 ≥ 0 then (some false) else (spec_tiHand.l0 k1 l0 l0 (l0.length : Int) (wrap64 (x10_1 + 1))))) else (none)) else (some false)) = some r := H
              have A6 := Aside0.mk A60
              clear A60
              by_cases c7 : t112 = true
              · subst c7
                have H1 : (if x10_1 ≤ (l0.length : Int) then ((spec_tiPlace.f k1 (l0.take (x10_1 : Int).toNat) ((rd_Tile l0 x10_1).f0) ((rd_Tile l0 x10_1).f1)).bind fun t117 => (if t117 ≥ 0 then (some false) else (spec_tiHand.l0 k1 l0 l0 (l0.length : Int) (wrap64 (x10_1 + 1))))) else (none)) = some r := by rw [if_pos rfl] at H; exact H
                clear H
                have H := H1
                clear H1
                have c8b0 := eq_true (of_decide_eq_true (by first | (with_reducible assumption) | assumption) : 0 ≤ x10_1)
                by_cases c9 : x10_1 ≤ (l0.length : Int)
                · rw [if_pos c9] at H
                  have c9b0 := eq_true c9
                  have c9b1 : decide (x10_1 ≤ (l0.length : Int)) = true := decide_eq_true c9
                  clear c9
                  obtain ⟨y113, hy113⟩ : ∃ y_ : List (S_Tile), y_ = (l0.take (x10_1 : Int).toNat) := ⟨_, rfl⟩
                  replace H : ((spec_tiPlace.f k1 y113 ((rd_Tile l0 x10_1).f0) ((rd_Tile l0 x10_1).f1)).bind fun t117 => (if t117 ≥ 0 then (some false) else (spec_tiHand.l0 k1 l0 l0 (l0.length : Int) (wrap64 (x10_1 + 1))))) = some r := by first | (rw [hy113]; with_reducible exact H) | (have H2_ := (Option.bind_some _ _).symm.trans H; rw [hy113]; with_reducible exact H2_) | (have H2_ := (Option.bind_some _ _).symm.trans H; with_reducible exact H2_) | with_reducible exact H | (rw [hy113]; exact H) | exact H
                  have Ny113 := Aside0.mk hy113
                  clear hy113
                  replace H := Option.bind_eq_some_iff.mp H
                  obtain ⟨t117, A100, H⟩ := H
                  replace H : (if t117 ≥ 0 then (some false) else (spec_tiHand.l0 k1 l0 l0 (l0.length : Int) (wrap64 (x10_1 + 1)))) = some r := H
                  have A10 := Aside0.mk A100
                  clear A100
                  by_cases c11 : t117 ≥ 0
                  · rw [if_pos c11] at H
                    have c11b0 : decide (0 ≤ t117) = true := decide_eq_true c11
                    clear c11
                    obtain rfl := Option.some.inj H
                    have p110 : 0 ≤ (x10_1 : Int) := of_decide_eq_true (by first | (with_reducible assumption) | assumption)
                    have q110 : x10_1 < (l0.length : Int) := of_decide_eq_true (by first | (with_reducible assumption) | assumption)
                    obtain ⟨ad110, e110, hx110_0, hx110_1⟩ := at_T59 HR0.out x10_1 p110 q110
                    cases e110
                    replace hx110_0 := (HB.out.cell (World.block_lt_of_cell? w _ hx110_0)).trans hx110_0
                    replace hx110_1 := (HB.out.cell (World.block_lt_of_cell? w _ hx110_1)).trans hx110_1
                    replace p110 := eq_true p110
                    replace q110 := eq_true q110
                    try go_wp2_with (first | ((with_reducible refine gate_dst (N := 4) rfl ?_); refine box_event ?hg (N := 4) ?hd (cs := #[.int .i64 0, .int .i64 0]) (t := 59) ?hr ?_; (case hd => rfl); (case hg => rfl); (case hr => first | (go_simp; done) | (go_simp; rfl)); intro gb111 hg w12 hbox hb; have n0_ := Aside0.mk (below_step (by repeat (first | (with_reducible first | exact HB.out | apply below_alloc | apply pw_below_drewN | apply below_drew1) | exact HB.out)) hb); have n1_ := Aside0.mk (hbox); have n2_ := Aside0.mk ((by rw [hg]; exact (below_size (by repeat (first | (with_reducible first | exact HB.out | apply below_alloc | apply pw_below_drewN | apply below_drew1) | exact HB.out))) : w.heap.size ≤ gb111)); have n3_ := Aside0.mk ((by rw [hg]; exact (below_size (by repeat (first | (with_reducible first | exact HB.out | apply below_alloc | apply pw_below_drewN | apply below_drew1) | exact HB.out))) : w.heap.size ≤ gb111)); clear HB; have HB := n0_; have BK111 := n1_; have GW111 := n2_; have GE111 := n3_; clear n0_ n1_ n2_ n3_; clear hb hbox hg; have hcz13_0 : w12.cell? ⟨gb111, 0, none⟩ = some (.int .i64 0) := (blk_cell BK111.out 0).trans rfl; have hcz13_1 : w12.cell? ⟨gb111, 1, none⟩ = some (.int .i64 0) := (blk_cell BK111.out 1).trans rfl; have hfz13_0 := blk_frozen BK111.out 0; have hfz13_1 := blk_frozen BK111.out 1))
                    have n0_ : Aside0 (((w12.setCell ⟨gb111, 0, none⟩ (.int .i64 ((rd_Tile l0 x10_1).f0))).setCell ⟨gb111, 1, none⟩ (.int .i64 ((rd_Tile l0 x10_1).f1))).heap[gb111]? = some (.cells #[.int .i64 ((rd_Tile l0 x10_1).f0), .int .i64 ((rd_Tile l0 x10_1).f1)] 59 (0, 0))) := ⟨by (with_reducible repeat (first | refine blk_drewN ?_ _ | refine blk_drew ?_ | refine blk_alloc ?_ _)); refine blk_put (cs := #[.int .i64 ((rd_Tile l0 x10_1).f0), .int .i64 0]) ?_ 1 _ rfl; (with_reducible repeat (first | refine blk_drewN ?_ _ | refine blk_drew ?_ | refine blk_alloc ?_ _)); refine blk_put (cs := #[.int .i64 0, .int .i64 0]) ?_ 0 _ rfl; (with_reducible repeat (first | refine blk_drewN ?_ _ | refine blk_drew ?_ | refine blk_alloc ?_ _)); exact BK111.out⟩
                    have n1_ : Aside0 (Below w.heap.size w ((w12.setCell ⟨gb111, 0, none⟩ (.int .i64 ((rd_Tile l0 x10_1).f0))).setCell ⟨gb111, 1, none⟩ (.int .i64 ((rd_Tile l0 x10_1).f1)))) := ⟨by repeat (first | (with_reducible first | exact HB.out | apply below_alloc | apply pw_below_drewN | apply below_drew1 | refine below_set ?_ GE111.out) | exact HB.out)⟩
                    (try clear BK111)
                    (try clear HB)
                    generalize ((w12.setCell ⟨gb111, 0, none⟩ (.int .i64 ((rd_Tile l0 x10_1).f0))).setCell ⟨gb111, 1, none⟩ (.int .i64 ((rd_Tile l0 x10_1).f1))) = w14 at n0_ n1_ ⊢
                    have BK111 := n0_
                    have HB := n1_
                    clear n0_ n1_
                    have n0_ := Aside0.mk (blk_drew BK111.out)
                    have n1_ := Aside0.mk (below_drew1 HB.out)
                    clear BK111
                    clear HB
                    have BK111 := n0_
                    have HB := n1_
                    clear n0_ n1_
                    refine start_ (n := 11) (S := fun w' => w'.cell? ⟨gb111, 0, none⟩ = some (.int .i64 ((rd_Tile l0 x10_1).f0)) ∧ w'.cell? ⟨gb111, 1, none⟩ = some (.int .i64 ((rd_Tile l0 x10_1).f1))) (ds := []) #[false, false, false, false, false, false, false, false, false, false, false] (by kernel_rfl) rfl rfl ⟨(blk_cell BK111.out 0).trans rfl, (blk_cell BK111.out 1).trans rfl⟩ (fun hHeld => ?_); refine with_tabW spec_tiHand.tab6 spec_tiHand.bits6 (fun HT_ HW_ => ?_)
                    generalize w14.drew = w15 at BK111 HB hHeld ⊢
                    refine take_ (i := 0) (N := some 15) (v := ?_) (a' := ?_) #[true, false, false, false, false, false, false, false, false, false, false] rfl rfl (take_ofW HT_.out HW_.out (by kernel_rfl)) (fun _ _ _ h => h) (Or.inl ⟨by rfl, ?_⟩) hHeld ?_ ?_
                    rotate_left
                    · rintro w' ⟨s0, s1⟩
                      go_simp
                      with_reducible rfl
                    rotate_left
                    · simp only [Act.put, List.setIfInBounds_toArray, List.set_cons_zero, List.set_cons_succ, i64_w, i32_w]
                      rfl
                    refine one_ (i := 1) (N := some 16) #[true, true, false, false, false, false, false, false, false, false, false] rfl rfl (one_of HT_.out (by kernel_rfl)) (by decide) (fun K hK => ?_)
                    refine goes_ Tryz.func77 (by kernel_rfl) rfl #[.agg #[.int .i64 ((rd_Tile l0 x10_1).f0), .int .i64 ((rd_Tile l0 x10_1).f1)]] (by rfl) rfl rfl (by (try simp only [List.map_toArray, List.map_cons, List.map_nil]); first | done | rfl | (simp only [List.length_drop, List.length_take]; rfl)) ?_
                    with_reducible refine (spec_tiGood.calls ((rd_Tile l0 x10_1).f0) ((rd_Tile l0 x10_1).f1) true _ A6.out).mono ?_
                    rintro e w16 ⟨rfl, hb⟩
                    refine ⟨_, rfl, ?_⟩
                    have n0_ := Aside0.mk (blk_below (g := gb111) (o := .cells #[.int .i64 ((rd_Tile l0 x10_1).f0), .int .i64 ((rd_Tile l0 x10_1).f1)] 59 (0, 0)) (by (with_reducible repeat (first | refine blk_drewN ?_ _ | refine blk_drew ?_ | refine blk_alloc ?_ _)); exact BK111.out) hb)
                    have n1_ := Aside0.mk (below_step (by repeat (first | (with_reducible first | exact HB.out | apply below_alloc | apply pw_below_drewN | apply below_drew1 | refine below_set ?_ GE111.out) | exact HB.out)) hb)
                    clear BK111
                    clear HB
                    have BK111 := n0_
                    have HB := n1_
                    clear n0_ n1_
                    (try clear hb)
                    (try clear hb2)
                    (try clear hk)
                    (try clear hi)
                    have q17 : (x10_1 : Int) ≤ ((l0.length : Int) : Int) := of_decide_eq_true (by first | (with_reducible assumption) | assumption)
                    obtain ⟨i017, hi017, _, hsz17, _⟩ := info_parts info59
                    have hroom17 : l0.length ≤ c0 := HC0.out
                    have hC17 : Kd.C k59 _ (some ad110) l0.length l0 := HR0.out
                    have hcut17 := cut_to (P := Tryz.prog) 27 59 .i64 Tryz.underlying27 hi017 (some ad110) l0.length c0 x10_1 (of_decide_eq_true (by first | (with_reducible assumption) | assumption)) q17 hroom17
                    have hr17 := Kd.C_take (m := (x10_1 : Int).toNat) hC17 (by omega)
                    have hy17 : y113.length = (x10_1 : Int).toNat := (by rw [Ny113.out, List.length_take]; omega)
                    rw [← Ny113.out] at hr17
                    rw [← hy17] at hcut17
                    have HR116 := Aside0.mk hr17
                    have HC116 := Aside0.mk (show y113.length ≤ c0 from by omega)
                    clear hr17 hC17 hroom17 hi017 hsz17
                    have KY17 := Aside0.mk hy17
                    clear hy17
                    replace q17 := eq_true q17
                    refine hK.out _ _ ⟨(blk_cell BK111.out 0).trans rfl, (blk_cell BK111.out 1).trans rfl⟩ (fun hHeld => ?_)
                    clear hK K
                    refine norm_ (a' := ?_) ?_ ?_
                    rotate_left
                    · show Act.put _ (some 16) _ = _
                      simp only [Act.put, List.setIfInBounds_toArray, List.set_cons_zero, List.set_cons_succ, i64_w, i32_w]
                      rfl
                    refine pure_ (i := 2) (N := some 17) (v := ?_) (a' := ?_) #[true, true, true, false, false, false, false, false, false, false, false] rfl rfl (any_of HT_.out (by kernel_rfl)) (fun _ _ _ h => h) (Or.inl ⟨by rfl, ?_⟩) ?_ ?_
                    rotate_left
                    · intro w'
                      go_simp
                      with_reducible rfl
                    rotate_left
                    · simp only [Act.put, List.setIfInBounds_toArray, List.set_cons_zero, List.set_cons_succ, i64_w, i32_w]
                      rfl
                    refine pure_ (i := 3) (N := some 18) (v := ?_) (a' := ?_) #[true, true, true, true, false, false, false, false, false, false, false] rfl rfl (any_of HT_.out (by kernel_rfl)) (fun _ _ _ h => h) (Or.inl ⟨by rfl, ?_⟩) ?_ ?_
                    rotate_left
                    · intro w'
                      go_simp
                      with_reducible rfl
                    rotate_left
                    · simp only [Act.put, List.setIfInBounds_toArray, List.set_cons_zero, List.set_cons_succ, i64_w, i32_w]
                      rfl
                    refine pure_ (i := 4) (N := some 19) (v := ?_) (a' := ?_) #[true, true, true, true, true, false, false, false, false, false, false] rfl rfl (any_of HT_.out (by kernel_rfl)) (fun _ _ _ h => h) (Or.inl ⟨by rfl, ?_⟩) ?_ ?_
                    rotate_left
                    · intro w'
                      go_simp
                      with_reducible rfl
                    rotate_left
                    · simp only [Act.put, List.setIfInBounds_toArray, List.set_cons_zero, List.set_cons_succ, i64_w, i32_w]
                      rfl
                    refine pure_ (i := 5) (N := some 20) (v := ?_) (a' := ?_) #[true, true, true, true, true, true, false, false, false, false, false] rfl rfl (any_of HT_.out (by kernel_rfl)) (fun _ _ _ h => h) (Or.inl ⟨by rfl, ?_⟩) ?_ ?_
                    rotate_left
                    · intro w'
                      go_simp
                      with_reducible rfl
                    rotate_left
                    · simp only [Act.put, List.setIfInBounds_toArray, List.set_cons_zero, List.set_cons_succ, i64_w, i32_w]
                      rfl
                    refine pure_ (i := 6) (N := some 21) (v := ?_) (a' := ?_) #[true, true, true, true, true, true, true, false, false, false, false] rfl rfl (any_of HT_.out (by kernel_rfl)) (fun _ _ _ h => h) (Or.inl ⟨by rfl, ?_⟩) ?_ ?_
                    rotate_left
                    · intro w'
                      go_simp
                      with_reducible rfl
                    rotate_left
                    · simp only [Act.put, List.setIfInBounds_toArray, List.set_cons_zero, List.set_cons_succ, i64_w, i32_w]
                      rfl
                    refine take_ (i := 7) (N := some 22) (v := ?_) (a' := ?_) #[true, true, true, true, true, true, true, true, false, false, false] rfl rfl (take_ofW HT_.out HW_.out (by kernel_rfl)) (fun _ _ _ h => h) (Or.inl ⟨by rfl, ?_⟩) hHeld ?_ ?_
                    rotate_left
                    · rintro w' ⟨s0, s1⟩
                      go_simp
                      with_reducible rfl
                    rotate_left
                    · simp only [Act.put, List.setIfInBounds_toArray, List.set_cons_zero, List.set_cons_succ, i64_w, i32_w]
                      rfl
                    refine one_ (i := 8) (N := some 23) #[true, true, true, true, true, true, true, true, true, false, false] rfl rfl (one_of HT_.out (by kernel_rfl)) (by decide) (fun K hK => ?_)
                    refine goes_ Tryz.func78 (by kernel_rfl) rfl #[.slice (some ad110) y113.length c0, .agg #[.int .i64 ((rd_Tile l0 x10_1).f0), .int .i64 ((rd_Tile l0 x10_1).f1)]] (by rfl) rfl rfl (by (try simp only [List.map_toArray, List.map_cons, List.map_nil]); first | done | rfl | (simp only [List.length_drop, List.length_take]; rfl)) ?_
                    with_reducible refine (spec_tiPlace.calls k1 _ _ y113 ((rd_Tile l0 x10_1).f0) ((rd_Tile l0 x10_1).f1) t117 _ ?side1 ?side2 A10.out).mono ?_
                    (case side1 => repeat (first | exact (Kd.C_below HR116.out HB.out) | (with_reducible refine Kd.C_alloc ?_ _) | (with_reducible refine Kd.C_drewN ?_ _) | (with_reducible refine Kd.C_drew ?_)))
                    (case side2 => exact HC116.out)
                    rintro e w18 ⟨rfl, hb⟩
                    refine ⟨_, rfl, ?_⟩
                    have n0_ := Aside0.mk (blk_below (g := gb111) (o := .cells #[.int .i64 ((rd_Tile l0 x10_1).f0), .int .i64 ((rd_Tile l0 x10_1).f1)] 59 (0, 0)) (by (with_reducible repeat (first | refine blk_drewN ?_ _ | refine blk_drew ?_ | refine blk_alloc ?_ _)); exact BK111.out) hb)
                    have n1_ := Aside0.mk (below_step (by repeat (first | (with_reducible first | exact HB.out | apply below_alloc | apply pw_below_drewN | apply below_drew1 | refine below_set ?_ GE111.out) | exact HB.out)) hb)
                    clear BK111
                    clear HB
                    have BK111 := n0_
                    have HB := n1_
                    clear n0_ n1_
                    (try clear hb)
                    (try clear hb2)
                    (try clear hk)
                    (try clear hi)
                    refine hK.out _ _ ⟨(blk_cell BK111.out 0).trans rfl, (blk_cell BK111.out 1).trans rfl⟩ (fun hHeld => ?_)
                    clear hK K
                    refine norm_ (a' := ?_) ?_ ?_
                    rotate_left
                    · show Act.put _ (some 23) _ = _
                      simp only [Act.put, List.setIfInBounds_toArray, List.set_cons_zero, List.set_cons_succ, i64_w, i32_w]
                      rfl
                    refine pure_ (i := 9) (N := some 24) (v := ?_) (a' := ?_) #[true, true, true, true, true, true, true, true, true, true, false] rfl rfl (any_of HT_.out (by kernel_rfl)) (fun _ _ _ h => h) (Or.inl ⟨by rfl, ?_⟩) ?_ ?_
                    rotate_left
                    · intro w'
                      go_simp
                      with_reducible rfl
                    rotate_left
                    · simp only [Act.put, List.setIfInBounds_toArray, List.set_cons_zero, List.set_cons_succ, i64_w, i32_w]
                      rfl
                    refine pure_ (i := 10) (N := some 25) (v := ?_) (a' := ?_) #[true, true, true, true, true, true, true, true, true, true, true] rfl rfl (any_of HT_.out (by kernel_rfl)) (fun _ _ _ h => h) (Or.inl ⟨by rfl, ?_⟩) ?_ ?_
                    rotate_left
                    · intro w'
                      go_simp
                      with_reducible rfl
                    rotate_left
                    · simp only [Act.put, List.setIfInBounds_toArray, List.set_cons_zero, List.set_cons_succ, i64_w, i32_w]
                      rfl
                    refine done_ (done_of HT_.out (by kernel_rfl)) ?_
                    try go_wp2
                    go_ret
                    exact ⟨by first | rfl | (simp [errW_none, errW_some] <;> rfl) | (simp [*, errW_none, errW_some] <;> rfl), by repeat (first | (with_reducible first | exact HB.out | apply below_alloc | apply pw_below_drewN | apply below_drew1 | refine below_set ?_ GE111.out) | exact HB.out)⟩
                  · rw [if_neg c11] at H
                    have c11b0 : decide (0 ≤ t117) = false := decide_eq_false c11
                    clear c11
                    have H' := Aside0.mk H
                    clear H
                    have p110 : 0 ≤ (x10_1 : Int) := of_decide_eq_true (by first | (with_reducible assumption) | assumption)
                    have q110 : x10_1 < (l0.length : Int) := of_decide_eq_true (by first | (with_reducible assumption) | assumption)
                    obtain ⟨ad110, e110, hx110_0, hx110_1⟩ := at_T59 HR0.out x10_1 p110 q110
                    cases e110
                    replace hx110_0 := (HB.out.cell (World.block_lt_of_cell? w _ hx110_0)).trans hx110_0
                    replace hx110_1 := (HB.out.cell (World.block_lt_of_cell? w _ hx110_1)).trans hx110_1
                    replace p110 := eq_true p110
                    replace q110 := eq_true q110
                    try go_wp2_with (first | ((with_reducible refine gate_dst (N := 4) rfl ?_); refine box_event ?hg (N := 4) ?hd (cs := #[.int .i64 0, .int .i64 0]) (t := 59) ?hr ?_; (case hd => rfl); (case hg => rfl); (case hr => first | (go_simp; done) | (go_simp; rfl)); intro gb111 hg w19 hbox hb; have n0_ := Aside0.mk (below_step (by repeat (first | (with_reducible first | exact HB.out | apply below_alloc | apply pw_below_drewN | apply below_drew1) | exact HB.out)) hb); have n1_ := Aside0.mk (hbox); have n2_ := Aside0.mk ((by rw [hg]; exact (below_size (by repeat (first | (with_reducible first | exact HB.out | apply below_alloc | apply pw_below_drewN | apply below_drew1) | exact HB.out))) : w.heap.size ≤ gb111)); have n3_ := Aside0.mk ((by rw [hg]; exact (below_size (by repeat (first | (with_reducible first | exact HB.out | apply below_alloc | apply pw_below_drewN | apply below_drew1) | exact HB.out))) : w.heap.size ≤ gb111)); clear HB; have HB := n0_; have BK111 := n1_; have GW111 := n2_; have GE111 := n3_; clear n0_ n1_ n2_ n3_; clear hb hbox hg; have hcz20_0 : w19.cell? ⟨gb111, 0, none⟩ = some (.int .i64 0) := (blk_cell BK111.out 0).trans rfl; have hcz20_1 : w19.cell? ⟨gb111, 1, none⟩ = some (.int .i64 0) := (blk_cell BK111.out 1).trans rfl; have hfz20_0 := blk_frozen BK111.out 0; have hfz20_1 := blk_frozen BK111.out 1))
                    have n0_ : Aside0 (((w19.setCell ⟨gb111, 0, none⟩ (.int .i64 ((rd_Tile l0 x10_1).f0))).setCell ⟨gb111, 1, none⟩ (.int .i64 ((rd_Tile l0 x10_1).f1))).heap[gb111]? = some (.cells #[.int .i64 ((rd_Tile l0 x10_1).f0), .int .i64 ((rd_Tile l0 x10_1).f1)] 59 (0, 0))) := ⟨by (with_reducible repeat (first | refine blk_drewN ?_ _ | refine blk_drew ?_ | refine blk_alloc ?_ _)); refine blk_put (cs := #[.int .i64 ((rd_Tile l0 x10_1).f0), .int .i64 0]) ?_ 1 _ rfl; (with_reducible repeat (first | refine blk_drewN ?_ _ | refine blk_drew ?_ | refine blk_alloc ?_ _)); refine blk_put (cs := #[.int .i64 0, .int .i64 0]) ?_ 0 _ rfl; (with_reducible repeat (first | refine blk_drewN ?_ _ | refine blk_drew ?_ | refine blk_alloc ?_ _)); exact BK111.out⟩
                    have n1_ : Aside0 (Below w.heap.size w ((w19.setCell ⟨gb111, 0, none⟩ (.int .i64 ((rd_Tile l0 x10_1).f0))).setCell ⟨gb111, 1, none⟩ (.int .i64 ((rd_Tile l0 x10_1).f1)))) := ⟨by repeat (first | (with_reducible first | exact HB.out | apply below_alloc | apply pw_below_drewN | apply below_drew1 | refine below_set ?_ GE111.out) | exact HB.out)⟩
                    (try clear BK111)
                    (try clear HB)
                    generalize ((w19.setCell ⟨gb111, 0, none⟩ (.int .i64 ((rd_Tile l0 x10_1).f0))).setCell ⟨gb111, 1, none⟩ (.int .i64 ((rd_Tile l0 x10_1).f1))) = w21 at n0_ n1_ ⊢
                    have BK111 := n0_
                    have HB := n1_
                    clear n0_ n1_
                    have n0_ := Aside0.mk (blk_drew BK111.out)
                    have n1_ := Aside0.mk (below_drew1 HB.out)
                    clear BK111
                    clear HB
                    have BK111 := n0_
                    have HB := n1_
                    clear n0_ n1_
                    refine start_ (n := 11) (S := fun w' => w'.cell? ⟨gb111, 0, none⟩ = some (.int .i64 ((rd_Tile l0 x10_1).f0)) ∧ w'.cell? ⟨gb111, 1, none⟩ = some (.int .i64 ((rd_Tile l0 x10_1).f1))) (ds := []) #[false, false, false, false, false, false, false, false, false, false, false] (by kernel_rfl) rfl rfl ⟨(blk_cell BK111.out 0).trans rfl, (blk_cell BK111.out 1).trans rfl⟩ (fun hHeld => ?_); refine with_tabW spec_tiHand.tab6 spec_tiHand.bits6 (fun HT_ HW_ => ?_)
                    generalize w21.drew = w22 at BK111 HB hHeld ⊢
                    refine take_ (i := 0) (N := some 15) (v := ?_) (a' := ?_) #[true, false, false, false, false, false, false, false, false, false, false] rfl rfl (take_ofW HT_.out HW_.out (by kernel_rfl)) (fun _ _ _ h => h) (Or.inl ⟨by rfl, ?_⟩) hHeld ?_ ?_
                    rotate_left
                    · rintro w' ⟨s0, s1⟩
                      go_simp
                      with_reducible rfl
                    rotate_left
                    · simp only [Act.put, List.setIfInBounds_toArray, List.set_cons_zero, List.set_cons_succ, i64_w, i32_w]
                      rfl
                    refine one_ (i := 1) (N := some 16) #[true, true, false, false, false, false, false, false, false, false, false] rfl rfl (one_of HT_.out (by kernel_rfl)) (by decide) (fun K hK => ?_)
                    refine goes_ Tryz.func77 (by kernel_rfl) rfl #[.agg #[.int .i64 ((rd_Tile l0 x10_1).f0), .int .i64 ((rd_Tile l0 x10_1).f1)]] (by rfl) rfl rfl (by (try simp only [List.map_toArray, List.map_cons, List.map_nil]); first | done | rfl | (simp only [List.length_drop, List.length_take]; rfl)) ?_
                    with_reducible refine (spec_tiGood.calls ((rd_Tile l0 x10_1).f0) ((rd_Tile l0 x10_1).f1) true _ A6.out).mono ?_
                    rintro e w23 ⟨rfl, hb⟩
                    refine ⟨_, rfl, ?_⟩
                    have n0_ := Aside0.mk (blk_below (g := gb111) (o := .cells #[.int .i64 ((rd_Tile l0 x10_1).f0), .int .i64 ((rd_Tile l0 x10_1).f1)] 59 (0, 0)) (by (with_reducible repeat (first | refine blk_drewN ?_ _ | refine blk_drew ?_ | refine blk_alloc ?_ _)); exact BK111.out) hb)
                    have n1_ := Aside0.mk (below_step (by repeat (first | (with_reducible first | exact HB.out | apply below_alloc | apply pw_below_drewN | apply below_drew1 | refine below_set ?_ GE111.out) | exact HB.out)) hb)
                    clear BK111
                    clear HB
                    have BK111 := n0_
                    have HB := n1_
                    clear n0_ n1_
                    (try clear hb)
                    (try clear hb2)
                    (try clear hk)
                    (try clear hi)
                    have q24 : (x10_1 : Int) ≤ ((l0.length : Int) : Int) := of_decide_eq_true (by first | (with_reducible assumption) | assumption)
                    obtain ⟨i024, hi024, _, hsz24, _⟩ := info_parts info59
                    have hroom24 : l0.length ≤ c0 := HC0.out
                    have hC24 : Kd.C k59 _ (some ad110) l0.length l0 := HR0.out
                    have hcut24 := cut_to (P := Tryz.prog) 27 59 .i64 Tryz.underlying27 hi024 (some ad110) l0.length c0 x10_1 (of_decide_eq_true (by first | (with_reducible assumption) | assumption)) q24 hroom24
                    have hr24 := Kd.C_take (m := (x10_1 : Int).toNat) hC24 (by omega)
                    have hy24 : y113.length = (x10_1 : Int).toNat := (by rw [Ny113.out, List.length_take]; omega)
                    rw [← Ny113.out] at hr24
                    rw [← hy24] at hcut24
                    have HR116 := Aside0.mk hr24
                    have HC116 := Aside0.mk (show y113.length ≤ c0 from by omega)
                    clear hr24 hC24 hroom24 hi024 hsz24
                    have KY24 := Aside0.mk hy24
                    clear hy24
                    replace q24 := eq_true q24
                    refine hK.out _ _ ⟨(blk_cell BK111.out 0).trans rfl, (blk_cell BK111.out 1).trans rfl⟩ (fun hHeld => ?_)
                    clear hK K
                    refine norm_ (a' := ?_) ?_ ?_
                    rotate_left
                    · show Act.put _ (some 16) _ = _
                      simp only [Act.put, List.setIfInBounds_toArray, List.set_cons_zero, List.set_cons_succ, i64_w, i32_w]
                      rfl
                    refine pure_ (i := 2) (N := some 17) (v := ?_) (a' := ?_) #[true, true, true, false, false, false, false, false, false, false, false] rfl rfl (any_of HT_.out (by kernel_rfl)) (fun _ _ _ h => h) (Or.inl ⟨by rfl, ?_⟩) ?_ ?_
                    rotate_left
                    · intro w'
                      go_simp
                      with_reducible rfl
                    rotate_left
                    · simp only [Act.put, List.setIfInBounds_toArray, List.set_cons_zero, List.set_cons_succ, i64_w, i32_w]
                      rfl
                    refine pure_ (i := 3) (N := some 18) (v := ?_) (a' := ?_) #[true, true, true, true, false, false, false, false, false, false, false] rfl rfl (any_of HT_.out (by kernel_rfl)) (fun _ _ _ h => h) (Or.inl ⟨by rfl, ?_⟩) ?_ ?_
                    rotate_left
                    · intro w'
                      go_simp
                      with_reducible rfl
                    rotate_left
                    · simp only [Act.put, List.setIfInBounds_toArray, List.set_cons_zero, List.set_cons_succ, i64_w, i32_w]
                      rfl
                    refine pure_ (i := 4) (N := some 19) (v := ?_) (a' := ?_) #[true, true, true, true, true, false, false, false, false, false, false] rfl rfl (any_of HT_.out (by kernel_rfl)) (fun _ _ _ h => h) (Or.inl ⟨by rfl, ?_⟩) ?_ ?_
                    rotate_left
                    · intro w'
                      go_simp
                      with_reducible rfl
                    rotate_left
                    · simp only [Act.put, List.setIfInBounds_toArray, List.set_cons_zero, List.set_cons_succ, i64_w, i32_w]
                      rfl
                    refine pure_ (i := 5) (N := some 20) (v := ?_) (a' := ?_) #[true, true, true, true, true, true, false, false, false, false, false] rfl rfl (any_of HT_.out (by kernel_rfl)) (fun _ _ _ h => h) (Or.inl ⟨by rfl, ?_⟩) ?_ ?_
                    rotate_left
                    · intro w'
                      go_simp
                      with_reducible rfl
                    rotate_left
                    · simp only [Act.put, List.setIfInBounds_toArray, List.set_cons_zero, List.set_cons_succ, i64_w, i32_w]
                      rfl
                    refine pure_ (i := 6) (N := some 21) (v := ?_) (a' := ?_) #[true, true, true, true, true, true, true, false, false, false, false] rfl rfl (any_of HT_.out (by kernel_rfl)) (fun _ _ _ h => h) (Or.inl ⟨by rfl, ?_⟩) ?_ ?_
                    rotate_left
                    · intro w'
                      go_simp
                      with_reducible rfl
                    rotate_left
                    · simp only [Act.put, List.setIfInBounds_toArray, List.set_cons_zero, List.set_cons_succ, i64_w, i32_w]
                      rfl
                    refine take_ (i := 7) (N := some 22) (v := ?_) (a' := ?_) #[true, true, true, true, true, true, true, true, false, false, false] rfl rfl (take_ofW HT_.out HW_.out (by kernel_rfl)) (fun _ _ _ h => h) (Or.inl ⟨by rfl, ?_⟩) hHeld ?_ ?_
                    rotate_left
                    · rintro w' ⟨s0, s1⟩
                      go_simp
                      with_reducible rfl
                    rotate_left
                    · simp only [Act.put, List.setIfInBounds_toArray, List.set_cons_zero, List.set_cons_succ, i64_w, i32_w]
                      rfl
                    refine one_ (i := 8) (N := some 23) #[true, true, true, true, true, true, true, true, true, false, false] rfl rfl (one_of HT_.out (by kernel_rfl)) (by decide) (fun K hK => ?_)
                    refine goes_ Tryz.func78 (by kernel_rfl) rfl #[.slice (some ad110) y113.length c0, .agg #[.int .i64 ((rd_Tile l0 x10_1).f0), .int .i64 ((rd_Tile l0 x10_1).f1)]] (by rfl) rfl rfl (by (try simp only [List.map_toArray, List.map_cons, List.map_nil]); first | done | rfl | (simp only [List.length_drop, List.length_take]; rfl)) ?_
                    with_reducible refine (spec_tiPlace.calls k1 _ _ y113 ((rd_Tile l0 x10_1).f0) ((rd_Tile l0 x10_1).f1) t117 _ ?side1 ?side2 A10.out).mono ?_
                    (case side1 => repeat (first | exact (Kd.C_below HR116.out HB.out) | (with_reducible refine Kd.C_alloc ?_ _) | (with_reducible refine Kd.C_drewN ?_ _) | (with_reducible refine Kd.C_drew ?_)))
                    (case side2 => exact HC116.out)
                    rintro e w25 ⟨rfl, hb⟩
                    refine ⟨_, rfl, ?_⟩
                    have n0_ := Aside0.mk (blk_below (g := gb111) (o := .cells #[.int .i64 ((rd_Tile l0 x10_1).f0), .int .i64 ((rd_Tile l0 x10_1).f1)] 59 (0, 0)) (by (with_reducible repeat (first | refine blk_drewN ?_ _ | refine blk_drew ?_ | refine blk_alloc ?_ _)); exact BK111.out) hb)
                    have n1_ := Aside0.mk (below_step (by repeat (first | (with_reducible first | exact HB.out | apply below_alloc | apply pw_below_drewN | apply below_drew1 | refine below_set ?_ GE111.out) | exact HB.out)) hb)
                    clear BK111
                    clear HB
                    have BK111 := n0_
                    have HB := n1_
                    clear n0_ n1_
                    (try clear hb)
                    (try clear hb2)
                    (try clear hk)
                    (try clear hi)
                    refine hK.out _ _ ⟨(blk_cell BK111.out 0).trans rfl, (blk_cell BK111.out 1).trans rfl⟩ (fun hHeld => ?_)
                    clear hK K
                    refine norm_ (a' := ?_) ?_ ?_
                    rotate_left
                    · show Act.put _ (some 23) _ = _
                      simp only [Act.put, List.setIfInBounds_toArray, List.set_cons_zero, List.set_cons_succ, i64_w, i32_w]
                      rfl
                    refine pure_ (i := 9) (N := some 24) (v := ?_) (a' := ?_) #[true, true, true, true, true, true, true, true, true, true, false] rfl rfl (any_of HT_.out (by kernel_rfl)) (fun _ _ _ h => h) (Or.inl ⟨by rfl, ?_⟩) ?_ ?_
                    rotate_left
                    · intro w'
                      go_simp
                      with_reducible rfl
                    rotate_left
                    · simp only [Act.put, List.setIfInBounds_toArray, List.set_cons_zero, List.set_cons_succ, i64_w, i32_w]
                      rfl
                    refine pure_ (i := 10) (N := some 25) (v := ?_) (a' := ?_) #[true, true, true, true, true, true, true, true, true, true, true] rfl rfl (any_of HT_.out (by kernel_rfl)) (fun _ _ _ h => h) (Or.inl ⟨by rfl, ?_⟩) ?_ ?_
                    rotate_left
                    · intro w'
                      go_simp
                      with_reducible rfl
                    rotate_left
                    · simp only [Act.put, List.setIfInBounds_toArray, List.set_cons_zero, List.set_cons_succ, i64_w, i32_w]
                      rfl
                    refine done_ (done_of HT_.out (by kernel_rfl)) ?_
                    try go_wp2
                    go_roundg k1
                    case measure => have := HK1.out; omega
                    case rel => exact ⟨(wrap64 (x10_1 + 1)), (by first | rfl | (simp; done) | (simp [*]; done)), H', ⟨by have := HK1.out; omega⟩, ⟨by repeat (first | (with_reducible first | exact HB.out | apply below_alloc | apply pw_below_drewN | apply below_drew1 | refine below_set ?_ GE111.out) | exact HB.out)⟩⟩
                · rw [if_neg c9] at H
                  exact absurd H (by simp)
              · replace c7 := Bool.eq_false_iff.mpr c7
                subst c7
                have H1 : (some false) = some r := by rw [if_neg (show ¬ (false = true) by decide)] at H; exact H
                clear H
                have H := H1
                clear H1
                obtain rfl := Option.some.inj H
                have p110 : 0 ≤ (x10_1 : Int) := of_decide_eq_true (by first | (with_reducible assumption) | assumption)
                have q110 : x10_1 < (l0.length : Int) := of_decide_eq_true (by first | (with_reducible assumption) | assumption)
                obtain ⟨ad110, e110, hx110_0, hx110_1⟩ := at_T59 HR0.out x10_1 p110 q110
                cases e110
                replace hx110_0 := (HB.out.cell (World.block_lt_of_cell? w _ hx110_0)).trans hx110_0
                replace hx110_1 := (HB.out.cell (World.block_lt_of_cell? w _ hx110_1)).trans hx110_1
                replace p110 := eq_true p110
                replace q110 := eq_true q110
                try go_wp2_with (first | ((with_reducible refine gate_dst (N := 4) rfl ?_); refine box_event ?hg (N := 4) ?hd (cs := #[.int .i64 0, .int .i64 0]) (t := 59) ?hr ?_; (case hd => rfl); (case hg => rfl); (case hr => first | (go_simp; done) | (go_simp; rfl)); intro gb111 hg w26 hbox hb; have n0_ := Aside0.mk (below_step (by repeat (first | (with_reducible first | exact HB.out | apply below_alloc | apply pw_below_drewN | apply below_drew1) | exact HB.out)) hb); have n1_ := Aside0.mk (hbox); have n2_ := Aside0.mk ((by rw [hg]; exact (below_size (by repeat (first | (with_reducible first | exact HB.out | apply below_alloc | apply pw_below_drewN | apply below_drew1) | exact HB.out))) : w.heap.size ≤ gb111)); have n3_ := Aside0.mk ((by rw [hg]; exact (below_size (by repeat (first | (with_reducible first | exact HB.out | apply below_alloc | apply pw_below_drewN | apply below_drew1) | exact HB.out))) : w.heap.size ≤ gb111)); clear HB; have HB := n0_; have BK111 := n1_; have GW111 := n2_; have GE111 := n3_; clear n0_ n1_ n2_ n3_; clear hb hbox hg; have hcz27_0 : w26.cell? ⟨gb111, 0, none⟩ = some (.int .i64 0) := (blk_cell BK111.out 0).trans rfl; have hcz27_1 : w26.cell? ⟨gb111, 1, none⟩ = some (.int .i64 0) := (blk_cell BK111.out 1).trans rfl; have hfz27_0 := blk_frozen BK111.out 0; have hfz27_1 := blk_frozen BK111.out 1))
                have n0_ : Aside0 (((w26.setCell ⟨gb111, 0, none⟩ (.int .i64 ((rd_Tile l0 x10_1).f0))).setCell ⟨gb111, 1, none⟩ (.int .i64 ((rd_Tile l0 x10_1).f1))).heap[gb111]? = some (.cells #[.int .i64 ((rd_Tile l0 x10_1).f0), .int .i64 ((rd_Tile l0 x10_1).f1)] 59 (0, 0))) := ⟨by (with_reducible repeat (first | refine blk_drewN ?_ _ | refine blk_drew ?_ | refine blk_alloc ?_ _)); refine blk_put (cs := #[.int .i64 ((rd_Tile l0 x10_1).f0), .int .i64 0]) ?_ 1 _ rfl; (with_reducible repeat (first | refine blk_drewN ?_ _ | refine blk_drew ?_ | refine blk_alloc ?_ _)); refine blk_put (cs := #[.int .i64 0, .int .i64 0]) ?_ 0 _ rfl; (with_reducible repeat (first | refine blk_drewN ?_ _ | refine blk_drew ?_ | refine blk_alloc ?_ _)); exact BK111.out⟩
                have n1_ : Aside0 (Below w.heap.size w ((w26.setCell ⟨gb111, 0, none⟩ (.int .i64 ((rd_Tile l0 x10_1).f0))).setCell ⟨gb111, 1, none⟩ (.int .i64 ((rd_Tile l0 x10_1).f1)))) := ⟨by repeat (first | (with_reducible first | exact HB.out | apply below_alloc | apply pw_below_drewN | apply below_drew1 | refine below_set ?_ GE111.out) | exact HB.out)⟩
                (try clear BK111)
                (try clear HB)
                generalize ((w26.setCell ⟨gb111, 0, none⟩ (.int .i64 ((rd_Tile l0 x10_1).f0))).setCell ⟨gb111, 1, none⟩ (.int .i64 ((rd_Tile l0 x10_1).f1))) = w28 at n0_ n1_ ⊢
                have BK111 := n0_
                have HB := n1_
                clear n0_ n1_
                have n0_ := Aside0.mk (blk_drew BK111.out)
                have n1_ := Aside0.mk (below_drew1 HB.out)
                clear BK111
                clear HB
                have BK111 := n0_
                have HB := n1_
                clear n0_ n1_
                refine start_ (n := 11) (S := fun w' => w'.cell? ⟨gb111, 0, none⟩ = some (.int .i64 ((rd_Tile l0 x10_1).f0)) ∧ w'.cell? ⟨gb111, 1, none⟩ = some (.int .i64 ((rd_Tile l0 x10_1).f1))) (ds := []) #[false, false, false, false, false, false, false, false, false, false, false] (by kernel_rfl) rfl rfl ⟨(blk_cell BK111.out 0).trans rfl, (blk_cell BK111.out 1).trans rfl⟩ (fun hHeld => ?_); refine with_tabW spec_tiHand.tab6 spec_tiHand.bits6 (fun HT_ HW_ => ?_)
                generalize w28.drew = w29 at BK111 HB hHeld ⊢
                refine take_ (i := 0) (N := some 15) (v := ?_) (a' := ?_) #[true, false, false, false, false, false, false, false, false, false, false] rfl rfl (take_ofW HT_.out HW_.out (by kernel_rfl)) (fun _ _ _ h => h) (Or.inl ⟨by rfl, ?_⟩) hHeld ?_ ?_
                rotate_left
                · rintro w' ⟨s0, s1⟩
                  go_simp
                  with_reducible rfl
                rotate_left
                · simp only [Act.put, List.setIfInBounds_toArray, List.set_cons_zero, List.set_cons_succ, i64_w, i32_w]
                  rfl
                refine one_ (i := 1) (N := some 16) #[true, true, false, false, false, false, false, false, false, false, false] rfl rfl (one_of HT_.out (by kernel_rfl)) (by decide) (fun K hK => ?_)
                refine goes_ Tryz.func77 (by kernel_rfl) rfl #[.agg #[.int .i64 ((rd_Tile l0 x10_1).f0), .int .i64 ((rd_Tile l0 x10_1).f1)]] (by rfl) rfl rfl (by (try simp only [List.map_toArray, List.map_cons, List.map_nil]); first | done | rfl | (simp only [List.length_drop, List.length_take]; rfl)) ?_
                with_reducible refine (spec_tiGood.calls ((rd_Tile l0 x10_1).f0) ((rd_Tile l0 x10_1).f1) false _ A6.out).mono ?_
                rintro e w30 ⟨rfl, hb⟩
                refine ⟨_, rfl, ?_⟩
                have n0_ := Aside0.mk (blk_below (g := gb111) (o := .cells #[.int .i64 ((rd_Tile l0 x10_1).f0), .int .i64 ((rd_Tile l0 x10_1).f1)] 59 (0, 0)) (by (with_reducible repeat (first | refine blk_drewN ?_ _ | refine blk_drew ?_ | refine blk_alloc ?_ _)); exact BK111.out) hb)
                have n1_ := Aside0.mk (below_step (by repeat (first | (with_reducible first | exact HB.out | apply below_alloc | apply pw_below_drewN | apply below_drew1 | refine below_set ?_ GE111.out) | exact HB.out)) hb)
                clear BK111
                clear HB
                have BK111 := n0_
                have HB := n1_
                clear n0_ n1_
                (try clear hb)
                (try clear hb2)
                (try clear hk)
                (try clear hi)
                refine hK.out _ _ ⟨(blk_cell BK111.out 0).trans rfl, (blk_cell BK111.out 1).trans rfl⟩ (fun hHeld => ?_)
                clear hK K
                refine norm_ (a' := ?_) ?_ ?_
                rotate_left
                · show Act.put _ (some 16) _ = _
                  simp only [Act.put, List.setIfInBounds_toArray, List.set_cons_zero, List.set_cons_succ, i64_w, i32_w]
                  rfl
                refine pure_ (i := 2) (N := some 17) (v := ?_) (a' := ?_) #[true, true, true, false, false, false, false, false, false, false, false] rfl rfl (any_of HT_.out (by kernel_rfl)) (fun _ _ _ h => h) (Or.inl ⟨by rfl, ?_⟩) ?_ ?_
                rotate_left
                · intro w'
                  go_simp
                  with_reducible rfl
                rotate_left
                · simp only [Act.put, List.setIfInBounds_toArray, List.set_cons_zero, List.set_cons_succ, i64_w, i32_w]
                  rfl
                refine pure_ (i := 3) (N := some 18) (v := ?_) (a' := ?_) #[true, true, true, true, false, false, false, false, false, false, false] rfl rfl (any_of HT_.out (by kernel_rfl)) (fun _ _ _ h => h) (Or.inl ⟨by rfl, ?_⟩) ?_ ?_
                rotate_left
                · intro w'
                  go_simp
                  with_reducible rfl
                rotate_left
                · simp only [Act.put, List.setIfInBounds_toArray, List.set_cons_zero, List.set_cons_succ, i64_w, i32_w]
                  rfl
                refine pure_ (i := 4) (N := some 19) (v := undef) (a' := ?_) #[true, true, true, true, true, false, false, false, false, false, false] rfl rfl (any_of HT_.out (by kernel_rfl)) (fun _ _ _ h => h) (Or.inr ⟨by rfl, rfl⟩) ?_ ?_
                rotate_left
                · simp only [Act.put, List.setIfInBounds_toArray, List.set_cons_zero, List.set_cons_succ, i64_w, i32_w]
                  rfl
                refine pure_ (i := 5) (N := some 20) (v := undef) (a' := ?_) #[true, true, true, true, true, true, false, false, false, false, false] rfl rfl (any_of HT_.out (by kernel_rfl)) (fun _ _ _ h => h) (Or.inr ⟨by rfl, rfl⟩) ?_ ?_
                rotate_left
                · simp only [Act.put, List.setIfInBounds_toArray, List.set_cons_zero, List.set_cons_succ, i64_w, i32_w]
                  rfl
                refine pure_ (i := 6) (N := some 21) (v := undef) (a' := ?_) #[true, true, true, true, true, true, true, false, false, false, false] rfl rfl (any_of HT_.out (by kernel_rfl)) (fun _ _ _ h => h) (Or.inr ⟨by rfl, rfl⟩) ?_ ?_
                rotate_left
                · simp only [Act.put, List.setIfInBounds_toArray, List.set_cons_zero, List.set_cons_succ, i64_w, i32_w]
                  rfl
                refine pure_ (i := 7) (N := some 22) (v := undef) (a' := ?_) #[true, true, true, true, true, true, true, true, false, false, false] rfl rfl (any_of HT_.out (by kernel_rfl)) (fun _ _ _ h => h) (Or.inr ⟨by rfl, rfl⟩) ?_ ?_
                rotate_left
                · simp only [Act.put, List.setIfInBounds_toArray, List.set_cons_zero, List.set_cons_succ, i64_w, i32_w]
                  rfl
                refine pure_ (i := 8) (N := some 23) (v := undef) (a' := ?_) #[true, true, true, true, true, true, true, true, true, false, false] rfl rfl (any_of HT_.out (by kernel_rfl)) (fun _ _ _ h => h) (Or.inr ⟨by rfl, rfl⟩) ?_ ?_
                rotate_left
                · simp only [Act.put, List.setIfInBounds_toArray, List.set_cons_zero, List.set_cons_succ, i64_w, i32_w]
                  rfl
                refine pure_ (i := 9) (N := some 24) (v := undef) (a' := ?_) #[true, true, true, true, true, true, true, true, true, true, false] rfl rfl (any_of HT_.out (by kernel_rfl)) (fun _ _ _ h => h) (Or.inr ⟨by rfl, rfl⟩) ?_ ?_
                rotate_left
                · simp only [Act.put, List.setIfInBounds_toArray, List.set_cons_zero, List.set_cons_succ, i64_w, i32_w]
                  rfl
                refine pure_ (i := 10) (N := some 25) (v := ?_) (a' := ?_) #[true, true, true, true, true, true, true, true, true, true, true] rfl rfl (any_of HT_.out (by kernel_rfl)) (fun _ _ _ h => h) (Or.inl ⟨by rfl, ?_⟩) ?_ ?_
                rotate_left
                · intro w'
                  go_simp
                  with_reducible rfl
                rotate_left
                · simp only [Act.put, List.setIfInBounds_toArray, List.set_cons_zero, List.set_cons_succ, i64_w, i32_w]
                  rfl
                refine done_ (done_of HT_.out (by kernel_rfl)) ?_
                try go_wp2
                go_ret
                exact ⟨by first | rfl | (simp [errW_none, errW_some] <;> rfl) | (simp [*, errW_none, errW_some] <;> rfl), by repeat (first | (with_reducible first | exact HB.out | apply below_alloc | apply pw_below_drewN | apply below_drew1 | refine below_set ?_ GE111.out) | exact HB.out)⟩
            · rw [if_neg c5] at H
              exact absurd H (by simp)
          · rw [if_neg c4] at H
            exact absurd H (by simp)
        · rw [if_neg c3] at H
          have c3b0 : decide (x10_1 < (l0.length : Int)) = false := decide_eq_false c3
          clear c3
          obtain rfl := Option.some.inj H
          go_wp2
          go_ret
          exact ⟨by first | rfl | (simp [errW_none, errW_some] <;> rfl) | (simp [*, errW_none, errW_some] <;> rfl), by repeat (first | (with_reducible first | exact HB.out | apply below_alloc | apply pw_below_drewN | apply below_drew1) | exact HB.out)⟩

end
section
open Go.RowKit Go.Proofs.YtkjaahmlnbgnjaaGreatW.PrintWords Go.Proofs.YtkjaahmlnbgnjaaGreatW.PrintLast Go.Proofs.YtkjaahmlnbgnjaaGreatW.PrintMore
attribute [local go_sem] max2_int min2_int max_two min_two max_three min_three max_four min_four   -- for this text's walks alone
set_option linter.unusedVariables false
set_option linter.unusedSimpArgs false

def spec_tiOf.f (a0 : Int) (a1 : Int) : Option (Int × Int) := (spec_l1Least.f a0 a1).bind fun t121 => ((spec_l1Most.f a0 a1).bind fun t122 => (some (t121, t122)))
set_option maxRecDepth 100000 in
set_option maxHeartbeats 40000000 in
theorem spec_tiOf.calls (a0 : Int) (a1 : Int) (r1 : Int) (r2 : Int) (w : World) (h : spec_tiOf.f a0 a1 = some (r1, r2)) :
    Calls Tryz.prog 95 #[.int .i64 a0, .int .i64 a1] w fun e w' => e = .returned (.agg #[.int .i64 r1, .int .i64 r2]) ∧ Below w.heap.size w w' := by
  obtain ⟨cs, hcs⟩ : ∃ cs, cs = [old w w.heap.size] := ⟨_, rfl⟩
  have hp : Hp w cs w := by rw [hcs]; exact Hp.old_start w
  have hc2 : ∀ W, Hp w cs W → Below w.heap.size w W := fun W h => by rw [hcs] at h; exact h.since 0 _ rfl
  clear hcs
  unfold spec_tiOf.f at h
  obtain ⟨t_2, hv_1, h⟩ := Option.bind_eq_some_iff.mp h
  try dsimp only at h
  obtain ⟨t_4, hv_3, h⟩ := Option.bind_eq_some_iff.mp h
  try dsimp only at h
  refine sx_enter (N := 12) (l := [.int .i64 a0, .int .i64 a1]) Tryz.func95 rfl rfl rfl ?_
  refine wp_seq ?_
  refine sx_region ?_
  refine sx_box 4 hp #[.int .i64 0, .int .i64 0] 59 (by rfl) (fun W => by kernel_rfl) ?_
  intro g_5 W_6 hp
  refine sx_nil ?_
  refine ex_then_n ?_
  refine wp_seq ?_
  refine sx_region ?_
  refine sx_rd 5 (.int .i64 a0) (by rfl) (by kernel_rfl) ?_
  refine sx_rd 6 (.int .i64 a1) (by rfl) (by kernel_rfl) ?_
  refine sx_call 7 (by rfl) (by kernel_rfl) ((spec_l1Least.calls a0 a1 _ _ hv_1).mono ?_)
  rintro _ W_7 ⟨rfl, hb⟩
  refine ⟨_, rfl, ?_⟩
  replace hp := hp.below hb.below
  clear hb
  refine sx_rd 8 (.int .i64 a0) (by rfl) (by kernel_rfl) ?_
  refine sx_rd 9 (.int .i64 a1) (by rfl) (by kernel_rfl) ?_
  refine sx_call 10 (by rfl) (by kernel_rfl) ((spec_l1Most.calls a0 a1 _ _ hv_3).mono ?_)
  rintro _ W_8 ⟨rfl, hb⟩
  refine ⟨_, rfl, ?_⟩
  replace hp := hp.below hb.below
  clear hb
  refine sx_rd 11 (.agg #[.int .i64 t_2, .int .i64 t_4]) (by rfl) (by kernel_rfl) ?_
  refine sx_store (t := 59) (p := (.tmp 4)) (x := (.tmp 11)) (by rfl) (by rfl) 0 (by rfl) 0 [.int .i64 t_2, .int .i64 t_4] (by rfl) (by rfl) (by kernel_rfl) (by simp [Value.oneCell']) (by show 2 ≤ 2; omega) #[.int .i64 t_2, .int .i64 t_4] (by rfl) hp ?_
  intro W_9 hp; simp only [List.set_cons_succ, List.set_cons_zero] at hp
  refine sx_nil ?_
  refine ex_then_n ?_
  refine wp_ret ?_
  refine sx_end (.agg #[.int .i64 t_2, .int .i64 t_4]) (resc (by rfl) (by rfl) (by kernel_rfl) (by kernel_rfl) (hp.at_ 0 _ (by rfl))) ?_
  simp only [Option.some.injEq, Prod.mk.injEq] at h; obtain ⟨rfl, rfl⟩ := h
  exact ⟨rfl, hc2 _ (hp.tail)⟩
end
section
open Go.RowKit Go.Proofs.YtkjaahmlnbgnjaaGreatW.PrintWords Go.Proofs.YtkjaahmlnbgnjaaGreatW.PrintLast Go.Proofs.YtkjaahmlnbgnjaaGreatW.PrintMore
attribute [local go_sem] max2_int min2_int max_two min_two max_three min_three max_four min_four   -- for this text's walks alone
set_option linter.unusedVariables false
set_option linter.unusedSimpArgs false

mutual
def spec_whChain.j0 : Nat → List Int → Bool → Option ((List (S_Tile)) × Bool)
  | 0, _, _ => none
  | k + 1, x0, x14 => if x14 = true then (some (([] : List (S_Tile)), false)) else (spec_whChain.l0 k x0 ([] : List (S_Tile)) 1)
def spec_whChain.l0 : Nat → List Int → List (S_Tile) → Int → Option ((List (S_Tile)) × Bool)
  | 0, _, _, _ => none
  | k + 1, x0, x4, x5 => if x5 < (x0.length : Int) then (if 0 ≤ (wrap64 (x5 - 1)) then (if (wrap64 (x5 - 1)) < (x0.length : Int) then (if 0 ≤ x5 then ((spec_tiOf.f (rd x0 (wrap64 (x5 - 1))) (rd x0 x5)).bind fun bt127 => (if x4.length < 8796093022208 then (spec_whChain.l0 k x0 (x4 ++ [(⟨bt127.1, bt127.2⟩ : S_Tile)]) (wrap64 (x5 + 1))) else (none))) else (none)) else (none)) else (none)) else ((spec_tiHand.f k x4).bind fun t132 => (some (x4, t132)))
end
def spec_whChain.f (k : Nat) (l0 : List Int) : Option ((List (S_Tile)) × Bool) := (spec_l1In.f (l0.length : Int) 1 56).bind fun t123 => (if t123 = true then ((spec_l1All.f k l0 0 9).bind fun t124 => (spec_whChain.j0 k l0 (!t124))) else (spec_whChain.j0 k l0 true))
def spec_whChain.T7 : Bool × List (List Nat × List Nat) := (true, [([], []), ([], []), ([], []), ([2], [2]), ([1, 3], [1, 3]), ([4], [4]), ([], []), ([], []), ([6, 7], [6, 7]), ([8], [8]), ([5, 9], [5, 9]), ([10], [10]), ([0, 11, 10], [0, 11]), ([12, 12, 0, 1, 2, 3, 4, 5, 6, 7, 8, 9, 10, 11, 12], [0, 12])])
def spec_whChain.B7 : List Nat := [0, 0, 0, 4, 14, 30, 0, 0, 192, 448, 1022, 2046, 4095, 8191]
theorem spec_whChain.tab7 : rtab .any (opsOf Tryz.f76 7) = spec_whChain.T7 := by kernel_rfl
theorem spec_whChain.bits7 : waitsOk spec_whChain.T7.2 spec_whChain.B7 = true := by kernel_rfl
set_option maxHeartbeats 8000000 in
set_option maxRecDepth 100000 in
theorem spec_whChain.calls (k : Nat) (A0 : Option Addr) (c0 : Nat) (l0 : List Int) (r1 : List (S_Tile)) (r2 : Bool) (w : World) (hr0 : Kd.C (Kd.int .i64) w A0 l0.length l0) (hc0 : l0.length ≤ c0) (h : spec_whChain.f k l0 = some (r1, r2)) :
    Calls Tryz.prog 76 #[.slice A0 l0.length c0] w fun e w' => ∃ v0_ : Value, e = .returned (.tuple #[v0_, .bool r2]) ∧ Kd.R k59 59 w' w.heap.size (fun _ => True) v0_ r1 ∧ Below w.heap.size w w' := by
  have HR0 := Aside0.mk hr0
  have HC0 := Aside0.mk hc0
  clear hr0 hc0
  have HB := Aside0.mk (Below.refl w.heap.size w)
  have H : ((spec_l1In.f (l0.length : Int) 1 56).bind fun t123 => (if t123 = true then ((spec_l1All.f k l0 0 9).bind fun t124 => (spec_whChain.j0 k l0 (!t124))) else (spec_whChain.j0 k l0 true))) = some (r1, r2) := h
  clear h
  have HC2 := Aside0.mk H
  clear H
  go_enter Tryz.func76, Tryz.ntmps76
  go_upto_region 1 with (fail)
  go_cut [14] (fun v14 wc => ∃ (kq : Nat) (x14_1 : Bool), v14 = .bool x14_1 ∧ Aside0 (spec_whChain.j0 kq l0 x14_1 = some (r1, r2)) ∧ Aside0 (kq ≤ k) ∧ Aside0 (Below w.heap.size w wc))
  case first =>
    have H := HC2.out
    clear HC2
    replace H := Option.bind_eq_some_iff.mp H
    obtain ⟨t123, A30, H⟩ := H
    replace H : (if t123 = true then ((spec_l1All.f k l0 0 9).bind fun t124 => (spec_whChain.j0 k l0 (!t124))) else (spec_whChain.j0 k l0 true)) = some (r1, r2) := H
    have A3 := Aside0.mk A30
    clear A30
    by_cases c4 : t123 = true
    · subst c4
      have H1 : ((spec_l1All.f k l0 0 9).bind fun t124 => (spec_whChain.j0 k l0 (!t124))) = some (r1, r2) := by rw [if_pos rfl] at H; exact H
      clear H
      have H := H1
      clear H1
      replace H := Option.bind_eq_some_iff.mp H
      obtain ⟨t124, A50, H⟩ := H
      replace H : (spec_whChain.j0 k l0 (!t124)) = some (r1, r2) := H
      have A5 := Aside0.mk A50
      clear A50
      have H' := Aside0.mk H
      clear H
      go_wp2_with (first | ((with_reducible refine gate_callee (f := 53) rfl ?_); refine goesL_ (some 8) rfl rfl Tryz.func53 (by kernel_rfl) rfl #[.int .i64 (l0.length : Int), .int .i64 1, .int .i64 56] rfl (by (try simp only [List.map_toArray, List.map_cons, List.map_nil]); first | done | rfl | (simp only [List.length_drop, List.length_take]; rfl)) ?_; (with_reducible refine (spec_l1In.calls (l0.length : Int) 1 56 true _ A3.out).mono ?_); rintro e w' ⟨rfl, ⟨nd, rfl⟩⟩; refine ⟨_, rfl, ?_⟩) | (go_at_call 94; (with_reducible refine (spec_l1All.calls k _ _ l0 0 9 t124 _ ?side1 ?side2 A5.out).mono ?_); (case side1 => repeat (first | exact (Kd.C_below HR0.out (by repeat (first | (with_reducible first | exact HB.out | apply below_alloc | apply pw_below_drewN | apply below_drew1) | exact HB.out))) | (with_reducible refine Kd.C_alloc ?_ _) | (with_reducible refine Kd.C_drewN ?_ _) | (with_reducible refine Kd.C_drew ?_))); (case side2 => exact HC0.out); rintro e w' ⟨rfl, ⟨nd, rfl⟩⟩))
      go_meet
      case rel => exact ⟨_, (!t124), (by first | rfl | (simp; done) | (simp [*]; done)), H', ⟨by first | omega | exact Nat.le_refl _⟩, ⟨by repeat (first | (with_reducible first | exact HB.out | apply below_alloc | apply pw_below_drewN | apply below_drew1) | exact HB.out)⟩⟩
    · replace c4 := Bool.eq_false_iff.mpr c4
      subst c4
      have H1 : (spec_whChain.j0 k l0 true) = some (r1, r2) := by rw [if_neg (show ¬ (false = true) by decide)] at H; exact H
      clear H
      have H := H1
      clear H1
      have H' := Aside0.mk H
      clear H
      go_wp2_with (first | ((with_reducible refine gate_callee (f := 53) rfl ?_); refine goesL_ (some 8) rfl rfl Tryz.func53 (by kernel_rfl) rfl #[.int .i64 (l0.length : Int), .int .i64 1, .int .i64 56] rfl (by (try simp only [List.map_toArray, List.map_cons, List.map_nil]); first | done | rfl | (simp only [List.length_drop, List.length_take]; rfl)) ?_; (with_reducible refine (spec_l1In.calls (l0.length : Int) 1 56 false _ A3.out).mono ?_); rintro e w' ⟨rfl, ⟨nd, rfl⟩⟩; refine ⟨_, rfl, ?_⟩))
      go_meet
      case rel => exact ⟨_, (true), (by first | rfl | (simp; done) | (simp [*]; done)), H', ⟨by first | omega | exact Nat.le_refl _⟩, ⟨by repeat (first | (with_reducible first | exact HB.out | apply below_alloc | apply pw_below_drewN | apply below_drew1) | exact HB.out)⟩⟩
  case rest =>
    clear HC2
    try clear p2
    try clear c4
    try clear c5
    obtain ⟨kq, x14_1, rfl, HA, HJ1, HB⟩ := hcut
    cases kq with
    | zero => exact absurd HA.out (by simp [spec_whChain.j0])
    | succ kj1 =>
      have H := HA.out
      clear HA
      simp only [spec_whChain.j0] at H
      by_cases c6 : x14_1 = true
      · subst c6
        have H1 : (some (([] : List (S_Tile)), false)) = some (r1, r2) := by rw [if_pos rfl] at H; exact H
        clear H
        have H := H1
        clear H1
        simp only [Option.some.injEq, Prod.mk.injEq] at H
        obtain ⟨rfl, rfl⟩ := H
        go_wp2
        go_ret2
        exact ⟨_, by first | rfl | (simp [errW_none, errW_some] <;> rfl) | (simp [*, errW_none, errW_some] <;> rfl), by first | exact Kd.R_nil _ _ _ _ _ | exact Kd.N_nil _ _ _ _ _ | exact Kd.V_nil _ _ _ _ _ | exact Kd.Q_nil _ _ _ _ _ | exact Kd.S_nil _ _ _ _ _, by repeat (first | (with_reducible first | exact HB.out | apply below_alloc | apply pw_below_drewN | apply below_drew1) | exact HB.out)⟩
      · replace c6 := Bool.eq_false_iff.mpr c6
        subst c6
        have H1 : (spec_whChain.l0 kj1 l0 ([] : List (S_Tile)) 1) = some (r1, r2) := by rw [if_neg (show ¬ (false = true) by decide)] at H; exact H
        clear H
        have H := H1
        clear H1
        have H' := Aside0.mk H
        clear H
        go_wp2
        go_loopg [4, 5] kj1 (fun kq v4 v5 w' => ∃ (x4_2 : List (S_Tile)) (x5_2 : Int), v5 = .int .i64 x5_2 ∧ Aside0 (spec_whChain.l0 kq l0 x4_2 x5_2 = some (r1, r2)) ∧ Aside0 (kq ≤ kj1) ∧ Aside0 (Kd.R k59 59 w' w.heap.size (fun _ => True) v4 x4_2) ∧ Aside0 (Below w.heap.size w w'))
        case atStart => exact ⟨(([] : List (S_Tile))), (1), (by first | rfl | (simp; done) | (simp [*]; done)), H', ⟨Nat.le_refl _⟩, ⟨by first | exact Kd.R_nil _ _ _ _ _ | exact Kd.N_nil _ _ _ _ _ | exact Kd.V_nil _ _ _ _ _ | exact Kd.Q_nil _ _ _ _ _ | exact Kd.S_nil _ _ _ _ _⟩, ⟨by repeat (first | (with_reducible first | exact HB.out | apply below_alloc | apply pw_below_drewN | apply below_drew1) | exact HB.out)⟩⟩
        case round =>
          clear H'
          try clear p2
          try clear c4
          try clear c5
          try clear c6
          try clear p2
          obtain ⟨x4_2, x5_2, rfl, HA, HK2, HO_4, HB⟩ := hrel
          cases gk with
          | zero => exact absurd HA.out (by simp [spec_whChain.l0])
          | succ k2 =>
            have H := HA.out
            clear HA
            simp only [spec_whChain.l0] at H
            by_cases c7 : x5_2 < (l0.length : Int)
            · rw [if_pos c7] at H
              have c7b0 : decide (x5_2 < (l0.length : Int)) = true := decide_eq_true c7
              clear c7
              obtain ⟨ji8, hji8⟩ : ∃ j_ : Int, (wrap64 (x5_2 - 1)) = j_ := ⟨_, rfl⟩
              replace H : (if 0 ≤ (ji8) then (if (ji8) < (l0.length : Int) then (if 0 ≤ x5_2 then ((spec_tiOf.f (rd l0 (ji8)) (rd l0 x5_2)).bind fun bt127 => (if x4_2.length < 8796093022208 then (spec_whChain.l0 k2 l0 (x4_2 ++ [(⟨bt127.1, bt127.2⟩ : S_Tile)]) (wrap64 (x5_2 + 1))) else (none))) else (none)) else (none)) else (none)) = some (r1, r2) := by first | (rw [hji8] at H; exact H) | (simp only [hji8] at H ⊢; exact H)
              have hji8w : (IntKind.i64.wrap (x5_2 - 1)) = ji8 := (i64_w _).trans hji8
              by_cases c9 : 0 ≤ (ji8)
              · rw [if_pos c9] at H
                have c9b0 : decide (0 ≤ (ji8)) = true := decide_eq_true c9
                clear c9
                by_cases c10 : (ji8) < (l0.length : Int)
                · rw [if_pos c10] at H
                  have c10b0 : decide ((ji8) < (l0.length : Int)) = true := decide_eq_true c10
                  clear c10
                  by_cases c11 : 0 ≤ x5_2
                  · rw [if_pos c11] at H
                    have c11b0 : decide (0 ≤ x5_2) = true := decide_eq_true c11
                    clear c11
                    replace H := Option.bind_eq_some_iff.mp H
                    obtain ⟨⟨t127, t128⟩, A120, H⟩ := H
                    replace H : (if x4_2.length < 8796093022208 then (spec_whChain.l0 k2 l0 (x4_2 ++ [(⟨t127, t128⟩ : S_Tile)]) (wrap64 (x5_2 + 1))) else (none)) = some (r1, r2) := H
                    have A12 := Aside0.mk A120
                    clear A120
                    by_cases c13 : x4_2.length < 8796093022208
                    · rw [if_pos c13] at H
                      have LMc13 := Aside0.mk c13
                      clear c13
                      obtain ⟨y129, hy129⟩ : ∃ y_ : List (S_Tile), y_ = (x4_2 ++ [(⟨t127, t128⟩ : S_Tile)]) := ⟨_, rfl⟩
                      replace H : (spec_whChain.l0 k2 l0 y129 (wrap64 (x5_2 + 1))) = some (r1, r2) := by first | (rw [hy129]; with_reducible exact H) | (have H2_ := (Option.bind_some _ _).symm.trans H; rw [hy129]; with_reducible exact H2_) | (have H2_ := (Option.bind_some _ _).symm.trans H; with_reducible exact H2_) | with_reducible exact H | (rw [hy129]; exact H) | exact H
                      have Ny129 := Aside0.mk hy129
                      clear hy129
                      have H' := Aside0.mk H
                      clear H
                      try go_wp2
                      have n0_ := Aside0.mk (Kd.R_drew HO_4.out)
                      have n1_ := Aside0.mk (below_drew1 HB.out)
                      clear HO_4
                      clear HB
                      have HO_4 := n0_
                      have HB := n1_
                      clear n0_ n1_
                      have p125 : 0 ≤ ((ji8) : Int) := of_decide_eq_true (by first | (with_reducible assumption) | assumption)
                      have q125 : (ji8) < (l0.length : Int) := of_decide_eq_true (by first | (with_reducible assumption) | assumption)
                      obtain ⟨ad125, e125, hx125_0⟩ := Kd.at_int HR0.out (ji8) p125 q125
                      have hw125_0 := hx125_0
                      cases e125
                      replace hx125_0 := (HB.out.cell (World.block_lt_of_cell? w _ hx125_0)).trans hx125_0
                      replace p125 := eq_true p125
                      replace q125 := eq_true q125
                      have p126 : 0 ≤ (x5_2 : Int) := of_decide_eq_true (by first | (with_reducible assumption) | assumption)
                      have q126 : x5_2 < (l0.length : Int) := of_decide_eq_true (by first | (with_reducible assumption) | assumption)
                      obtain ⟨ad126, e126, hx126_0⟩ := Kd.at_int HR0.out x5_2 p126 q126
                      have hw126_0 := hx126_0
                      obtain rfl : ad125 = ad126 := (by injection e126)
                      replace hx126_0 := (HB.out.cell (World.block_lt_of_cell? w _ hx126_0)).trans hx126_0
                      replace p126 := eq_true p126
                      replace q126 := eq_true q126
                      refine start_ (n := 14) (S := fun w' => w'.cell? (ad125.add ((ji8)).toNat) = some (.int .i64 (rd l0 (ji8))) ∧ w'.cell? (ad125.add (x5_2).toNat) = some (.int .i64 (rd l0 x5_2))) (ds := []) #[false, false, false, false, false, false, false, false, false, false, false, false, false, false] (by kernel_rfl) rfl rfl ⟨((HB.out.cell (World.block_lt_of_cell? w _ hw125_0)).trans hw125_0), ((HB.out.cell (World.block_lt_of_cell? w _ hw126_0)).trans hw126_0)⟩ (fun hHeld => ?_); refine with_tabW spec_whChain.tab7 spec_whChain.bits7 (fun HT_ HW_ => ?_)
                      generalize wr.drew = w14 at HO_4 HB hx125_0 hx126_0 hHeld ⊢
                      refine pure_ (i := 0) (N := some 21) (v := ?_) (a' := ?_) #[true, false, false, false, false, false, false, false, false, false, false, false, false, false] rfl rfl (any_of HT_.out (by kernel_rfl)) (fun _ _ _ h => h) (Or.inl ⟨by rfl, ?_⟩) ?_ ?_
                      rotate_left
                      · intro w'
                        go_simp
                        with_reducible rfl
                      rotate_left
                      · simp only [Act.put, List.setIfInBounds_toArray, List.set_cons_zero, List.set_cons_succ, i64_w, i32_w]
                        rfl
                      refine pure_ (i := 1) (N := some 22) (v := ?_) (a' := ?_) #[true, true, false, false, false, false, false, false, false, false, false, false, false, false] rfl rfl (any_of HT_.out (by kernel_rfl)) (fun _ _ _ h => h) (Or.inl ⟨by rfl, ?_⟩) ?_ ?_
                      rotate_left
                      · intro w'
                        go_simp
                        with_reducible rfl
                      rotate_left
                      · simp only [Act.put, List.setIfInBounds_toArray, List.set_cons_zero, List.set_cons_succ, i64_w, i32_w]
                        rfl
                      refine pure_ (i := 2) (N := some 23) (v := ?_) (a' := ?_) #[true, true, true, false, false, false, false, false, false, false, false, false, false, false] rfl rfl (any_of HT_.out (by kernel_rfl)) (fun _ _ _ h => h) (Or.inl ⟨by rfl, ?_⟩) ?_ ?_
                      rotate_left
                      · intro w'
                        go_simp
                        with_reducible rfl
                      rotate_left
                      · simp only [Act.put, List.setIfInBounds_toArray, List.set_cons_zero, List.set_cons_succ, i64_w, i32_w]
                        rfl
                      refine pure_ (i := 3) (N := some 24) (v := ?_) (a' := ?_) #[true, true, true, true, false, false, false, false, false, false, false, false, false, false] rfl rfl (any_of HT_.out (by kernel_rfl)) (fun _ _ _ h => h) (Or.inl ⟨by rfl, ?_⟩) ?_ ?_
                      rotate_left
                      · intro w'
                        go_simp
                        with_reducible rfl
                      rotate_left
                      · simp only [Act.put, List.setIfInBounds_toArray, List.set_cons_zero, List.set_cons_succ, i64_w, i32_w]
                        rfl
                      refine pure_ (i := 4) (N := some 25) (v := ?_) (a' := ?_) #[true, true, true, true, true, false, false, false, false, false, false, false, false, false] rfl rfl (any_of HT_.out (by kernel_rfl)) (fun _ _ _ h => h) (Or.inl ⟨by rfl, ?_⟩) ?_ ?_
                      rotate_left
                      · intro w'
                        go_simp
                        with_reducible rfl
                      rotate_left
                      · simp only [Act.put, List.setIfInBounds_toArray, List.set_cons_zero, List.set_cons_succ, i64_w, i32_w]
                        rfl
                      refine pure_ (i := 6) (N := some 27) (v := ?_) (a' := ?_) #[true, true, true, true, true, false, true, false, false, false, false, false, false, false] rfl rfl (any_of HT_.out (by kernel_rfl)) (fun _ _ _ h => h) (Or.inl ⟨by rfl, ?_⟩) ?_ ?_
                      rotate_left
                      · intro w'
                        go_simp
                        with_reducible rfl
                      rotate_left
                      · simp only [Act.put, List.setIfInBounds_toArray, List.set_cons_zero, List.set_cons_succ, i64_w, i32_w]
                        rfl
                      refine pure_ (i := 7) (N := some 28) (v := ?_) (a' := ?_) #[true, true, true, true, true, false, true, true, false, false, false, false, false, false] rfl rfl (any_of HT_.out (by kernel_rfl)) (fun _ _ _ h => h) (Or.inl ⟨by rfl, ?_⟩) ?_ ?_
                      rotate_left
                      · intro w'
                        go_simp
                        with_reducible rfl
                      rotate_left
                      · simp only [Act.put, List.setIfInBounds_toArray, List.set_cons_zero, List.set_cons_succ, i64_w, i32_w]
                        rfl
                      refine pure_ (i := 8) (N := some 29) (v := ?_) (a' := ?_) #[true, true, true, true, true, false, true, true, true, false, false, false, false, false] rfl rfl (any_of HT_.out (by kernel_rfl)) (fun _ _ _ h => h) (Or.inl ⟨by rfl, ?_⟩) ?_ ?_
                      rotate_left
                      · intro w'
                        go_simp
                        with_reducible rfl
                      rotate_left
                      · simp only [Act.put, List.setIfInBounds_toArray, List.set_cons_zero, List.set_cons_succ, i64_w, i32_w]
                        rfl
                      refine take_ (i := 5) (N := some 26) (v := ?_) (a' := ?_) #[true, true, true, true, true, true, true, true, true, false, false, false, false, false] rfl rfl (take_ofW HT_.out HW_.out (by kernel_rfl)) (fun _ _ _ h => h) (Or.inl ⟨by rfl, ?_⟩) hHeld ?_ ?_
                      rotate_left
                      · rintro w' ⟨s0, s1⟩
                        go_simp
                        with_reducible rfl
                      rotate_left
                      · simp only [Act.put, List.setIfInBounds_toArray, List.set_cons_zero, List.set_cons_succ, i64_w, i32_w]
                        rfl
                      refine take_ (i := 9) (N := some 30) (v := ?_) (a' := ?_) #[true, true, true, true, true, true, true, true, true, true, false, false, false, false] rfl rfl (take_ofW HT_.out HW_.out (by kernel_rfl)) (fun _ _ _ h => h) (Or.inl ⟨by rfl, ?_⟩) hHeld ?_ ?_
                      rotate_left
                      · rintro w' ⟨s0, s1⟩
                        go_simp
                        with_reducible rfl
                      rotate_left
                      · simp only [Act.put, List.setIfInBounds_toArray, List.set_cons_zero, List.set_cons_succ, i64_w, i32_w]
                        rfl
                      refine one_ (i := 10) (N := some 31) #[true, true, true, true, true, true, true, true, true, true, true, false, false, false] rfl rfl (one_of HT_.out (by kernel_rfl)) (by decide) (fun K hK => ?_)
                      refine goes_ Tryz.func95 (by kernel_rfl) rfl #[.int .i64 (rd l0 (ji8)), .int .i64 (rd l0 x5_2)] (by rfl) rfl rfl (by (try simp only [List.map_toArray, List.map_cons, List.map_nil]); first | done | (simp only [hji8]; rfl) | rfl | (simp only [List.length_drop, List.length_take]; rfl)) ?_
                      with_reducible refine (spec_tiOf.calls (rd l0 (ji8)) (rd l0 x5_2) t127 t128 _ A12.out).mono ?_
                      rintro e w15 ⟨rfl, hb⟩
                      refine ⟨_, rfl, ?_⟩
                      have n0_ := Aside0.mk (Kd.R_below (by (with_reducible repeat (first | apply Kd.R_alloc | apply Kd.R_drewN | apply Kd.R_drew)); exact HO_4.out) hb)
                      have n1_ := Aside0.mk (below_step (by repeat (first | (with_reducible first | exact HB.out | apply below_alloc | apply pw_below_drewN | apply below_drew1) | exact HB.out)) hb)
                      clear HO_4
                      clear HB
                      have HO_4 := n0_
                      have HB := n1_
                      clear n0_ n1_
                      (try clear hb)
                      (try clear hb2)
                      (try clear hk)
                      (try clear hi)
                      refine hK.out _ _ ⟨((HB.out.cell (World.block_lt_of_cell? w _ hw125_0)).trans hw125_0), ((HB.out.cell (World.block_lt_of_cell? w _ hw126_0)).trans hw126_0)⟩ (fun hHeld => ?_)
                      clear hK K
                      refine norm_ (a' := ?_) ?_ ?_
                      rotate_left
                      · show Act.put _ (some 31) _ = _
                        simp only [Act.put, List.setIfInBounds_toArray, List.set_cons_zero, List.set_cons_succ, i64_w, i32_w]
                        rfl
                      refine one_ (i := 11) (N := some 32) #[true, true, true, true, true, true, true, true, true, true, true, true, false, false] rfl rfl (one_of HT_.out (by kernel_rfl)) (by decide) (fun K hK => ?_)
                      refine value_ (w1 := ?_) (v := ?_) (by rfl) rfl ?_ ?_
                      rotate_left 2
                      · go_simp
                        constructor
                        · rfl
                        · rfl
                      refine hK.out _ _ ⟨(World.cell?_alloc_lt _ _ _ (World.block_lt_of_cell? _ _ (((HB.out.cell (World.block_lt_of_cell? w _ hw125_0)).trans hw125_0)))).trans (((HB.out.cell (World.block_lt_of_cell? w _ hw125_0)).trans hw125_0)), (World.cell?_alloc_lt _ _ _ (World.block_lt_of_cell? _ _ (((HB.out.cell (World.block_lt_of_cell? w _ hw126_0)).trans hw126_0)))).trans (((HB.out.cell (World.block_lt_of_cell? w _ hw126_0)).trans hw126_0))⟩ (fun hHeld => ?_)
                      clear hK K
                      refine norm_ (a' := ?_) ?_ ?_
                      rotate_left
                      · show Act.put _ (some 32) _ = _
                        simp only [Act.put, List.setIfInBounds_toArray, List.set_cons_zero, List.set_cons_succ, i64_w, i32_w]
                        rfl
                      refine one_ (i := 12) (N := some 33) #[true, true, true, true, true, true, true, true, true, true, true, true, true, false] rfl rfl (one_of HT_.out (by kernel_rfl)) (by decide) (fun K hK => ?_)
                      refine Kd.R_append_step k59 (w0 := w) w.heap.size (by rfl) (.tmp 21) (.tmp 32) 27 59 (.agg #[(.int .i64 0), (.int .i64 0)]) 16 rfl Tryz.underlying27 info59 rfl (by decide) (by omega) u4 x4_2 (⟨t127, t128⟩ : S_Tile) [.int .i64 t127, .int .i64 t128] (fun _ => True) (fun _ => False) rfl rfl ?aP (fun _ hk => hk.elim) ?aF ?aO ?aB ?aS ?aL ?_
                      (case aP => exact k59_mkM _ _ _ (⟨t127, t128⟩ : S_Tile))
                      (case aB => exact (by repeat (first | (with_reducible first | exact HB.out | apply below_alloc | apply pw_below_drewN | apply below_drew1) | exact HB.out)))
                      (case aF => exact (fun _ _ => trivial))
                      (case aO => exact (by (with_reducible repeat (first | apply Kd.R_alloc | apply Kd.R_drewN | apply Kd.R_drew)); exact HO_4.out))
                      (case aS => exact (below_size (by repeat (first | (with_reducible first | exact HB.out | apply below_alloc | apply pw_below_drewN | apply below_drew1) | exact HB.out))))
                      (case aL => have := LMc13.out; omega)
                      intro v130 w16 ho hb hg hat
                      rw [← Ny129.out] at ho
                      have n0_ := Aside0.mk (hb)
                      have n1_ := Aside0.mk (ho)
                      clear HB
                      clear HO_4
                      have HB := n0_
                      have HO131 := n1_
                      clear n0_ n1_
                      clear ho hb hg hat
                      refine hK.out _ _ ⟨((HB.out.cell (World.block_lt_of_cell? w _ hw125_0)).trans hw125_0), ((HB.out.cell (World.block_lt_of_cell? w _ hw126_0)).trans hw126_0)⟩ (fun hHeld => ?_)
                      clear hK K
                      refine norm_ (a' := ?_) ?_ ?_
                      rotate_left
                      · show Act.put _ (some 33) _ = _
                        simp only [Act.put, List.setIfInBounds_toArray, List.set_cons_zero, List.set_cons_succ, i64_w, i32_w]
                        rfl
                      refine pure_ (i := 13) (N := some 4) (v := ?_) (a' := ?_) #[true, true, true, true, true, true, true, true, true, true, true, true, true, true] rfl rfl (any_of HT_.out (by kernel_rfl)) (fun _ _ _ h => h) (Or.inl ⟨by rfl, ?_⟩) ?_ ?_
                      rotate_left
                      · intro w'
                        go_simp
                        with_reducible rfl
                      rotate_left
                      · simp only [Act.put, List.setIfInBounds_toArray, List.set_cons_zero, List.set_cons_succ, i64_w, i32_w]
                        rfl
                      refine done_ (done_of HT_.out (by kernel_rfl)) ?_
                      try go_wp2
                      go_roundg k2
                      case measure => have := HJ1.out; have := HK2.out; omega
                      case rel => exact ⟨(y129), (wrap64 (x5_2 + 1)), (by first | rfl | (simp; done) | (simp [*]; done)), H', ⟨by have := HJ1.out; have := HK2.out; omega⟩, ⟨by (with_reducible repeat (first | apply Kd.R_alloc | apply Kd.R_drewN | apply Kd.R_drew)); exact HO131.out⟩, ⟨by repeat (first | (with_reducible first | exact HB.out | apply below_alloc | apply pw_below_drewN | apply below_drew1) | exact HB.out)⟩⟩
                    · rw [if_neg c13] at H
                      exact absurd H (by simp)
                  · rw [if_neg c11] at H
                    exact absurd H (by simp)
                · rw [if_neg c10] at H
                  exact absurd H (by simp)
              · rw [if_neg c9] at H
                exact absurd H (by simp)
            · rw [if_neg c7] at H
              have c7b0 : decide (x5_2 < (l0.length : Int)) = false := decide_eq_false c7
              clear c7
              replace H := Option.bind_eq_some_iff.mp H
              obtain ⟨t132, A170, H⟩ := H
              replace H : (some (x4_2, t132)) = some (r1, r2) := H
              have A17 := Aside0.mk A170
              clear A170
              simp only [Option.some.injEq, Prod.mk.injEq] at H
              obtain ⟨rfl, rfl⟩ := H
              obtain ⟨Ao18, co18, eo18⟩ := Kd.R_slice HO_4.out
              subst eo18
              go_wp2_with (first | ((with_reducible refine gate_callee (f := 52) rfl ?_); refine goesL_ (some 36) rfl rfl Tryz.func52 (by kernel_rfl) rfl #[.slice Ao18 x4_2.length co18] rfl (by (try simp only [List.map_toArray, List.map_cons, List.map_nil]); first | done | rfl | (simp only [List.length_drop, List.length_take]; rfl)) ?_; (with_reducible refine (spec_tiHand.calls k2 _ _ x4_2 t132 _ ?side1 ?side2 A17.out).mono ?_); (case side1 => repeat (first | exact (Kd.R_reads' HO_4.out).2.2 | (with_reducible refine Kd.C_alloc ?_ _) | (with_reducible refine Kd.C_drewN ?_ _) | (with_reducible refine Kd.C_drew ?_))); (case side2 => exact (Kd.R_reads' HO_4.out).2.1); rintro e w19 ⟨rfl, hb⟩; refine ⟨_, rfl, ?_⟩; have n0_ := Aside0.mk (Kd.R_below (by (with_reducible repeat (first | apply Kd.R_alloc | apply Kd.R_drewN | apply Kd.R_drew)); exact HO_4.out) hb); have n1_ := Aside0.mk (below_step (by repeat (first | (with_reducible first | exact HB.out | apply below_alloc | apply pw_below_drewN | apply below_drew1) | exact HB.out)) hb); clear HO_4; clear HB; have HO_4 := n0_; have HB := n1_; clear n0_ n1_; (try clear hb); (try clear hb2); (try clear hk); (try clear hi)))
              go_ret2
              exact ⟨_, by first | rfl | (simp [errW_none, errW_some] <;> rfl) | (simp [*, errW_none, errW_some] <;> rfl), by (with_reducible repeat (first | apply Kd.R_alloc | apply Kd.R_drewN | apply Kd.R_drew)); exact HO_4.out, by repeat (first | (with_reducible first | exact HB.out | apply below_alloc | apply pw_below_drewN | apply below_drew1) | exact HB.out)⟩

end
section
open Go.RowKit Go.Proofs.YtkjaahmlnbgnjaaGreatW.PrintWords Go.Proofs.YtkjaahmlnbgnjaaGreatW.PrintLast Go.Proofs.YtkjaahmlnbgnjaaGreatW.PrintMore
attribute [local go_sem] max2_int min2_int max_two min_two max_three min_three max_four min_four   -- for this text's walks alone
set_option linter.unusedVariables false
set_option linter.unusedSimpArgs false

def spec_plRow.f (k : Nat) (l0 : List Int) : Option ((List (S_Tile)) × Bool) := if (l0.length : Int) = 0 then (some (([] : List (S_Tile)), true)) else ((spec_whChain.f k l0).bind fun bt133 => (if bt133.2 = true then (some (bt133.1, decide ((bt133.1.length : Int) > 0))) else (some (bt133.1, false))))
set_option maxRecDepth 100000 in
set_option maxHeartbeats 40000000 in
theorem spec_plRow.calls (k : Nat) (A0 : Option Addr) (c0 : Nat) (l0 : List Int) (r1 : List (S_Tile)) (r2 : Bool) (w : World) (hr0 : Kd.C (Kd.int .i64) w A0 l0.length l0) (hc0 : l0.length ≤ c0) (h : spec_plRow.f k l0 = some (r1, r2)) :
    Calls Tryz.prog 51 #[.slice A0 l0.length c0] w fun e w' => ∃ v0_ : Value, e = .returned (.tuple #[v0_, .bool r2]) ∧ Kd.R k59 59 w' w.heap.size (fun _ => True) v0_ r1 ∧ Below w.heap.size w w' := by
  obtain ⟨cs, hcs⟩ : ∃ cs, cs = [old w w.heap.size] := ⟨_, rfl⟩
  have hp : Hp w cs w := by rw [hcs]; exact Hp.old_start w
  have hc2 : ∀ W, Hp w cs W → Below w.heap.size w W := fun W h => by rw [hcs] at h; exact h.since 0 _ rfl
  have hC0 : ∀ W, Hp w cs W → Kd.C (Kd.int .i64) W A0 l0.length l0 := fun W h => Kd.C_below hr0 (hc2 W h)
  clear hcs
  unfold spec_plRow.f at h
  refine sx_enter (N := 21) (l := [.slice A0 l0.length c0]) Tryz.func51 rfl rfl rfl ?_
  refine wp_seq ?_
  refine sx_region ?_
  refine sx_rd 2 (.slice none 0 0) (by rfl) (by kernel_rfl) ?_
  refine sx_rd 3 (.bool false) (by rfl) (by kernel_rfl) ?_
  refine sx_nil ?_
  refine ex_then_n ?_
  refine wp_seq ?_
  refine wp_seq ?_
  refine sx_region ?_
  refine sx_rd 6 (.slice A0 l0.length c0) (by rfl) (by kernel_rfl) ?_
  refine sx_rd 7 (.int .i64 (l0.length : Int)) (by rfl) (by kernel_rfl) ?_
  refine sx_rd 8 (.bool ((l0.length : Int) == 0)) (by rfl) (by kernel_rfl) ?_
  refine sx_nil ?_
  refine ex_then_n ?_
  by_cases hc_1 : (l0.length : Int) = 0
  ·
    rw [if_pos hc_1] at h
    refine sx_then ((l0.length : Int) == 0) (by rfl) (beq_iff_eq.mpr hc_1) ?_
    refine wp_seq ?_
    refine sx_region ?_
    refine sx_rd 2 (.slice none 0 0) (by rfl) (by kernel_rfl) ?_
    refine sx_rd 3 (.bool true) (by rfl) (by kernel_rfl) ?_
    refine sx_nil ?_
    refine ex_then_n ?_
    refine wp_ret ?_
    refine ex_then_r ?_
    refine sx_end (.tuple #[.slice none 0 0, .bool true]) (res2 2 3 (by rfl)) ?_
    simp only [Option.some.injEq, Prod.mk.injEq] at h; obtain ⟨rfl, rfl⟩ := h
    exact ⟨_, rfl, Kd.R_nil _ _ _ _ _, hc2 _ (hp)⟩
  ·
    rw [if_neg hc_1] at h
    obtain ⟨⟨t_3, t_4⟩, hv_2, h⟩ := Option.bind_eq_some_iff.mp h
    try dsimp only at h
    refine sx_else ((l0.length : Int) == 0) (by rfl) (beq_eq_false_iff_ne.mpr hc_1) ?_
    refine wp_skip ?_
    refine ex_then_n ?_
    refine wp_seq ?_
    refine sx_region ?_
    refine sx_rd 10 (.slice A0 l0.length c0) (by rfl) (by kernel_rfl) ?_
    refine sx_call 11 (by rfl) (by kernel_rfl) ((spec_whChain.calls _ A0 c0 l0 _ _ _ (hC0 _ hp) hc0 hv_2).mono ?_)
    rintro _ W_10 ⟨v_6, rfl, hR_5, hb⟩
    refine ⟨_, rfl, ?_⟩
    obtain ⟨A_7, c_8, rfl, hcc_c_8, _⟩ := Kd.R_reads hR_5
    obtain ⟨F_9, hp⟩ : ∃ F, Hp w (row k59 59 w.heap.size (.slice A_7 t_3.length c_8) t_3 F :: cs) _ := ⟨_, Hp.made hp hb hR_5⟩
    refine sx_rd 9 (.tuple #[.slice A_7 t_3.length c_8, .bool t_4]) (by rfl) (by kernel_rfl) ?_
    refine sx_rd 12 (.slice A_7 t_3.length c_8) (by rfl) (by kernel_rfl) ?_
    refine sx_rd 13 (.bool t_4) (by rfl) (by kernel_rfl) ?_
    refine sx_rd 4 (.slice A_7 t_3.length c_8) (by rfl) (by kernel_rfl) ?_
    refine sx_rd 5 (.bool t_4) (by rfl) (by kernel_rfl) ?_
    refine sx_nil ?_
    refine ex_then_n ?_
    refine wp_seq ?_
    by_cases hc_11 : t_4 = true
    ·
      rw [if_pos hc_11] at h
      refine sx_region ?_
      refine sx_rd 14 (.slice A_7 t_3.length c_8) (by rfl) (by kernel_rfl) ?_
      refine sx_rd 15 (.bool true) (by rfl) (bv hc_11 (by kernel_rfl)) ?_
      refine sx_rd 16 (.bool true) (by rfl) (by kernel_rfl) ?_
      refine sx_want (by rfl) ?_
      refine sx_rd 17 (.slice A_7 t_3.length c_8) (by rfl) (by kernel_rfl) ?_
      refine sx_want (by rfl) ?_
      refine sx_rd 18 (.int .i64 (t_3.length : Int)) (by rfl) (by kernel_rfl) ?_
      refine sx_want (by rfl) ?_
      refine sx_rd 19 (.bool (decide ((t_3.length : Int) > 0))) (by rfl) (by kernel_rfl) ?_
      refine sx_rd 20 (.bool (decide ((t_3.length : Int) > 0))) (by rfl) (by kernel_rfl) ?_
      refine sx_rd 2 (.slice A_7 t_3.length c_8) (by rfl) (by kernel_rfl) ?_
      refine sx_rd 3 (.bool (decide ((t_3.length : Int) > 0))) (by rfl) (by kernel_rfl) ?_
      refine sx_nil ?_
      refine ex_then_n ?_
      refine wp_ret ?_
      refine sx_end (.tuple #[.slice A_7 t_3.length c_8, .bool (decide ((t_3.length : Int) > 0))]) (res2 2 3 (by rfl)) ?_
      simp only [Option.some.injEq, Prod.mk.injEq] at h; obtain ⟨rfl, rfl⟩ := h
      exact ⟨_, rfl, Kd.R_mono (row_R (hp.at_ 0 _ (by rfl))) (fun _ _ => trivial), hc2 _ (hp.tail)⟩
    ·
      rw [if_neg hc_11] at h
      refine sx_region ?_
      refine sx_rd 14 (.slice A_7 t_3.length c_8) (by rfl) (by kernel_rfl) ?_
      refine sx_rd 15 (.bool false) (by rfl) (bv (Bool.eq_false_iff.mpr hc_11) (by kernel_rfl)) ?_
      refine sx_rd 16 (.bool false) (by rfl) (by kernel_rfl) ?_
      refine sx_skip 17 (by rfl) (by rfl) (by rfl) ?_
      refine sx_skip 18 (by rfl) (by rfl) (by rfl) ?_
      refine sx_skip 19 (by rfl) (by rfl) (by rfl) ?_
      refine sx_rd 20 (.bool false) (by rfl) (by kernel_rfl) ?_
      refine sx_rd 2 (.slice A_7 t_3.length c_8) (by rfl) (by kernel_rfl) ?_
      refine sx_rd 3 (.bool false) (by rfl) (by kernel_rfl) ?_
      refine sx_nil ?_
      refine ex_then_n ?_
      refine wp_ret ?_
      refine sx_end (.tuple #[.slice A_7 t_3.length c_8, .bool false]) (res2 2 3 (by rfl)) ?_
      simp only [Option.some.injEq, Prod.mk.injEq] at h; obtain ⟨rfl, rfl⟩ := h
      exact ⟨_, rfl, Kd.R_mono (row_R (hp.at_ 0 _ (by rfl))) (fun _ _ => trivial), hc2 _ (hp.tail)⟩
end
section
open Go.RowKit Go.Proofs.YtkjaahmlnbgnjaaGreatW.PrintWords Go.Proofs.YtkjaahmlnbgnjaaGreatW.PrintLast Go.Proofs.YtkjaahmlnbgnjaaGreatW.PrintMore
attribute [local go_sem] max2_int min2_int max_two min_two max_three min_three max_four min_four   -- for this text's walks alone
set_option linter.unusedVariables false
set_option linter.unusedSimpArgs false

def spec_plGood.j0 : Nat → List (S_Tile) → Bool → List (S_Tile) → List (S_Tile) → List Int → Int → Int → Option (Bool)
  | 0, _, _, _, _, _, _, _ => none
  | k + 1, x3, x36, x162000, x162001, x162002, x162003, x162004 => if x36 = true then (some false) else ((spec_tiThose.f k x162000 x162001 true).bind fun t170 => (if (t170.length : Int) = 0 then ((spec_tiThose.f k x162000 x3 true).bind fun t173 => (if (t173.length : Int) = 0 then ((spec_tiThose.f k x162001 x3 true).bind fun t176 => (some ((t176.length : Int) == 0))) else (some false))) else (some false)))
def spec_plGood.f (k : Nat) (l0_0 : List (S_Tile)) (l0_1 : List (S_Tile)) (l0_2 : List Int) (a0_3 : Int) (a0_4 : Int) : Option (Bool) := (spec_plRow.f k l0_2).bind fun bt162 => (if bt162.2 = true then ((spec_tiHand.f k l0_0).bind fun t166 => (if t166 = true then ((spec_tiHand.f k l0_1).bind fun t167 => (if t167 = true then ((spec_l1In.f a0_3 0 1).bind fun t168 => (if t168 = true then ((spec_l1In.f a0_4 0 2).bind fun t169 => (spec_plGood.j0 k bt162.1 (!t169) l0_0 l0_1 l0_2 a0_3 a0_4)) else (spec_plGood.j0 k bt162.1 true l0_0 l0_1 l0_2 a0_3 a0_4))) else (spec_plGood.j0 k bt162.1 true l0_0 l0_1 l0_2 a0_3 a0_4))) else (spec_plGood.j0 k bt162.1 true l0_0 l0_1 l0_2 a0_3 a0_4))) else (spec_plGood.j0 k bt162.1 true l0_0 l0_1 l0_2 a0_3 a0_4))
set_option maxRecDepth 100000 in
set_option maxHeartbeats 40000000 in
theorem spec_plGood.calls (k : Nat) (A0_0 : Option Addr) (c0_0 : Nat) (l0_0 : List (S_Tile)) (A0_1 : Option Addr) (c0_1 : Nat) (l0_1 : List (S_Tile)) (A0_2 : Option Addr) (c0_2 : Nat) (l0_2 : List Int) (a0_3 : Int) (a0_4 : Int) (r : Bool) (w : World) (hr0_0 : Kd.C k59 w A0_0 l0_0.length l0_0) (hc0_0 : l0_0.length ≤ c0_0) (hr0_1 : Kd.C k59 w A0_1 l0_1.length l0_1) (hc0_1 : l0_1.length ≤ c0_1) (hr0_2 : Kd.C (Kd.int .i64) w A0_2 l0_2.length l0_2) (hc0_2 : l0_2.length ≤ c0_2) (h : spec_plGood.f k l0_0 l0_1 l0_2 a0_3 a0_4 = some r) :
    Calls Tryz.prog 24 #[.agg #[.slice A0_0 l0_0.length c0_0, .slice A0_1 l0_1.length c0_1, .slice A0_2 l0_2.length c0_2, .int .i64 a0_3, .int .i64 a0_4]] w fun e w' => e = .returned (.bool r) ∧ Below w.heap.size w w' := by
  obtain ⟨cs, hcs⟩ : ∃ cs, cs = [old w w.heap.size] := ⟨_, rfl⟩
  have hp : Hp w cs w := by rw [hcs]; exact Hp.old_start w
  have hc2 : ∀ W, Hp w cs W → Below w.heap.size w W := fun W h => by rw [hcs] at h; exact h.since 0 _ rfl
  have hC0_0 : ∀ W, Hp w cs W → Kd.C k59 W A0_0 l0_0.length l0_0 := fun W h => Kd.C_below hr0_0 (hc2 W h)
  have hC0_1 : ∀ W, Hp w cs W → Kd.C k59 W A0_1 l0_1.length l0_1 := fun W h => Kd.C_below hr0_1 (hc2 W h)
  have hC0_2 : ∀ W, Hp w cs W → Kd.C (Kd.int .i64) W A0_2 l0_2.length l0_2 := fun W h => Kd.C_below hr0_2 (hc2 W h)
  clear hcs
  unfold spec_plGood.f at h
  obtain ⟨⟨t_2, t_3⟩, hv_1, h⟩ := Option.bind_eq_some_iff.mp h
  try dsimp only at h
  refine sx_enter (N := 60) (l := [.agg #[.slice A0_0 l0_0.length c0_0, .slice A0_1 l0_1.length c0_1, .slice A0_2 l0_2.length c0_2, .int .i64 a0_3, .int .i64 a0_4]]) Tryz.func24 rfl rfl rfl ?_
  refine wp_seq ?_
  refine sx_region ?_
  refine sx_box 1 hp #[.slice A0_0 l0_0.length c0_0, .slice A0_1 l0_1.length c0_1, .slice A0_2 l0_2.length c0_2, .int .i64 a0_3, .int .i64 a0_4] 29 (by rfl) (fun W => by kernel_rfl) ?_
  intro g_4 W_5 hp
  refine sx_rd 2 (.bool false) (by rfl) (by kernel_rfl) ?_
  refine sx_nil ?_
  refine ex_then_n ?_
  refine wp_seq ?_
  refine sx_region ?_
  refine sx_rd 6 (.pointer (some ⟨g_4, 2, none⟩)) (by rfl) (by kernel_rfl) ?_
  refine sx_rd 7 (.slice A0_2 l0_2.length c0_2) (by rfl) (ld1 (t := 23) (p := (.tmp 6)) (by rfl) (by rfl) (by kernel_rfl) (hp.cell 0 (by rfl) 2 _ (by rfl))) ?_
  refine sx_call 8 (by rfl) (by kernel_rfl) ((spec_plRow.calls _ A0_2 c0_2 l0_2 _ _ _ (hC0_2 _ hp.tail) hc0_2 hv_1).mono ?_)
  rintro _ W_11 ⟨v_7, rfl, hR_6, hb⟩
  refine ⟨_, rfl, ?_⟩
  obtain ⟨A_8, c_9, rfl, hcc_c_9, _⟩ := Kd.R_reads hR_6
  obtain ⟨F_10, hp⟩ : ∃ F, Hp w (row k59 59 w.heap.size (.slice A_8 t_2.length c_9) t_2 F :: blk g_4 #[.slice A0_0 l0_0.length c0_0, .slice A0_1 l0_1.length c0_1, .slice A0_2 l0_2.length c0_2, .int .i64 a0_3, .int .i64 a0_4] 29 :: cs) _ := ⟨_, Hp.made hp hb hR_6⟩
  refine sx_rd 5 (.tuple #[.slice A_8 t_2.length c_9, .bool t_3]) (by rfl) (by kernel_rfl) ?_
  refine sx_rd 9 (.slice A_8 t_2.length c_9) (by rfl) (by kernel_rfl) ?_
  refine sx_rd 10 (.bool t_3) (by rfl) (by kernel_rfl) ?_
  refine sx_rd 3 (.slice A_8 t_2.length c_9) (by rfl) (by kernel_rfl) ?_
  refine sx_rd 4 (.bool t_3) (by rfl) (by kernel_rfl) ?_
  refine sx_nil ?_
  refine ex_then_n ?_
  refine wp_seq ?_
  refine wp_seq ?_
  by_cases hc_12 : t_3 = true
  ·
    rw [if_pos hc_12] at h
    obtain ⟨t_14, hv_13, h⟩ := Option.bind_eq_some_iff.mp h
    try dsimp only at h
    by_cases hc_15 : t_14 = true
    ·
      rw [if_pos hc_15] at h
      obtain ⟨t_17, hv_16, h⟩ := Option.bind_eq_some_iff.mp h
      try dsimp only at h
      by_cases hc_18 : t_17 = true
      ·
        rw [if_pos hc_18] at h
        obtain ⟨t_20, hv_19, h⟩ := Option.bind_eq_some_iff.mp h
        try dsimp only at h
        by_cases hc_21 : t_20 = true
        ·
          rw [if_pos hc_21] at h
          obtain ⟨t_23, hv_22, h⟩ := Option.bind_eq_some_iff.mp h
          try dsimp only at h
          rcases k with _ | k
          · simp [spec_plGood.j0] at h
          simp only [spec_plGood.j0] at h
          refine sx_region ?_
          refine sx_rd 11 (.bool t_3) (by rfl) (by kernel_rfl) ?_
          refine sx_rd 12 (.bool false) (by rfl) (bv (show (!t_3) = false from by rw [hc_12]; rfl) (by kernel_rfl)) ?_
          refine sx_rd 13 (.bool false) (by rfl) (by kernel_rfl) ?_
          refine sx_want (by rfl) ?_
          refine sx_rd 14 (.pointer (some ⟨g_4, 0, none⟩)) (by rfl) (by kernel_rfl) ?_
          refine sx_want (by rfl) ?_
          refine sx_rd 15 (.slice A0_0 l0_0.length c0_0) (by rfl) (ld1 (t := 27) (p := (.tmp 14)) (by rfl) (by rfl) (by kernel_rfl) (hp.cell 1 (by rfl) 0 _ (by rfl))) ?_
          refine sx_want (by rfl) ?_
          refine sx_call 16 (by rfl) (by kernel_rfl) ((spec_tiHand.calls _ A0_0 c0_0 l0_0 _ _ (hC0_0 _ hp.tail.tail) hc0_0 hv_13).mono ?_)
          rintro _ W_24 ⟨rfl, hb⟩
          refine ⟨_, rfl, ?_⟩
          replace hp := hp.below hb
          clear hb
          refine sx_want (by rfl) ?_
          refine sx_rd 17 (.bool false) (by rfl) (bv (show (!t_14) = false from by rw [hc_15]; rfl) (by kernel_rfl)) ?_
          refine sx_rd 18 (.bool false) (by rfl) (by kernel_rfl) ?_
          refine sx_rd 19 (.bool false) (by rfl) (by kernel_rfl) ?_
          refine sx_want (by rfl) ?_
          refine sx_rd 20 (.pointer (some ⟨g_4, 1, none⟩)) (by rfl) (by kernel_rfl) ?_
          refine sx_want (by rfl) ?_
          refine sx_rd 21 (.slice A0_1 l0_1.length c0_1) (by rfl) (ld1 (t := 27) (p := (.tmp 20)) (by rfl) (by rfl) (by kernel_rfl) (hp.cell 1 (by rfl) 1 _ (by rfl))) ?_
          refine sx_want (by rfl) ?_
          refine sx_call 22 (by rfl) (by kernel_rfl) ((spec_tiHand.calls _ A0_1 c0_1 l0_1 _ _ (hC0_1 _ hp.tail.tail) hc0_1 hv_16).mono ?_)
          rintro _ W_25 ⟨rfl, hb⟩
          refine ⟨_, rfl, ?_⟩
          replace hp := hp.below hb
          clear hb
          refine sx_want (by rfl) ?_
          refine sx_rd 23 (.bool false) (by rfl) (bv (show (!t_17) = false from by rw [hc_18]; rfl) (by kernel_rfl)) ?_
          refine sx_rd 24 (.bool false) (by rfl) (by kernel_rfl) ?_
          refine sx_rd 25 (.bool false) (by rfl) (by kernel_rfl) ?_
          refine sx_want (by rfl) ?_
          refine sx_rd 26 (.pointer (some ⟨g_4, 3, none⟩)) (by rfl) (by kernel_rfl) ?_
          refine sx_want (by rfl) ?_
          refine sx_rd 27 (.int .i64 a0_3) (by rfl) (ld1 (t := 3) (p := (.tmp 26)) (by rfl) (by rfl) (by kernel_rfl) (hp.cell 1 (by rfl) 3 _ (by rfl))) ?_
          refine sx_want (by rfl) ?_
          refine sx_call 28 (by rfl) (by kernel_rfl) ((spec_l1In.calls a0_3 0 1 _ _ hv_19).mono ?_)
          rintro _ W_26 ⟨rfl, hb⟩
          refine ⟨_, rfl, ?_⟩
          replace hp := hp.below hb.below
          clear hb
          refine sx_want (by rfl) ?_
          refine sx_rd 29 (.bool false) (by rfl) (bv (show (!t_20) = false from by rw [hc_21]; rfl) (by kernel_rfl)) ?_
          refine sx_rd 30 (.bool false) (by rfl) (by kernel_rfl) ?_
          refine sx_rd 31 (.bool false) (by rfl) (by kernel_rfl) ?_
          refine sx_want (by rfl) ?_
          refine sx_rd 32 (.pointer (some ⟨g_4, 4, none⟩)) (by rfl) (by kernel_rfl) ?_
          refine sx_want (by rfl) ?_
          refine sx_rd 33 (.int .i64 a0_4) (by rfl) (ld1 (t := 3) (p := (.tmp 32)) (by rfl) (by rfl) (by kernel_rfl) (hp.cell 1 (by rfl) 4 _ (by rfl))) ?_
          refine sx_want (by rfl) ?_
          refine sx_call 34 (by rfl) (by kernel_rfl) ((spec_l1In.calls a0_4 0 2 _ _ hv_22).mono ?_)
          rintro _ W_27 ⟨rfl, hb⟩
          refine ⟨_, rfl, ?_⟩
          replace hp := hp.below hb.below
          clear hb
          refine sx_want (by rfl) ?_
          refine sx_rd 35 (.bool (!t_23)) (by rfl) (by kernel_rfl) ?_
          refine sx_rd 36 (.bool (!t_23)) (by rfl) (by kernel_rfl) ?_
          refine sx_nil ?_
          refine ex_then_n ?_
          by_cases hc_28 : (!t_23) = true
          ·
            rw [if_pos hc_28] at h
            refine sx_then (!t_23) (by rfl) hc_28 ?_
            refine wp_seq ?_
            refine sx_region ?_
            refine sx_rd 2 (.bool false) (by rfl) (by kernel_rfl) ?_
            refine sx_nil ?_
            refine ex_then_n ?_
            refine wp_ret ?_
            refine ex_then_r ?_
            refine sx_end (.bool false) (res1 2 (by rfl)) ?_
            obtain rfl := Option.some.inj h
            exact ⟨rfl, hc2 _ (hp.tail.tail)⟩
          ·
            rw [if_neg hc_28] at h
            obtain ⟨t_30, hv_29, h⟩ := Option.bind_eq_some_iff.mp h
            try dsimp only at h
            refine sx_else (!t_23) (by rfl) (Bool.eq_false_iff.mpr hc_28) ?_
            refine wp_skip ?_
            refine ex_then_n ?_
            refine wp_seq ?_
            by_cases hc_31 : (t_30.length : Int) = 0
            ·
              rw [if_pos hc_31] at h
              obtain ⟨t_33, hv_32, h⟩ := Option.bind_eq_some_iff.mp h
              try dsimp only at h
              by_cases hc_34 : (t_33.length : Int) = 0
              ·
                rw [if_pos hc_34] at h
                obtain ⟨t_36, hv_35, h⟩ := Option.bind_eq_some_iff.mp h
                try dsimp only at h
                refine sx_region ?_
                refine sx_rd 37 (.pointer (some ⟨g_4, 0, none⟩)) (by rfl) (by kernel_rfl) ?_
                refine sx_rd 38 (.slice A0_0 l0_0.length c0_0) (by rfl) (ld1 (t := 27) (p := (.tmp 37)) (by rfl) (by rfl) (by kernel_rfl) (hp.cell 1 (by rfl) 0 _ (by rfl))) ?_
                refine sx_rd 39 (.pointer (some ⟨g_4, 1, none⟩)) (by rfl) (by kernel_rfl) ?_
                refine sx_rd 40 (.slice A0_1 l0_1.length c0_1) (by rfl) (ld1 (t := 27) (p := (.tmp 39)) (by rfl) (by rfl) (by kernel_rfl) (hp.cell 1 (by rfl) 1 _ (by rfl))) ?_
                refine sx_call 41 (by rfl) (by kernel_rfl) ((spec_tiThose.calls _ A0_0 c0_0 l0_0 A0_1 c0_1 l0_1 true _ _ (hC0_0 _ hp.tail.tail) hc0_0 (hC0_1 _ hp.tail.tail) hc0_1 hv_29).mono ?_)
                rintro _ W_42 ⟨v_38, rfl, hR_37, hb⟩
                refine ⟨_, rfl, ?_⟩
                obtain ⟨A_39, c_40, rfl, hcc_c_40, _⟩ := Kd.R_reads hR_37
                obtain ⟨F_41, hp⟩ : ∃ F, Hp w (row k59 59 w.heap.size (.slice A_39 t_30.length c_40) t_30 F :: row k59 59 w.heap.size (.slice A_8 t_2.length c_9) t_2 F_10 :: blk g_4 #[.slice A0_0 l0_0.length c0_0, .slice A0_1 l0_1.length c0_1, .slice A0_2 l0_2.length c0_2, .int .i64 a0_3, .int .i64 a0_4] 29 :: cs) _ := ⟨_, Hp.made hp hb hR_37⟩
                refine sx_rd 42 (.int .i64 (t_30.length : Int)) (by rfl) (by kernel_rfl) ?_
                refine sx_rd 43 (.bool true) (by rfl) (bv (beq_iff_eq.mpr hc_31) (by kernel_rfl)) ?_
                refine sx_rd 44 (.bool true) (by rfl) (by kernel_rfl) ?_
                refine sx_want (by rfl) ?_
                refine sx_rd 45 (.pointer (some ⟨g_4, 0, none⟩)) (by rfl) (by kernel_rfl) ?_
                refine sx_want (by rfl) ?_
                refine sx_rd 46 (.slice A0_0 l0_0.length c0_0) (by rfl) (ld1 (t := 27) (p := (.tmp 45)) (by rfl) (by rfl) (by kernel_rfl) (hp.cell 2 (by rfl) 0 _ (by rfl))) ?_
                refine sx_want (by rfl) ?_
                refine sx_rd 47 (.slice A_8 t_2.length c_9) (by rfl) (by kernel_rfl) ?_
                refine sx_want (by rfl) ?_
                refine sx_call 48 (by rfl) (by kernel_rfl) ((spec_tiThose.calls _ A0_0 c0_0 l0_0 A_8 c_9 t_2 true _ _ (hC0_0 _ hp.tail.tail.tail) hc0_0 (row_C (hp.at_ 1 _ (by rfl))) (row_len (hp.at_ 1 _ (by rfl))).2 hv_32).mono ?_)
                rintro _ W_48 ⟨v_44, rfl, hR_43, hb⟩
                refine ⟨_, rfl, ?_⟩
                obtain ⟨A_45, c_46, rfl, hcc_c_46, _⟩ := Kd.R_reads hR_43
                obtain ⟨F_47, hp⟩ : ∃ F, Hp w (row k59 59 w.heap.size (.slice A_45 t_33.length c_46) t_33 F :: row k59 59 w.heap.size (.slice A_39 t_30.length c_40) t_30 F_41 :: row k59 59 w.heap.size (.slice A_8 t_2.length c_9) t_2 F_10 :: blk g_4 #[.slice A0_0 l0_0.length c0_0, .slice A0_1 l0_1.length c0_1, .slice A0_2 l0_2.length c0_2, .int .i64 a0_3, .int .i64 a0_4] 29 :: cs) _ := ⟨_, Hp.made hp hb hR_43⟩
                refine sx_want (by rfl) ?_
                refine sx_rd 49 (.int .i64 (t_33.length : Int)) (by rfl) (by kernel_rfl) ?_
                refine sx_want (by rfl) ?_
                refine sx_rd 50 (.bool true) (by rfl) (bv (beq_iff_eq.mpr hc_34) (by kernel_rfl)) ?_
                refine sx_rd 51 (.bool true) (by rfl) (by kernel_rfl) ?_
                refine sx_rd 52 (.bool true) (by rfl) (by kernel_rfl) ?_
                refine sx_want (by rfl) ?_
                refine sx_rd 53 (.pointer (some ⟨g_4, 1, none⟩)) (by rfl) (by kernel_rfl) ?_
                refine sx_want (by rfl) ?_
                refine sx_rd 54 (.slice A0_1 l0_1.length c0_1) (by rfl) (ld1 (t := 27) (p := (.tmp 53)) (by rfl) (by rfl) (by kernel_rfl) (hp.cell 3 (by rfl) 1 _ (by rfl))) ?_
                refine sx_want (by rfl) ?_
                refine sx_rd 55 (.slice A_8 t_2.length c_9) (by rfl) (by kernel_rfl) ?_
                refine sx_want (by rfl) ?_
                refine sx_call 56 (by rfl) (by kernel_rfl) ((spec_tiThose.calls _ A0_1 c0_1 l0_1 A_8 c_9 t_2 true _ _ (hC0_1 _ hp.tail.tail.tail.tail) hc0_1 (row_C (hp.at_ 2 _ (by rfl))) (row_len (hp.at_ 2 _ (by rfl))).2 hv_35).mono ?_)
                rintro _ W_54 ⟨v_50, rfl, hR_49, hb⟩
                refine ⟨_, rfl, ?_⟩
                obtain ⟨A_51, c_52, rfl, hcc_c_52, _⟩ := Kd.R_reads hR_49
                obtain ⟨F_53, hp⟩ : ∃ F, Hp w (row k59 59 w.heap.size (.slice A_51 t_36.length c_52) t_36 F :: row k59 59 w.heap.size (.slice A_45 t_33.length c_46) t_33 F_47 :: row k59 59 w.heap.size (.slice A_39 t_30.length c_40) t_30 F_41 :: row k59 59 w.heap.size (.slice A_8 t_2.length c_9) t_2 F_10 :: blk g_4 #[.slice A0_0 l0_0.length c0_0, .slice A0_1 l0_1.length c0_1, .slice A0_2 l0_2.length c0_2, .int .i64 a0_3, .int .i64 a0_4] 29 :: cs) _ := ⟨_, Hp.made hp hb hR_49⟩
                refine sx_want (by rfl) ?_
                refine sx_rd 57 (.int .i64 (t_36.length : Int)) (by rfl) (by kernel_rfl) ?_
                refine sx_want (by rfl) ?_
                refine sx_rd 58 (.bool ((t_36.length : Int) == 0)) (by rfl) (by kernel_rfl) ?_
                refine sx_rd 59 (.bool ((t_36.length : Int) == 0)) (by rfl) (by kernel_rfl) ?_
                refine sx_rd 2 (.bool ((t_36.length : Int) == 0)) (by rfl) (by kernel_rfl) ?_
                refine sx_nil ?_
                refine ex_then_n ?_
                refine wp_ret ?_
                refine sx_end (.bool ((t_36.length : Int) == 0)) (res1 2 (by rfl)) ?_
                obtain rfl := Option.some.inj h
                exact ⟨rfl, hc2 _ (hp.tail.tail.tail.tail.tail)⟩
              ·
                rw [if_neg hc_34] at h
                refine sx_region ?_
                refine sx_rd 37 (.pointer (some ⟨g_4, 0, none⟩)) (by rfl) (by kernel_rfl) ?_
                refine sx_rd 38 (.slice A0_0 l0_0.length c0_0) (by rfl) (ld1 (t := 27) (p := (.tmp 37)) (by rfl) (by rfl) (by kernel_rfl) (hp.cell 1 (by rfl) 0 _ (by rfl))) ?_
                refine sx_rd 39 (.pointer (some ⟨g_4, 1, none⟩)) (by rfl) (by kernel_rfl) ?_
                refine sx_rd 40 (.slice A0_1 l0_1.length c0_1) (by rfl) (ld1 (t := 27) (p := (.tmp 39)) (by rfl) (by rfl) (by kernel_rfl) (hp.cell 1 (by rfl) 1 _ (by rfl))) ?_
                refine sx_call 41 (by rfl) (by kernel_rfl) ((spec_tiThose.calls _ A0_0 c0_0 l0_0 A0_1 c0_1 l0_1 true _ _ (hC0_0 _ hp.tail.tail) hc0_0 (hC0_1 _ hp.tail.tail) hc0_1 hv_29).mono ?_)
                rintro _ W_60 ⟨v_56, rfl, hR_55, hb⟩
                refine ⟨_, rfl, ?_⟩
                obtain ⟨A_57, c_58, rfl, hcc_c_58, _⟩ := Kd.R_reads hR_55
                obtain ⟨F_59, hp⟩ : ∃ F, Hp w (row k59 59 w.heap.size (.slice A_57 t_30.length c_58) t_30 F :: row k59 59 w.heap.size (.slice A_8 t_2.length c_9) t_2 F_10 :: blk g_4 #[.slice A0_0 l0_0.length c0_0, .slice A0_1 l0_1.length c0_1, .slice A0_2 l0_2.length c0_2, .int .i64 a0_3, .int .i64 a0_4] 29 :: cs) _ := ⟨_, Hp.made hp hb hR_55⟩
                refine sx_rd 42 (.int .i64 (t_30.length : Int)) (by rfl) (by kernel_rfl) ?_
                refine sx_rd 43 (.bool true) (by rfl) (bv (beq_iff_eq.mpr hc_31) (by kernel_rfl)) ?_
                refine sx_rd 44 (.bool true) (by rfl) (by kernel_rfl) ?_
                refine sx_want (by rfl) ?_
                refine sx_rd 45 (.pointer (some ⟨g_4, 0, none⟩)) (by rfl) (by kernel_rfl) ?_
                refine sx_want (by rfl) ?_
                refine sx_rd 46 (.slice A0_0 l0_0.length c0_0) (by rfl) (ld1 (t := 27) (p := (.tmp 45)) (by rfl) (by rfl) (by kernel_rfl) (hp.cell 2 (by rfl) 0 _ (by rfl))) ?_
                refine sx_want (by rfl) ?_
                refine sx_rd 47 (.slice A_8 t_2.length c_9) (by rfl) (by kernel_rfl) ?_
                refine sx_want (by rfl) ?_
                refine sx_call 48 (by rfl) (by kernel_rfl) ((spec_tiThose.calls _ A0_0 c0_0 l0_0 A_8 c_9 t_2 true _ _ (hC0_0 _ hp.tail.tail.tail) hc0_0 (row_C (hp.at_ 1 _ (by rfl))) (row_len (hp.at_ 1 _ (by rfl))).2 hv_32).mono ?_)
                rintro _ W_66 ⟨v_62, rfl, hR_61, hb⟩
                refine ⟨_, rfl, ?_⟩
                obtain ⟨A_63, c_64, rfl, hcc_c_64, _⟩ := Kd.R_reads hR_61
                obtain ⟨F_65, hp⟩ : ∃ F, Hp w (row k59 59 w.heap.size (.slice A_63 t_33.length c_64) t_33 F :: row k59 59 w.heap.size (.slice A_57 t_30.length c_58) t_30 F_59 :: row k59 59 w.heap.size (.slice A_8 t_2.length c_9) t_2 F_10 :: blk g_4 #[.slice A0_0 l0_0.length c0_0, .slice A0_1 l0_1.length c0_1, .slice A0_2 l0_2.length c0_2, .int .i64 a0_3, .int .i64 a0_4] 29 :: cs) _ := ⟨_, Hp.made hp hb hR_61⟩
                refine sx_want (by rfl) ?_
                refine sx_rd 49 (.int .i64 (t_33.length : Int)) (by rfl) (by kernel_rfl) ?_
                refine sx_want (by rfl) ?_
                refine sx_rd 50 (.bool false) (by rfl) (bv (beq_eq_false_iff_ne.mpr hc_34) (by kernel_rfl)) ?_
                refine sx_rd 51 (.bool false) (by rfl) (by kernel_rfl) ?_
                refine sx_rd 52 (.bool false) (by rfl) (by kernel_rfl) ?_
                refine sx_skip 53 (by rfl) (by rfl) (by rfl) ?_
                refine sx_skip 54 (by rfl) (by rfl) (by rfl) ?_
                refine sx_skip 55 (by rfl) (by rfl) (by rfl) ?_
                refine sx_skip 56 (by rfl) (by rfl) (by rfl) ?_
                refine sx_skip 57 (by rfl) (by rfl) (by rfl) ?_
                refine sx_skip 58 (by rfl) (by rfl) (by rfl) ?_
                refine sx_rd 59 (.bool false) (by rfl) (by kernel_rfl) ?_
                refine sx_rd 2 (.bool false) (by rfl) (by kernel_rfl) ?_
                refine sx_nil ?_
                refine ex_then_n ?_
                refine wp_ret ?_
                refine sx_end (.bool false) (res1 2 (by rfl)) ?_
                obtain rfl := Option.some.inj h
                exact ⟨rfl, hc2 _ (hp.tail.tail.tail.tail)⟩
            ·
              rw [if_neg hc_31] at h
              refine sx_region ?_
              refine sx_rd 37 (.pointer (some ⟨g_4, 0, none⟩)) (by rfl) (by kernel_rfl) ?_
              refine sx_rd 38 (.slice A0_0 l0_0.length c0_0) (by rfl) (ld1 (t := 27) (p := (.tmp 37)) (by rfl) (by rfl) (by kernel_rfl) (hp.cell 1 (by rfl) 0 _ (by rfl))) ?_
              refine sx_rd 39 (.pointer (some ⟨g_4, 1, none⟩)) (by rfl) (by kernel_rfl) ?_
              refine sx_rd 40 (.slice A0_1 l0_1.length c0_1) (by rfl) (ld1 (t := 27) (p := (.tmp 39)) (by rfl) (by rfl) (by kernel_rfl) (hp.cell 1 (by rfl) 1 _ (by rfl))) ?_
              refine sx_call 41 (by rfl) (by kernel_rfl) ((spec_tiThose.calls _ A0_0 c0_0 l0_0 A0_1 c0_1 l0_1 true _ _ (hC0_0 _ hp.tail.tail) hc0_0 (hC0_1 _ hp.tail.tail) hc0_1 hv_29).mono ?_)
              rintro _ W_72 ⟨v_68, rfl, hR_67, hb⟩
              refine ⟨_, rfl, ?_⟩
              obtain ⟨A_69, c_70, rfl, hcc_c_70, _⟩ := Kd.R_reads hR_67
              obtain ⟨F_71, hp⟩ : ∃ F, Hp w (row k59 59 w.heap.size (.slice A_69 t_30.length c_70) t_30 F :: row k59 59 w.heap.size (.slice A_8 t_2.length c_9) t_2 F_10 :: blk g_4 #[.slice A0_0 l0_0.length c0_0, .slice A0_1 l0_1.length c0_1, .slice A0_2 l0_2.length c0_2, .int .i64 a0_3, .int .i64 a0_4] 29 :: cs) _ := ⟨_, Hp.made hp hb hR_67⟩
              refine sx_rd 42 (.int .i64 (t_30.length : Int)) (by rfl) (by kernel_rfl) ?_
              refine sx_rd 43 (.bool false) (by rfl) (bv (beq_eq_false_iff_ne.mpr hc_31) (by kernel_rfl)) ?_
              refine sx_rd 44 (.bool false) (by rfl) (by kernel_rfl) ?_
              refine sx_skip 45 (by rfl) (by rfl) (by rfl) ?_
              refine sx_skip 46 (by rfl) (by rfl) (by rfl) ?_
              refine sx_skip 47 (by rfl) (by rfl) (by rfl) ?_
              refine sx_skip 48 (by rfl) (by rfl) (by rfl) ?_
              refine sx_skip 49 (by rfl) (by rfl) (by rfl) ?_
              refine sx_skip 50 (by rfl) (by rfl) (by rfl) ?_
              refine sx_rd 51 (.bool false) (by rfl) (by kernel_rfl) ?_
              refine sx_rd 52 (.bool false) (by rfl) (by kernel_rfl) ?_
              refine sx_skip 53 (by rfl) (by rfl) (by rfl) ?_
              refine sx_skip 54 (by rfl) (by rfl) (by rfl) ?_
              refine sx_skip 55 (by rfl) (by rfl) (by rfl) ?_
              refine sx_skip 56 (by rfl) (by rfl) (by rfl) ?_
              refine sx_skip 57 (by rfl) (by rfl) (by rfl) ?_
              refine sx_skip 58 (by rfl) (by rfl) (by rfl) ?_
              refine sx_rd 59 (.bool false) (by rfl) (by kernel_rfl) ?_
              refine sx_rd 2 (.bool false) (by rfl) (by kernel_rfl) ?_
              refine sx_nil ?_
              refine ex_then_n ?_
              refine wp_ret ?_
              refine sx_end (.bool false) (res1 2 (by rfl)) ?_
              obtain rfl := Option.some.inj h
              exact ⟨rfl, hc2 _ (hp.tail.tail.tail)⟩
        ·
          rw [if_neg hc_21] at h
          rcases k with _ | k
          · simp [spec_plGood.j0] at h
          simp only [spec_plGood.j0] at h
          rw [if_pos (by simp)] at h
          refine sx_region ?_
          refine sx_rd 11 (.bool t_3) (by rfl) (by kernel_rfl) ?_
          refine sx_rd 12 (.bool false) (by rfl) (bv (show (!t_3) = false from by rw [hc_12]; rfl) (by kernel_rfl)) ?_
          refine sx_rd 13 (.bool false) (by rfl) (by kernel_rfl) ?_
          refine sx_want (by rfl) ?_
          refine sx_rd 14 (.pointer (some ⟨g_4, 0, none⟩)) (by rfl) (by kernel_rfl) ?_
          refine sx_want (by rfl) ?_
          refine sx_rd 15 (.slice A0_0 l0_0.length c0_0) (by rfl) (ld1 (t := 27) (p := (.tmp 14)) (by rfl) (by rfl) (by kernel_rfl) (hp.cell 1 (by rfl) 0 _ (by rfl))) ?_
          refine sx_want (by rfl) ?_
          refine sx_call 16 (by rfl) (by kernel_rfl) ((spec_tiHand.calls _ A0_0 c0_0 l0_0 _ _ (hC0_0 _ hp.tail.tail) hc0_0 hv_13).mono ?_)
          rintro _ W_73 ⟨rfl, hb⟩
          refine ⟨_, rfl, ?_⟩
          replace hp := hp.below hb
          clear hb
          refine sx_want (by rfl) ?_
          refine sx_rd 17 (.bool false) (by rfl) (bv (show (!t_14) = false from by rw [hc_15]; rfl) (by kernel_rfl)) ?_
          refine sx_rd 18 (.bool false) (by rfl) (by kernel_rfl) ?_
          refine sx_rd 19 (.bool false) (by rfl) (by kernel_rfl) ?_
          refine sx_want (by rfl) ?_
          refine sx_rd 20 (.pointer (some ⟨g_4, 1, none⟩)) (by rfl) (by kernel_rfl) ?_
          refine sx_want (by rfl) ?_
          refine sx_rd 21 (.slice A0_1 l0_1.length c0_1) (by rfl) (ld1 (t := 27) (p := (.tmp 20)) (by rfl) (by rfl) (by kernel_rfl) (hp.cell 1 (by rfl) 1 _ (by rfl))) ?_
          refine sx_want (by rfl) ?_
          refine sx_call 22 (by rfl) (by kernel_rfl) ((spec_tiHand.calls _ A0_1 c0_1 l0_1 _ _ (hC0_1 _ hp.tail.tail) hc0_1 hv_16).mono ?_)
          rintro _ W_74 ⟨rfl, hb⟩
          refine ⟨_, rfl, ?_⟩
          replace hp := hp.below hb
          clear hb
          refine sx_want (by rfl) ?_
          refine sx_rd 23 (.bool false) (by rfl) (bv (show (!t_17) = false from by rw [hc_18]; rfl) (by kernel_rfl)) ?_
          refine sx_rd 24 (.bool false) (by rfl) (by kernel_rfl) ?_
          refine sx_rd 25 (.bool false) (by rfl) (by kernel_rfl) ?_
          refine sx_want (by rfl) ?_
          refine sx_rd 26 (.pointer (some ⟨g_4, 3, none⟩)) (by rfl) (by kernel_rfl) ?_
          refine sx_want (by rfl) ?_
          refine sx_rd 27 (.int .i64 a0_3) (by rfl) (ld1 (t := 3) (p := (.tmp 26)) (by rfl) (by rfl) (by kernel_rfl) (hp.cell 1 (by rfl) 3 _ (by rfl))) ?_
          refine sx_want (by rfl) ?_
          refine sx_call 28 (by rfl) (by kernel_rfl) ((spec_l1In.calls a0_3 0 1 _ _ hv_19).mono ?_)
          rintro _ W_75 ⟨rfl, hb⟩
          refine ⟨_, rfl, ?_⟩
          replace hp := hp.below hb.below
          clear hb
          refine sx_want (by rfl) ?_
          refine sx_rd 29 (.bool true) (by rfl) (bv (show (!t_20) = true from by rw [(Bool.eq_false_iff.mpr hc_21)]; rfl) (by kernel_rfl)) ?_
          refine sx_rd 30 (.bool true) (by rfl) (by kernel_rfl) ?_
          refine sx_rd 31 (.bool true) (by rfl) (by kernel_rfl) ?_
          refine sx_skip 32 (by rfl) (by rfl) (by rfl) ?_
          refine sx_skip 33 (by rfl) (by rfl) (by rfl) ?_
          refine sx_skip 34 (by rfl) (by rfl) (by rfl) ?_
          refine sx_skip 35 (by rfl) (by rfl) (by rfl) ?_
          refine sx_rd 36 (.bool true) (by rfl) (by kernel_rfl) ?_
          refine sx_nil ?_
          refine ex_then_n ?_
          refine sx_then true (by rfl) rfl ?_
          refine wp_seq ?_
          refine sx_region ?_
          refine sx_rd 2 (.bool false) (by rfl) (by kernel_rfl) ?_
          refine sx_nil ?_
          refine ex_then_n ?_
          refine wp_ret ?_
          refine ex_then_r ?_
          refine sx_end (.bool false) (res1 2 (by rfl)) ?_
          obtain rfl := Option.some.inj h
          exact ⟨rfl, hc2 _ (hp.tail.tail)⟩
      ·
        rw [if_neg hc_18] at h
        rcases k with _ | k
        · simp [spec_plGood.j0] at h
        simp only [spec_plGood.j0] at h
        rw [if_pos (by simp)] at h
        refine sx_region ?_
        refine sx_rd 11 (.bool t_3) (by rfl) (by kernel_rfl) ?_
        refine sx_rd 12 (.bool false) (by rfl) (bv (show (!t_3) = false from by rw [hc_12]; rfl) (by kernel_rfl)) ?_
        refine sx_rd 13 (.bool false) (by rfl) (by kernel_rfl) ?_
        refine sx_want (by rfl) ?_
        refine sx_rd 14 (.pointer (some ⟨g_4, 0, none⟩)) (by rfl) (by kernel_rfl) ?_
        refine sx_want (by rfl) ?_
        refine sx_rd 15 (.slice A0_0 l0_0.length c0_0) (by rfl) (ld1 (t := 27) (p := (.tmp 14)) (by rfl) (by rfl) (by kernel_rfl) (hp.cell 1 (by rfl) 0 _ (by rfl))) ?_
        refine sx_want (by rfl) ?_
        refine sx_call 16 (by rfl) (by kernel_rfl) ((spec_tiHand.calls _ A0_0 c0_0 l0_0 _ _ (hC0_0 _ hp.tail.tail) hc0_0 hv_13).mono ?_)
        rintro _ W_76 ⟨rfl, hb⟩
        refine ⟨_, rfl, ?_⟩
        replace hp := hp.below hb
        clear hb
        refine sx_want (by rfl) ?_
        refine sx_rd 17 (.bool false) (by rfl) (bv (show (!t_14) = false from by rw [hc_15]; rfl) (by kernel_rfl)) ?_
        refine sx_rd 18 (.bool false) (by rfl) (by kernel_rfl) ?_
        refine sx_rd 19 (.bool false) (by rfl) (by kernel_rfl) ?_
        refine sx_want (by rfl) ?_
        refine sx_rd 20 (.pointer (some ⟨g_4, 1, none⟩)) (by rfl) (by kernel_rfl) ?_
        refine sx_want (by rfl) ?_
        refine sx_rd 21 (.slice A0_1 l0_1.length c0_1) (by rfl) (ld1 (t := 27) (p := (.tmp 20)) (by rfl) (by rfl) (by kernel_rfl) (hp.cell 1 (by rfl) 1 _ (by rfl))) ?_
        refine sx_want (by rfl) ?_
        refine sx_call 22 (by rfl) (by kernel_rfl) ((spec_tiHand.calls _ A0_1 c0_1 l0_1 _ _ (hC0_1 _ hp.tail.tail) hc0_1 hv_16).mono ?_)
        rintro _ W_77 ⟨rfl, hb⟩
        refine ⟨_, rfl, ?_⟩
        replace hp := hp.below hb
        clear hb
        refine sx_want (by rfl) ?_
        refine sx_rd 23 (.bool true) (by rfl) (bv (show (!t_17) = true from by rw [(Bool.eq_false_iff.mpr hc_18)]; rfl) (by kernel_rfl)) ?_
        refine sx_rd 24 (.bool true) (by rfl) (by kernel_rfl) ?_
        refine sx_rd 25 (.bool true) (by rfl) (by kernel_rfl) ?_
        refine sx_skip 26 (by rfl) (by rfl) (by rfl) ?_
        refine sx_skip 27 (by rfl) (by rfl) (by rfl) ?_
        refine sx_skip 28 (by rfl) (by rfl) (by rfl) ?_
        refine sx_skip 29 (by rfl) (by rfl) (by rfl) ?_
        refine sx_rd 30 (.bool true) (by rfl) (by kernel_rfl) ?_
        refine sx_rd 31 (.bool true) (by rfl) (by kernel_rfl) ?_
        refine sx_skip 32 (by rfl) (by rfl) (by rfl) ?_
        refine sx_skip 33 (by rfl) (by rfl) (by rfl) ?_
        refine sx_skip 34 (by rfl) (by rfl) (by rfl) ?_
        refine sx_skip 35 (by rfl) (by rfl) (by rfl) ?_
        refine sx_rd 36 (.bool true) (by rfl) (by kernel_rfl) ?_
        refine sx_nil ?_
        refine ex_then_n ?_
        refine sx_then true (by rfl) rfl ?_
        refine wp_seq ?_
        refine sx_region ?_
        refine sx_rd 2 (.bool false) (by rfl) (by kernel_rfl) ?_
        refine sx_nil ?_
        refine ex_then_n ?_
        refine wp_ret ?_
        refine ex_then_r ?_
        refine sx_end (.bool false) (res1 2 (by rfl)) ?_
        obtain rfl := Option.some.inj h
        exact ⟨rfl, hc2 _ (hp.tail.tail)⟩
    ·
      rw [if_neg hc_15] at h
      rcases k with _ | k
      · simp [spec_plGood.j0] at h
      simp only [spec_plGood.j0] at h
      rw [if_pos (by simp)] at h
      refine sx_region ?_
      refine sx_rd 11 (.bool t_3) (by rfl) (by kernel_rfl) ?_
      refine sx_rd 12 (.bool false) (by rfl) (bv (show (!t_3) = false from by rw [hc_12]; rfl) (by kernel_rfl)) ?_
      refine sx_rd 13 (.bool false) (by rfl) (by kernel_rfl) ?_
      refine sx_want (by rfl) ?_
      refine sx_rd 14 (.pointer (some ⟨g_4, 0, none⟩)) (by rfl) (by kernel_rfl) ?_
      refine sx_want (by rfl) ?_
      refine sx_rd 15 (.slice A0_0 l0_0.length c0_0) (by rfl) (ld1 (t := 27) (p := (.tmp 14)) (by rfl) (by rfl) (by kernel_rfl) (hp.cell 1 (by rfl) 0 _ (by rfl))) ?_
      refine sx_want (by rfl) ?_
      refine sx_call 16 (by rfl) (by kernel_rfl) ((spec_tiHand.calls _ A0_0 c0_0 l0_0 _ _ (hC0_0 _ hp.tail.tail) hc0_0 hv_13).mono ?_)
      rintro _ W_78 ⟨rfl, hb⟩
      refine ⟨_, rfl, ?_⟩
      replace hp := hp.below hb
      clear hb
      refine sx_want (by rfl) ?_
      refine sx_rd 17 (.bool true) (by rfl) (bv (show (!t_14) = true from by rw [(Bool.eq_false_iff.mpr hc_15)]; rfl) (by kernel_rfl)) ?_
      refine sx_rd 18 (.bool true) (by rfl) (by kernel_rfl) ?_
      refine sx_rd 19 (.bool true) (by rfl) (by kernel_rfl) ?_
      refine sx_skip 20 (by rfl) (by rfl) (by rfl) ?_
      refine sx_skip 21 (by rfl) (by rfl) (by rfl) ?_
      refine sx_skip 22 (by rfl) (by rfl) (by rfl) ?_
      refine sx_skip 23 (by rfl) (by rfl) (by rfl) ?_
      refine sx_rd 24 (.bool true) (by rfl) (by kernel_rfl) ?_
      refine sx_rd 25 (.bool true) (by rfl) (by kernel_rfl) ?_
      refine sx_skip 26 (by rfl) (by rfl) (by rfl) ?_
      refine sx_skip 27 (by rfl) (by rfl) (by rfl) ?_
      refine sx_skip 28 (by rfl) (by rfl) (by rfl) ?_
      refine sx_skip 29 (by rfl) (by rfl) (by rfl) ?_
      refine sx_rd 30 (.bool true) (by rfl) (by kernel_rfl) ?_
      refine sx_rd 31 (.bool true) (by rfl) (by kernel_rfl) ?_
      refine sx_skip 32 (by rfl) (by rfl) (by rfl) ?_
      refine sx_skip 33 (by rfl) (by rfl) (by rfl) ?_
      refine sx_skip 34 (by rfl) (by rfl) (by rfl) ?_
      refine sx_skip 35 (by rfl) (by rfl) (by rfl) ?_
      refine sx_rd 36 (.bool true) (by rfl) (by kernel_rfl) ?_
      refine sx_nil ?_
      refine ex_then_n ?_
      refine sx_then true (by rfl) rfl ?_
      refine wp_seq ?_
      refine sx_region ?_
      refine sx_rd 2 (.bool false) (by rfl) (by kernel_rfl) ?_
      refine sx_nil ?_
      refine ex_then_n ?_
      refine wp_ret ?_
      refine ex_then_r ?_
      refine sx_end (.bool false) (res1 2 (by rfl)) ?_
      obtain rfl := Option.some.inj h
      exact ⟨rfl, hc2 _ (hp.tail.tail)⟩
  ·
    rw [if_neg hc_12] at h
    rcases k with _ | k
    · simp [spec_plGood.j0] at h
    simp only [spec_plGood.j0] at h
    rw [if_pos (by simp)] at h
    refine sx_region ?_
    refine sx_rd 11 (.bool t_3) (by rfl) (by kernel_rfl) ?_
    refine sx_rd 12 (.bool true) (by rfl) (bv (show (!t_3) = true from by rw [(Bool.eq_false_iff.mpr hc_12)]; rfl) (by kernel_rfl)) ?_
    refine sx_rd 13 (.bool true) (by rfl) (by kernel_rfl) ?_
    refine sx_skip 14 (by rfl) (by rfl) (by rfl) ?_
    refine sx_skip 15 (by rfl) (by rfl) (by rfl) ?_
    refine sx_skip 16 (by rfl) (by rfl) (by rfl) ?_
    refine sx_skip 17 (by rfl) (by rfl) (by rfl) ?_
    refine sx_rd 18 (.bool true) (by rfl) (by kernel_rfl) ?_
    refine sx_rd 19 (.bool true) (by rfl) (by kernel_rfl) ?_
    refine sx_skip 20 (by rfl) (by rfl) (by rfl) ?_
    refine sx_skip 21 (by rfl) (by rfl) (by rfl) ?_
    refine sx_skip 22 (by rfl) (by rfl) (by rfl) ?_
    refine sx_skip 23 (by rfl) (by rfl) (by rfl) ?_
    refine sx_rd 24 (.bool true) (by rfl) (by kernel_rfl) ?_
    refine sx_rd 25 (.bool true) (by rfl) (by kernel_rfl) ?_
    refine sx_skip 26 (by rfl) (by rfl) (by rfl) ?_
    refine sx_skip 27 (by rfl) (by rfl) (by rfl) ?_
    refine sx_skip 28 (by rfl) (by rfl) (by rfl) ?_
    refine sx_skip 29 (by rfl) (by rfl) (by rfl) ?_
    refine sx_rd 30 (.bool true) (by rfl) (by kernel_rfl) ?_
    refine sx_rd 31 (.bool true) (by rfl) (by kernel_rfl) ?_
    refine sx_skip 32 (by rfl) (by rfl) (by rfl) ?_
    refine sx_skip 33 (by rfl) (by rfl) (by rfl) ?_
    refine sx_skip 34 (by rfl) (by rfl) (by rfl) ?_
    refine sx_skip 35 (by rfl) (by rfl) (by rfl) ?_
    refine sx_rd 36 (.bool true) (by rfl) (by kernel_rfl) ?_
    refine sx_nil ?_
    refine ex_then_n ?_
    refine sx_then true (by rfl) rfl ?_
    refine wp_seq ?_
    refine sx_region ?_
    refine sx_rd 2 (.bool false) (by rfl) (by kernel_rfl) ?_
    refine sx_nil ?_
    refine ex_then_n ?_
    refine wp_ret ?_
    refine ex_then_r ?_
    refine sx_end (.bool false) (res1 2 (by rfl)) ?_
    obtain rfl := Option.some.inj h
    exact ⟨rfl, hc2 _ (hp.tail.tail)⟩
end
section
open Go.RowKit Go.Proofs.YtkjaahmlnbgnjaaGreatW.PrintWords Go.Proofs.YtkjaahmlnbgnjaaGreatW.PrintLast Go.Proofs.YtkjaahmlnbgnjaaGreatW.PrintMore
attribute [local go_sem] max2_int min2_int max_two min_two max_three min_three max_four min_four   -- for this text's walks alone
set_option linter.unusedVariables false
set_option linter.unusedSimpArgs false

def spec_plOver.f (l0_0 : List (S_Tile)) (l0_1 : List (S_Tile)) (l0_2 : List Int) (a0_3 : Int) (a0_4 : Int) : Option (Bool) := if (l0_0.length : Int) = 0 then (some true) else (if (l0_1.length : Int) = 0 then (some true) else (some (a0_4 == 2)))
set_option maxRecDepth 100000 in
set_option maxHeartbeats 40000000 in
theorem spec_plOver.calls (A0_0 : Option Addr) (c0_0 : Nat) (l0_0 : List (S_Tile)) (A0_1 : Option Addr) (c0_1 : Nat) (l0_1 : List (S_Tile)) (A0_2 : Option Addr) (c0_2 : Nat) (l0_2 : List Int) (a0_3 : Int) (a0_4 : Int) (r : Bool) (w : World) (hr0_0 : Kd.C k59 w A0_0 l0_0.length l0_0) (hc0_0 : l0_0.length ≤ c0_0) (hr0_1 : Kd.C k59 w A0_1 l0_1.length l0_1) (hc0_1 : l0_1.length ≤ c0_1) (hr0_2 : Kd.C (Kd.int .i64) w A0_2 l0_2.length l0_2) (hc0_2 : l0_2.length ≤ c0_2) (h : spec_plOver.f l0_0 l0_1 l0_2 a0_3 a0_4 = some r) :
    Calls Tryz.prog 38 #[.agg #[.slice A0_0 l0_0.length c0_0, .slice A0_1 l0_1.length c0_1, .slice A0_2 l0_2.length c0_2, .int .i64 a0_3, .int .i64 a0_4]] w fun e w' => e = .returned (.bool r) ∧ Below w.heap.size w w' := by
  obtain ⟨cs, hcs⟩ : ∃ cs, cs = [old w w.heap.size] := ⟨_, rfl⟩
  have hp : Hp w cs w := by rw [hcs]; exact Hp.old_start w
  have hc2 : ∀ W, Hp w cs W → Below w.heap.size w W := fun W h => by rw [hcs] at h; exact h.since 0 _ rfl
  have hC0_0 : ∀ W, Hp w cs W → Kd.C k59 W A0_0 l0_0.length l0_0 := fun W h => Kd.C_below hr0_0 (hc2 W h)
  have hC0_1 : ∀ W, Hp w cs W → Kd.C k59 W A0_1 l0_1.length l0_1 := fun W h => Kd.C_below hr0_1 (hc2 W h)
  have hC0_2 : ∀ W, Hp w cs W → Kd.C (Kd.int .i64) W A0_2 l0_2.length l0_2 := fun W h => Kd.C_below hr0_2 (hc2 W h)
  clear hcs
  unfold spec_plOver.f at h
  refine sx_enter (N := 18) (l := [.agg #[.slice A0_0 l0_0.length c0_0, .slice A0_1 l0_1.length c0_1, .slice A0_2 l0_2.length c0_2, .int .i64 a0_3, .int .i64 a0_4]]) Tryz.func38 rfl rfl rfl ?_
  refine wp_seq ?_
  refine sx_region ?_
  refine sx_box 1 hp #[.slice A0_0 l0_0.length c0_0, .slice A0_1 l0_1.length c0_1, .slice A0_2 l0_2.length c0_2, .int .i64 a0_3, .int .i64 a0_4] 29 (by rfl) (fun W => by kernel_rfl) ?_
  intro g_1 W_2 hp
  refine sx_rd 2 (.bool false) (by rfl) (by kernel_rfl) ?_
  refine sx_nil ?_
  refine ex_then_n ?_
  refine wp_seq ?_
  by_cases hc_3 : (l0_0.length : Int) = 0
  ·
    rw [if_pos hc_3] at h
    refine sx_region ?_
    refine sx_rd 3 (.pointer (some ⟨g_1, 0, none⟩)) (by rfl) (by kernel_rfl) ?_
    refine sx_rd 4 (.slice A0_0 l0_0.length c0_0) (by rfl) (ld1 (t := 27) (p := (.tmp 3)) (by rfl) (by rfl) (by kernel_rfl) (hp.cell 0 (by rfl) 0 _ (by rfl))) ?_
    refine sx_rd 5 (.int .i64 (l0_0.length : Int)) (by rfl) (by kernel_rfl) ?_
    refine sx_rd 6 (.bool true) (by rfl) (bv (beq_iff_eq.mpr hc_3) (by kernel_rfl)) ?_
    refine sx_rd 7 (.bool true) (by rfl) (by kernel_rfl) ?_
    refine sx_skip 8 (by rfl) (by rfl) (by rfl) ?_
    refine sx_skip 9 (by rfl) (by rfl) (by rfl) ?_
    refine sx_skip 10 (by rfl) (by rfl) (by rfl) ?_
    refine sx_skip 11 (by rfl) (by rfl) (by rfl) ?_
    refine sx_rd 12 (.bool true) (by rfl) (by kernel_rfl) ?_
    refine sx_rd 13 (.bool true) (by rfl) (by kernel_rfl) ?_
    refine sx_skip 14 (by rfl) (by rfl) (by rfl) ?_
    refine sx_skip 15 (by rfl) (by rfl) (by rfl) ?_
    refine sx_skip 16 (by rfl) (by rfl) (by rfl) ?_
    refine sx_rd 17 (.bool true) (by rfl) (by kernel_rfl) ?_
    refine sx_rd 2 (.bool true) (by rfl) (by kernel_rfl) ?_
    refine sx_nil ?_
    refine ex_then_n ?_
    refine wp_ret ?_
    refine sx_end (.bool true) (res1 2 (by rfl)) ?_
    obtain rfl := Option.some.inj h
    exact ⟨rfl, hc2 _ (hp.tail)⟩
  ·
    rw [if_neg hc_3] at h
    by_cases hc_4 : (l0_1.length : Int) = 0
    ·
      rw [if_pos hc_4] at h
      refine sx_region ?_
      refine sx_rd 3 (.pointer (some ⟨g_1, 0, none⟩)) (by rfl) (by kernel_rfl) ?_
      refine sx_rd 4 (.slice A0_0 l0_0.length c0_0) (by rfl) (ld1 (t := 27) (p := (.tmp 3)) (by rfl) (by rfl) (by kernel_rfl) (hp.cell 0 (by rfl) 0 _ (by rfl))) ?_
      refine sx_rd 5 (.int .i64 (l0_0.length : Int)) (by rfl) (by kernel_rfl) ?_
      refine sx_rd 6 (.bool false) (by rfl) (bv (beq_eq_false_iff_ne.mpr hc_3) (by kernel_rfl)) ?_
      refine sx_rd 7 (.bool false) (by rfl) (by kernel_rfl) ?_
      refine sx_want (by rfl) ?_
      refine sx_rd 8 (.pointer (some ⟨g_1, 1, none⟩)) (by rfl) (by kernel_rfl) ?_
      refine sx_want (by rfl) ?_
      refine sx_rd 9 (.slice A0_1 l0_1.length c0_1) (by rfl) (ld1 (t := 27) (p := (.tmp 8)) (by rfl) (by rfl) (by kernel_rfl) (hp.cell 0 (by rfl) 1 _ (by rfl))) ?_
      refine sx_want (by rfl) ?_
      refine sx_rd 10 (.int .i64 (l0_1.length : Int)) (by rfl) (by kernel_rfl) ?_
      refine sx_want (by rfl) ?_
      refine sx_rd 11 (.bool true) (by rfl) (bv (beq_iff_eq.mpr hc_4) (by kernel_rfl)) ?_
      refine sx_rd 12 (.bool true) (by rfl) (by kernel_rfl) ?_
      refine sx_rd 13 (.bool true) (by rfl) (by kernel_rfl) ?_
      refine sx_skip 14 (by rfl) (by rfl) (by rfl) ?_
      refine sx_skip 15 (by rfl) (by rfl) (by rfl) ?_
      refine sx_skip 16 (by rfl) (by rfl) (by rfl) ?_
      refine sx_rd 17 (.bool true) (by rfl) (by kernel_rfl) ?_
      refine sx_rd 2 (.bool true) (by rfl) (by kernel_rfl) ?_
      refine sx_nil ?_
      refine ex_then_n ?_
      refine wp_ret ?_
      refine sx_end (.bool true) (res1 2 (by rfl)) ?_
      obtain rfl := Option.some.inj h
      exact ⟨rfl, hc2 _ (hp.tail)⟩
    ·
      rw [if_neg hc_4] at h
      refine sx_region ?_
      refine sx_rd 3 (.pointer (some ⟨g_1, 0, none⟩)) (by rfl) (by kernel_rfl) ?_
      refine sx_rd 4 (.slice A0_0 l0_0.length c0_0) (by rfl) (ld1 (t := 27) (p := (.tmp 3)) (by rfl) (by rfl) (by kernel_rfl) (hp.cell 0 (by rfl) 0 _ (by rfl))) ?_
      refine sx_rd 5 (.int .i64 (l0_0.length : Int)) (by rfl) (by kernel_rfl) ?_
      refine sx_rd 6 (.bool false) (by rfl) (bv (beq_eq_false_iff_ne.mpr hc_3) (by kernel_rfl)) ?_
      refine sx_rd 7 (.bool false) (by rfl) (by kernel_rfl) ?_
      refine sx_want (by rfl) ?_
      refine sx_rd 8 (.pointer (some ⟨g_1, 1, none⟩)) (by rfl) (by kernel_rfl) ?_
      refine sx_want (by rfl) ?_
      refine sx_rd 9 (.slice A0_1 l0_1.length c0_1) (by rfl) (ld1 (t := 27) (p := (.tmp 8)) (by rfl) (by rfl) (by kernel_rfl) (hp.cell 0 (by rfl) 1 _ (by rfl))) ?_
      refine sx_want (by rfl) ?_
      refine sx_rd 10 (.int .i64 (l0_1.length : Int)) (by rfl) (by kernel_rfl) ?_
      refine sx_want (by rfl) ?_
      refine sx_rd 11 (.bool false) (by rfl) (bv (beq_eq_false_iff_ne.mpr hc_4) (by kernel_rfl)) ?_
      refine sx_rd 12 (.bool false) (by rfl) (by kernel_rfl) ?_
      refine sx_rd 13 (.bool false) (by rfl) (by kernel_rfl) ?_
      refine sx_want (by rfl) ?_
      refine sx_rd 14 (.pointer (some ⟨g_1, 4, none⟩)) (by rfl) (by kernel_rfl) ?_
      refine sx_want (by rfl) ?_
      refine sx_rd 15 (.int .i64 a0_4) (by rfl) (ld1 (t := 3) (p := (.tmp 14)) (by rfl) (by rfl) (by kernel_rfl) (hp.cell 0 (by rfl) 4 _ (by rfl))) ?_
      refine sx_want (by rfl) ?_
      refine sx_rd 16 (.bool (a0_4 == 2)) (by rfl) (by kernel_rfl) ?_
      refine sx_rd 17 (.bool (a0_4 == 2)) (by rfl) (by kernel_rfl) ?_
      refine sx_rd 2 (.bool (a0_4 == 2)) (by rfl) (by kernel_rfl) ?_
      refine sx_nil ?_
      refine ex_then_n ?_
      refine wp_ret ?_
      refine sx_end (.bool (a0_4 == 2)) (res1 2 (by rfl)) ?_
      obtain rfl := Option.some.inj h
      exact ⟨rfl, hc2 _ (hp.tail)⟩
end
section
open Go.RowKit Go.Proofs.YtkjaahmlnbgnjaaGreatW.PrintWords Go.Proofs.YtkjaahmlnbgnjaaGreatW.PrintLast Go.Proofs.YtkjaahmlnbgnjaaGreatW.PrintMore
attribute [local go_sem] max2_int min2_int max_two min_two max_three min_three max_four min_four   -- for this text's walks alone
set_option linter.unusedVariables false
set_option linter.unusedSimpArgs false

def spec_l1Own.f (l0 : List Int) : Option (List Int) := (some (([] : List Int) : List Int)).bind fun y187 => (if y187.length + l0.length < 17592186044416 then (some (y187 ++ l0)) else (none))
set_option maxRecDepth 100000 in
set_option maxHeartbeats 40000000 in
theorem spec_l1Own.calls (A0 : Option Addr) (c0 : Nat) (l0 : List Int) (r : List Int) (w : World) (hr0 : Kd.C (Kd.int .i64) w A0 l0.length l0) (hc0 : l0.length ≤ c0) (h : spec_l1Own.f l0 = some r) :
    Calls Tryz.prog 74 #[.slice A0 l0.length c0] w fun e w' => ∃ v0_ : Value, e = .returned (v0_) ∧ Kd.R (Kd.int .i64) 3 w' w.heap.size (fun _ => True) v0_ r ∧ Below w.heap.size w w' := by
  obtain ⟨cs, hcs⟩ : ∃ cs, cs = [old w w.heap.size] := ⟨_, rfl⟩
  have hp : Hp w cs w := by rw [hcs]; exact Hp.old_start w
  have hc2 : ∀ W, Hp w cs W → Below w.heap.size w W := fun W h => by rw [hcs] at h; exact h.since 0 _ rfl
  have hC0 : ∀ W, Hp w cs W → Kd.C (Kd.int .i64) W A0 l0.length l0 := fun W h => Kd.C_below hr0 (hc2 W h)
  clear hcs
  unfold spec_l1Own.f at h
  try simp only [Option.bind_some] at h
  by_cases hc_1 : (([] : List Int) : List Int).length + l0.length < 17592186044416
  case neg => rw [if_neg hc_1] at h; cases h
  rw [if_pos hc_1] at h
  refine sx_enter (N := 6) (l := [.slice A0 l0.length c0]) Tryz.func74 rfl rfl rfl ?_
  refine wp_seq ?_
  refine sx_region ?_
  refine sx_rd 2 (.slice none 0 0) (by rfl) (by kernel_rfl) ?_
  refine sx_nil ?_
  refine ex_then_n ?_
  refine wp_seq ?_
  refine sx_region ?_
  refine sx_lit 3 (by rfl) (Kd.int .i64) w.heap.size 3 ([] : List Int) [] (fun W => by kernel_rfl) (Reps.none _ _) (by simp) hp.size hp ?_
  intro g_2 F_3 W_4 hp hz; clear hz
  refine sx_rd 4 (.slice A0 l0.length c0) (by rfl) (by kernel_rfl) ?_
  refine sx_append 5 (by rfl) (Kd.int .i64) 0 (by rfl) (.int .i64 0) 8 (by rfl) Tryz.underlying23 (by kernel_rfl) rfl (by decide) (by decide) l0 (by rfl) (by rfl) (hC0 _ hp.tail) (fun x cs h => h) hp.size (by first | omega | (simp; omega)) hp ?_
  intro A_5 c_6 F_7 W_8 hp hz; clear hz; simp only [List.set_cons_succ, List.set_cons_zero] at hp
  refine sx_rd 2 (.slice A_5 l0.length c_6) (by rfl) (by kernel_rfl) ?_
  refine sx_nil ?_
  refine ex_then_n ?_
  refine wp_ret ?_
  refine sx_end (.slice A_5 l0.length c_6) (res1 2 (by rfl)) ?_
  obtain rfl := Option.some.inj h
  exact ⟨_, rfl, Kd.R_mono (row_R (hp.at_ 0 _ (by rfl))) (fun _ _ => trivial), hc2 _ (hp.tail)⟩
end
section
open Go.RowKit Go.Proofs.YtkjaahmlnbgnjaaGreatW.PrintWords Go.Proofs.YtkjaahmlnbgnjaaGreatW.PrintLast Go.Proofs.YtkjaahmlnbgnjaaGreatW.PrintMore
attribute [local go_sem] max2_int min2_int max_two min_two max_three min_three max_four min_four   -- for this text's walks alone
set_option linter.unusedVariables false
set_option linter.unusedSimpArgs false

def spec_plOwn.f (l0_0 : List (S_Tile)) (l0_1 : List (S_Tile)) (l0_2 : List Int) (a0_3 : Int) (a0_4 : Int) : Option ((List (S_Tile)) × (List (S_Tile)) × List Int × Int × Int) := (some (([] : List (S_Tile)) : List (S_Tile))).bind fun y195 => (if y195.length + l0_0.length < 8796093022208 then ((some (([] : List (S_Tile)) : List (S_Tile))).bind fun y201 => (if y201.length + l0_1.length < 8796093022208 then ((spec_l1Own.f l0_2).bind fun t207 => (some ((y195 ++ l0_0), (y201 ++ l0_1), t207, a0_3, a0_4))) else (none))) else (none))
set_option maxRecDepth 100000 in
set_option maxHeartbeats 40000000 in
theorem spec_plOwn.calls (A0_0 : Option Addr) (c0_0 : Nat) (l0_0 : List (S_Tile)) (A0_1 : Option Addr) (c0_1 : Nat) (l0_1 : List (S_Tile)) (A0_2 : Option Addr) (c0_2 : Nat) (l0_2 : List Int) (a0_3 : Int) (a0_4 : Int) (r1 : List (S_Tile)) (r2 : List (S_Tile)) (r3 : List Int) (r4 : Int) (r5 : Int) (w : World) (hr0_0 : Kd.C k59 w A0_0 l0_0.length l0_0) (hc0_0 : l0_0.length ≤ c0_0) (hr0_1 : Kd.C k59 w A0_1 l0_1.length l0_1) (hc0_1 : l0_1.length ≤ c0_1) (hr0_2 : Kd.C (Kd.int .i64) w A0_2 l0_2.length l0_2) (hc0_2 : l0_2.length ≤ c0_2) (h : spec_plOwn.f l0_0 l0_1 l0_2 a0_3 a0_4 = some (r1, r2, r3, r4, r5)) :
    Calls Tryz.prog 48 #[.agg #[.slice A0_0 l0_0.length c0_0, .slice A0_1 l0_1.length c0_1, .slice A0_2 l0_2.length c0_2, .int .i64 a0_3, .int .i64 a0_4]] w fun e w' => ∃ v0_ v1_ v2_ : Value, e = .returned (.agg #[v0_, v1_, v2_, .int .i64 r4, .int .i64 r5]) ∧ Kd.R k59 59 w' w.heap.size (fun k_ => some k_ ≠ (v1_ : Value).ownBlock) v0_ r1 ∧ Kd.R k59 59 w' w.heap.size (fun k_ => some k_ ≠ (v0_ : Value).ownBlock) v1_ r2 ∧ Kd.R (Kd.int .i64) 3 w' w.heap.size (fun _ => True) v2_ r3 ∧ Below w.heap.size w w' := by
  obtain ⟨cs, hcs⟩ : ∃ cs, cs = [old w w.heap.size] := ⟨_, rfl⟩
  have hp : Hp w cs w := by rw [hcs]; exact Hp.old_start w
  have hc2 : ∀ W, Hp w cs W → Below w.heap.size w W := fun W h => by rw [hcs] at h; exact h.since 0 _ rfl
  have hC0_0 : ∀ W, Hp w cs W → Kd.C k59 W A0_0 l0_0.length l0_0 := fun W h => Kd.C_below hr0_0 (hc2 W h)
  have hC0_1 : ∀ W, Hp w cs W → Kd.C k59 W A0_1 l0_1.length l0_1 := fun W h => Kd.C_below hr0_1 (hc2 W h)
  have hC0_2 : ∀ W, Hp w cs W → Kd.C (Kd.int .i64) W A0_2 l0_2.length l0_2 := fun W h => Kd.C_below hr0_2 (hc2 W h)
  clear hcs
  unfold spec_plOwn.f at h
  try simp only [Option.bind_some] at h
  by_cases hc_1 : (([] : List (S_Tile)) : List (S_Tile)).length + l0_0.length < 8796093022208
  case neg => rw [if_neg hc_1] at h; cases h
  rw [if_pos hc_1] at h
  try simp only [Option.bind_some] at h
  by_cases hc_2 : (([] : List (S_Tile)) : List (S_Tile)).length + l0_1.length < 8796093022208
  case neg => rw [if_neg hc_2] at h; cases h
  rw [if_pos hc_2] at h
  obtain ⟨t_4, hv_3, h⟩ := Option.bind_eq_some_iff.mp h
  try dsimp only at h
  refine sx_enter (N := 18) (l := [.agg #[.slice A0_0 l0_0.length c0_0, .slice A0_1 l0_1.length c0_1, .slice A0_2 l0_2.length c0_2, .int .i64 a0_3, .int .i64 a0_4]]) Tryz.func48 rfl rfl rfl ?_
  refine wp_seq ?_
  refine sx_region ?_
  refine sx_box 1 hp #[.slice A0_0 l0_0.length c0_0, .slice A0_1 l0_1.length c0_1, .slice A0_2 l0_2.length c0_2, .int .i64 a0_3, .int .i64 a0_4] 29 (by rfl) (fun W => by kernel_rfl) ?_
  intro g_5 W_6 hp
  refine sx_box 2 hp #[.slice none 0 0, .slice none 0 0, .slice none 0 0, .int .i64 0, .int .i64 0] 29 (by rfl) (fun W => by kernel_rfl) ?_
  intro g_7 W_8 hp
  refine sx_nil ?_
  refine ex_then_n ?_
  refine wp_seq ?_
  refine sx_region ?_
  refine sx_lit 3 (by rfl) k59 w.heap.size 59 ([] : List S_Tile) [] (fun W => by kernel_rfl) (Reps.none _ _) (by simp) hp.size hp ?_
  intro g_9 F_10 W_11 hp hz; clear hz
  refine sx_rd 4 (.pointer (some ⟨g_5, 0, none⟩)) (by rfl) (by kernel_rfl) ?_
  refine sx_rd 5 (.slice A0_0 l0_0.length c0_0) (by rfl) (ld1 (t := 27) (p := (.tmp 4)) (by rfl) (by rfl) (by kernel_rfl) (hp.cell 2 (by rfl) 0 _ (by rfl))) ?_
  refine sx_append 6 (by rfl) k59 0 (by rfl) (.agg #[.int .i64 0, .int .i64 0]) 16 (by rfl) Tryz.underlying27 (by kernel_rfl) rfl (by decide) (by decide) l0_0 (by rfl) (by rfl) (hC0_0 _ hp.tail.tail.tail) tile_kp hp.size (by first | omega | (simp; omega)) hp ?_
  intro A_12 c_13 F_14 W_15 hp hz; clear hz; simp only [List.set_cons_succ, List.set_cons_zero] at hp
  refine sx_rd 7 (.pointer (some ⟨g_5, 0, none⟩)) (by rfl) (by kernel_rfl) ?_
  refine sx_store (t := 27) (p := (.tmp 7)) (x := (.tmp 6)) (by rfl) (by rfl) 2 (by rfl) 0 [.slice A_12 l0_0.length c_13] (by rfl) (by rfl) (by kernel_rfl) (by simp [Value.oneCell']) (by show 1 ≤ 5; omega) #[.slice A_12 l0_0.length c_13, .slice A0_1 l0_1.length c0_1, .slice A0_2 l0_2.length c0_2, .int .i64 a0_3, .int .i64 a0_4] (by rfl) hp ?_
  intro W_16 hp; simp only [List.set_cons_succ, List.set_cons_zero] at hp
  refine sx_nil ?_
  refine ex_then_n ?_
  refine wp_seq ?_
  refine sx_region ?_
  refine sx_lit 8 (by rfl) k59 w.heap.size 59 ([] : List S_Tile) [] (fun W => by kernel_rfl) (Reps.none _ _) (by simp) hp.size hp ?_
  intro g_17 F_18 W_19 hp hz; clear hz
  refine sx_rd 9 (.pointer (some ⟨g_5, 1, none⟩)) (by rfl) (by kernel_rfl) ?_
  refine sx_rd 10 (.slice A0_1 l0_1.length c0_1) (by rfl) (ld1 (t := 27) (p := (.tmp 9)) (by rfl) (by rfl) (by kernel_rfl) (hp.cell 3 (by rfl) 1 _ (by rfl))) ?_
  refine sx_append 11 (by rfl) k59 0 (by rfl) (.agg #[.int .i64 0, .int .i64 0]) 16 (by rfl) Tryz.underlying27 (by kernel_rfl) rfl (by decide) (by decide) l0_1 (by rfl) (by rfl) (hC0_1 _ hp.tail.tail.tail.tail) tile_kp hp.size (by first | omega | (simp; omega)) hp ?_
  intro A_20 c_21 F_22 W_23 hp hz; clear hz; simp only [List.set_cons_succ, List.set_cons_zero] at hp
  refine sx_rd 12 (.pointer (some ⟨g_5, 1, none⟩)) (by rfl) (by kernel_rfl) ?_
  refine sx_store (t := 27) (p := (.tmp 12)) (x := (.tmp 11)) (by rfl) (by rfl) 3 (by rfl) 1 [.slice A_20 l0_1.length c_21] (by rfl) (by rfl) (by kernel_rfl) (by simp [Value.oneCell']) (by show 2 ≤ 5; omega) #[.slice A_12 l0_0.length c_13, .slice A_20 l0_1.length c_21, .slice A0_2 l0_2.length c0_2, .int .i64 a0_3, .int .i64 a0_4] (by rfl) hp ?_
  intro W_24 hp; simp only [List.set_cons_succ, List.set_cons_zero] at hp
  refine sx_nil ?_
  refine ex_then_n ?_
  refine wp_seq ?_
  refine sx_region ?_
  refine sx_rd 13 (.pointer (some ⟨g_5, 2, none⟩)) (by rfl) (by kernel_rfl) ?_
  refine sx_rd 14 (.slice A0_2 l0_2.length c0_2) (by rfl) (ld1 (t := 23) (p := (.tmp 13)) (by rfl) (by rfl) (by kernel_rfl) (hp.cell 3 (by rfl) 2 _ (by rfl))) ?_
  refine sx_call 15 (by rfl) (by kernel_rfl) ((spec_l1Own.calls A0_2 c0_2 l0_2 _ _ (hC0_2 _ hp.tail.tail.tail.tail) hc0_2 hv_3).mono ?_)
  rintro _ W_30 ⟨v_26, rfl, hR_25, hb⟩
  refine ⟨_, rfl, ?_⟩
  obtain ⟨A_27, c_28, rfl, hcc_c_28, _⟩ := Kd.R_reads hR_25
  obtain ⟨F_29, hp⟩ : ∃ F, Hp w (row (Kd.int .i64) 3 w.heap.size (.slice A_27 t_4.length c_28) t_4 F :: row k59 59 w.heap.size (.slice A_20 l0_1.length c_21) l0_1 F_22 :: row k59 59 w.heap.size (.slice A_12 l0_0.length c_13) l0_0 F_14 :: blk g_7 #[.slice none 0 0, .slice none 0 0, .slice none 0 0, .int .i64 0, .int .i64 0] 29 :: blk g_5 #[.slice A_12 l0_0.length c_13, .slice A_20 l0_1.length c_21, .slice A0_2 l0_2.length c0_2, .int .i64 a0_3, .int .i64 a0_4] 29 :: cs) _ := ⟨_, Hp.made hp hb hR_25⟩
  refine sx_rd 16 (.pointer (some ⟨g_5, 2, none⟩)) (by rfl) (by kernel_rfl) ?_
  refine sx_store (t := 23) (p := (.tmp 16)) (x := (.tmp 15)) (by rfl) (by rfl) 4 (by rfl) 2 [.slice A_27 t_4.length c_28] (by rfl) (by rfl) (by kernel_rfl) (by simp [Value.oneCell']) (by show 3 ≤ 5; omega) #[.slice A_12 l0_0.length c_13, .slice A_20 l0_1.length c_21, .slice A_27 t_4.length c_28, .int .i64 a0_3, .int .i64 a0_4] (by rfl) hp ?_
  intro W_31 hp; simp only [List.set_cons_succ, List.set_cons_zero] at hp
  refine sx_nil ?_
  refine ex_then_n ?_
  refine wp_seq ?_
  refine sx_region ?_
  refine sx_rd 17 (.agg #[.slice A_12 l0_0.length c_13, .slice A_20 l0_1.length c_21, .slice A_27 t_4.length c_28, .int .i64 a0_3, .int .i64 a0_4]) (by rfl) (ldn (t := 29) (p := (.tmp 1)) (by rfl) (by rfl) (by kernel_rfl) (by kernel_rfl) (by kernel_rfl) (hp.at_ 4 _ (by rfl))) ?_
  refine sx_store (t := 29) (p := (.tmp 2)) (x := (.tmp 17)) (by rfl) (by rfl) 3 (by rfl) 0 [.slice A_12 l0_0.length c_13, .slice A_20 l0_1.length c_21, .slice A_27 t_4.length c_28, .int .i64 a0_3, .int .i64 a0_4] (by rfl) (by rfl) (by kernel_rfl) (by simp [Value.oneCell']) (by show 5 ≤ 5; omega) #[.slice A_12 l0_0.length c_13, .slice A_20 l0_1.length c_21, .slice A_27 t_4.length c_28, .int .i64 a0_3, .int .i64 a0_4] (by rfl) hp ?_
  intro W_32 hp; simp only [List.set_cons_succ, List.set_cons_zero] at hp
  refine sx_nil ?_
  refine ex_then_n ?_
  refine wp_ret ?_
  refine sx_end (.agg #[.slice A_12 l0_0.length c_13, .slice A_20 l0_1.length c_21, .slice A_27 t_4.length c_28, .int .i64 a0_3, .int .i64 a0_4]) (resc (by rfl) (by rfl) (by kernel_rfl) (by kernel_rfl) (hp.at_ 3 _ (by rfl))) ?_
  simp only [Option.some.injEq, Prod.mk.injEq] at h; obtain ⟨rfl, rfl, rfl, rfl, rfl⟩ := h
  exact ⟨_, _, _, rfl, Kd.R_mono (row_R (hp.at_ 2 _ (by rfl))) (fun k_ hk_ => Hp.apart_rows hp 2 1 (by decide) (by rfl) (by rfl) k_ hk_), Kd.R_mono (row_R (hp.at_ 1 _ (by rfl))) (fun k_ hk_ => Hp.apart_rows hp 1 2 (by decide) (by rfl) (by rfl) k_ hk_), Kd.R_mono (row_R (hp.at_ 0 _ (by rfl))) (fun _ _ => trivial), hc2 _ (hp.tail.tail.tail.tail.tail)⟩
end
section
open Go.RowKit Go.Proofs.YtkjaahmlnbgnjaaGreatW.PrintWords Go.Proofs.YtkjaahmlnbgnjaaGreatW.PrintLast Go.Proofs.YtkjaahmlnbgnjaaGreatW.PrintMore
attribute [local go_sem] max2_int min2_int max_two min_two max_three min_three max_four min_four   -- for this text's walks alone
set_option linter.unusedVariables false
set_option linter.unusedSimpArgs false

def laws_toTile.f (a0_0 : Int) (a0_1 : Int) : Option (Int × Int) := some (a0_0, a0_1)
set_option maxRecDepth 100000 in
set_option maxHeartbeats 40000000 in
theorem laws_toTile.calls (a0_0 : Int) (a0_1 : Int) (r1 : Int) (r2 : Int) (w : World) (h : laws_toTile.f a0_0 a0_1 = some (r1, r2)) :
    Calls Tryz.prog 55 #[.agg #[.int .i64 a0_0, .int .i64 a0_1]] w fun e w' => e = .returned (.agg #[.int .i64 r1, .int .i64 r2]) ∧ Below w.heap.size w w' := by
  obtain ⟨cs, hcs⟩ : ∃ cs, cs = [old w w.heap.size] := ⟨_, rfl⟩
  have hp : Hp w cs w := by rw [hcs]; exact Hp.old_start w
  have hc2 : ∀ W, Hp w cs W → Below w.heap.size w W := fun W h => by rw [hcs] at h; exact h.since 0 _ rfl
  clear hcs
  unfold laws_toTile.f at h
  refine sx_enter (N := 11) (l := [.agg #[.int .i64 a0_0, .int .i64 a0_1]]) Tryz.func55 rfl rfl rfl ?_
  refine wp_seq ?_
  refine sx_region ?_
  refine sx_box 1 hp #[.int .i64 a0_0, .int .i64 a0_1] 78 (by rfl) (fun W => by kernel_rfl) ?_
  intro g_1 W_2 hp
  refine sx_box 2 hp #[.int .i64 0, .int .i64 0] 59 (by rfl) (fun W => by kernel_rfl) ?_
  intro g_3 W_4 hp
  refine sx_nil ?_
  refine ex_then_n ?_
  refine wp_seq ?_
  refine sx_region ?_
  refine sx_box 3 hp #[.int .i64 0, .int .i64 0] 59 (by rfl) (fun W => by kernel_rfl) ?_
  intro g_5 W_6 hp
  refine sx_nil ?_
  refine ex_then_n ?_
  refine wp_seq ?_
  refine sx_region ?_
  refine sx_rd 4 (.pointer (some ⟨g_1, 0, none⟩)) (by rfl) (by kernel_rfl) ?_
  refine sx_rd 5 (.int .i64 a0_0) (by rfl) (ld1 (t := 3) (p := (.tmp 4)) (by rfl) (by rfl) (by kernel_rfl) (hp.cell 2 (by rfl) 0 _ (by rfl))) ?_
  refine sx_rd 6 (.pointer (some ⟨g_5, 0, none⟩)) (by rfl) (by kernel_rfl) ?_
  refine sx_store (t := 3) (p := (.tmp 6)) (x := (.tmp 5)) (by rfl) (by rfl) 0 (by rfl) 0 [.int .i64 a0_0] (by rfl) (by rfl) (by kernel_rfl) (by simp [Value.oneCell']) (by show 1 ≤ 2; omega) #[.int .i64 a0_0, .int .i64 0] (by rfl) hp ?_
  intro W_7 hp; simp only [List.set_cons_succ, List.set_cons_zero] at hp
  refine sx_nil ?_
  refine ex_then_n ?_
  refine wp_seq ?_
  refine sx_region ?_
  refine sx_rd 7 (.pointer (some ⟨g_1, 1, none⟩)) (by rfl) (by kernel_rfl) ?_
  refine sx_rd 8 (.int .i64 a0_1) (by rfl) (ld1 (t := 3) (p := (.tmp 7)) (by rfl) (by rfl) (by kernel_rfl) (hp.cell 2 (by rfl) 1 _ (by rfl))) ?_
  refine sx_rd 9 (.pointer (some ⟨g_5, 1, none⟩)) (by rfl) (by kernel_rfl) ?_
  refine sx_store (t := 3) (p := (.tmp 9)) (x := (.tmp 8)) (by rfl) (by rfl) 0 (by rfl) 1 [.int .i64 a0_1] (by rfl) (by rfl) (by kernel_rfl) (by simp [Value.oneCell']) (by show 2 ≤ 2; omega) #[.int .i64 a0_0, .int .i64 a0_1] (by rfl) hp ?_
  intro W_8 hp; simp only [List.set_cons_succ, List.set_cons_zero] at hp
  refine sx_nil ?_
  refine ex_then_n ?_
  refine wp_seq ?_
  refine sx_region ?_
  refine sx_rd 10 (.agg #[.int .i64 a0_0, .int .i64 a0_1]) (by rfl) (ldn (t := 59) (p := (.tmp 3)) (by rfl) (by rfl) (by kernel_rfl) (by kernel_rfl) (by kernel_rfl) (hp.at_ 0 _ (by rfl))) ?_
  refine sx_store (t := 59) (p := (.tmp 2)) (x := (.tmp 10)) (by rfl) (by rfl) 1 (by rfl) 0 [.int .i64 a0_0, .int .i64 a0_1] (by rfl) (by rfl) (by kernel_rfl) (by simp [Value.oneCell']) (by show 2 ≤ 2; omega) #[.int .i64 a0_0, .int .i64 a0_1] (by rfl) hp ?_
  intro W_9 hp; simp only [List.set_cons_succ, List.set_cons_zero] at hp
  refine sx_nil ?_
  refine ex_then_n ?_
  refine wp_ret ?_
  refine sx_end (.agg #[.int .i64 a0_0, .int .i64 a0_1]) (resc (by rfl) (by rfl) (by kernel_rfl) (by kernel_rfl) (hp.at_ 1 _ (by rfl))) ?_
  simp only [Option.some.injEq, Prod.mk.injEq] at h; obtain ⟨rfl, rfl⟩ := h
  exact ⟨rfl, hc2 _ (hp.tail.tail.tail)⟩
end
section
open Go.RowKit Go.Proofs.YtkjaahmlnbgnjaaGreatW.PrintWords Go.Proofs.YtkjaahmlnbgnjaaGreatW.PrintLast Go.Proofs.YtkjaahmlnbgnjaaGreatW.PrintMore
attribute [local go_sem] max2_int min2_int max_two min_two max_three min_three max_four min_four   -- for this text's walks alone
set_option linter.unusedVariables false
set_option linter.unusedSimpArgs false

def laws_toTileS.l0 : Nat → List (S_LTile) → List (S_Tile) → Int → Option ((List (S_Tile)))
  | 0, _, _, _ => none
  | k + 1, x0, x3, x4 => if x4 < (x0.length : Int) then (if 0 ≤ x4 then ((laws_toTile.f ((rd_LTile x0 x4).f0) ((rd_LTile x0 x4).f1)).bind fun bt257 => (if x4 < (x3.length : Int) then (laws_toTileS.l0 k x0 (x3.set (x4 : Int).toNat (⟨bt257.1, bt257.2⟩ : S_Tile)) (wrap64 (x4 + 1))) else (none))) else (none)) else (some x3)
def laws_toTileS.f (k : Nat) (l0 : List (S_LTile)) : Option ((List (S_Tile))) := if 0 ≤ (l0.length : Int) then (if ((l0.length : Int) : Int).toNat ≤ 17592186044416 then (laws_toTileS.l0 k l0 (List.replicate ((l0.length : Int) : Int).toNat z59) 0) else (none)) else (none)
set_option maxHeartbeats 8000000 in
set_option maxRecDepth 100000 in
theorem laws_toTileS.calls (k : Nat) (A0 : Option Addr) (c0 : Nat) (l0 : List (S_LTile)) (r : List (S_Tile)) (w : World) (hr0 : Kd.C k78 w A0 l0.length l0) (hc0 : l0.length ≤ c0) (h : laws_toTileS.f k l0 = some r) :
    Calls Tryz.prog 26 #[.slice A0 l0.length c0] w fun e w' => ∃ v0_ : Value, e = .returned (v0_) ∧ Kd.R k59 59 w' w.heap.size (fun _ => True) v0_ r ∧ Below w.heap.size w w' := by
  have hu78 := Tryz.underlying78
  have hu59 := Tryz.underlying59
  have HR0 := Aside0.mk hr0
  have HC0 := Aside0.mk hc0
  clear hr0 hc0
  have HB := Aside0.mk (Below.refl w.heap.size w)
  have H : (if 0 ≤ (l0.length : Int) then (if ((l0.length : Int) : Int).toNat ≤ 17592186044416 then (laws_toTileS.l0 k l0 (List.replicate ((l0.length : Int) : Int).toNat z59) 0) else (none)) else (none)) = some r := h
  clear h
  by_cases c2 : 0 ≤ (l0.length : Int)
  · rw [if_pos c2] at H
    have c2b0 := eq_true c2
    have c2b1 : decide (0 ≤ (l0.length : Int)) = true := decide_eq_true c2
    clear c2
    by_cases c3 : ((l0.length : Int) : Int).toNat ≤ 17592186044416
    · rw [if_pos c3] at H
      have c3b0 := eq_true c3
      have c3b1 : decide (((l0.length : Int) : Int).toNat ≤ 17592186044416) = true := decide_eq_true c3
      clear c3
      obtain ⟨y253, hy253⟩ : ∃ y_ : List (S_Tile), y_ = (List.replicate ((l0.length : Int) : Int).toNat z59) := ⟨_, rfl⟩
      replace H : (laws_toTileS.l0 k l0 y253 0) = some r := by first | (rw [hy253]; with_reducible exact H) | (have H2_ := (Option.bind_some _ _).symm.trans H; rw [hy253]; with_reducible exact H2_) | (have H2_ := (Option.bind_some _ _).symm.trans H; with_reducible exact H2_) | with_reducible exact H | (rw [hy253]; exact H) | exact H
      have Ny253 := Aside0.mk hy253
      clear hy253
      have H' := Aside0.mk H
      clear H
      go_enter Tryz.func26, Tryz.ntmps26
      go_wp2_with (first | ((with_reducible refine gate_dst (N := 7) rfl ?_); refine Kd.R_make k59 _ 59 rfl (N := 7) rfl 27 _ _ rfl (l0.length : Int) rfl rfl Tryz.underlying27 (.agg #[(.int .i64 0), (.int .i64 0)]) 16 info59 rfl (by decide) (by omega) z59 (ok := fun _ => True) (okp := fun _ => True) (k59_mkM _ _ _ z59 ) (fun _ hk => hk) trivial (of_decide_eq_true (by first | (with_reducible assumption) | assumption)) (Nat.le_trans (Nat.mul_le_mul_right _ (of_decide_eq_true (by first | (with_reducible assumption) | assumption) : (l0.length : Int).toNat ≤ 17592186044416)) (by omega)) (Below.refl _ _) (Nat.le_refl _) ?_; intro v254 w4 ho5 hb hg_ hnew_; clear hg_ hnew_; (first | rw [← Ny253.out] at ho5 | (simp only [Int.reduceToNat] at ho5; rw [← Ny253.out] at ho5)); have n0_ := Aside0.mk (Kd.R_lower ho5 (below_size (by repeat (first | (with_reducible first | exact HB.out | apply below_alloc | apply pw_below_drewN | apply below_drew1) | exact HB.out)))); have n1_ := Aside0.mk (below_step (by repeat (first | (with_reducible first | exact HB.out | apply below_alloc | apply pw_below_drewN | apply below_drew1) | exact HB.out)) hb); clear HB; have HO255 := n0_; have HB := n1_; clear n0_ n1_; clear hb ho5))
      go_loopg [4] k (fun kq v4 w' => ∃ (x3_1 : List (S_Tile)) (x4_1 : Int), v4 = .int .i64 x4_1 ∧ Aside0 (laws_toTileS.l0 kq l0 x3_1 x4_1 = some r) ∧ Aside0 (kq ≤ k) ∧ Aside0 (Kd.R k59 59 w' w.heap.size (fun _ => True) v254 x3_1) ∧ Aside0 (Below w.heap.size w w'))
      case atStart => exact ⟨(y253), (0), (by first | rfl | (simp; done) | (simp [*]; done)), H', ⟨Nat.le_refl _⟩, ⟨by (with_reducible repeat (first | apply Kd.R_alloc | apply Kd.R_drewN | apply Kd.R_drew)); exact HO255.out⟩, ⟨by repeat (first | (with_reducible first | exact HB.out | apply below_alloc | apply pw_below_drewN | apply below_drew1) | exact HB.out)⟩⟩
      case round =>
        clear H'
        try clear c2
        try clear c2b0
        try clear c2b1
        try clear p2
        try clear c3
        try clear c3b0
        try clear c3b1
        obtain ⟨x3_1, x4_1, rfl, HA, HK1, HO_3, HB⟩ := hrel
        cases gk with
        | zero => exact absurd HA.out (by simp [laws_toTileS.l0])
        | succ k1 =>
          have H := HA.out
          clear HA
          simp only [laws_toTileS.l0] at H
          by_cases c6 : x4_1 < (l0.length : Int)
          · rw [if_pos c6] at H
            have c6b0 : decide (x4_1 < (l0.length : Int)) = true := decide_eq_true c6
            clear c6
            by_cases c7 : 0 ≤ x4_1
            · rw [if_pos c7] at H
              have c7b0 : decide (0 ≤ x4_1) = true := decide_eq_true c7
              clear c7
              replace H := Option.bind_eq_some_iff.mp H
              obtain ⟨⟨t257, t258⟩, A80, H⟩ := H
              replace H : (if x4_1 < (x3_1.length : Int) then (laws_toTileS.l0 k1 l0 (x3_1.set (x4_1 : Int).toNat (⟨t257, t258⟩ : S_Tile)) (wrap64 (x4_1 + 1))) else (none)) = some r := H
              have A8 := Aside0.mk A80
              clear A80
              by_cases c9 : x4_1 < (x3_1.length : Int)
              · rw [if_pos c9] at H
                have c9b0 : decide (x4_1 < (x3_1.length : Int)) = true := decide_eq_true c9
                clear c9
                obtain ⟨y259, hy259⟩ : ∃ y_ : List (S_Tile), y_ = (x3_1.set (x4_1 : Int).toNat (⟨t257, t258⟩ : S_Tile)) := ⟨_, rfl⟩
                replace H : (laws_toTileS.l0 k1 l0 y259 (wrap64 (x4_1 + 1))) = some r := by first | (rw [hy259]; with_reducible exact H) | (have H2_ := (Option.bind_some _ _).symm.trans H; rw [hy259]; with_reducible exact H2_) | (have H2_ := (Option.bind_some _ _).symm.trans H; with_reducible exact H2_) | with_reducible exact H | (rw [hy259]; exact H) | exact H
                have Ny259 := Aside0.mk hy259
                clear hy259
                have H' := Aside0.mk H
                clear H
                have p256 : 0 ≤ (x4_1 : Int) := of_decide_eq_true (by first | (with_reducible assumption) | assumption)
                have q256 : x4_1 < (l0.length : Int) := of_decide_eq_true (by first | (with_reducible assumption) | assumption)
                obtain ⟨ad256, e256, hx256_0, hx256_1⟩ := at_T78 HR0.out x4_1 p256 q256
                cases e256
                replace hx256_0 := (HB.out.cell (World.block_lt_of_cell? w _ hx256_0)).trans hx256_0
                replace hx256_1 := (HB.out.cell (World.block_lt_of_cell? w _ hx256_1)).trans hx256_1
                replace p256 := eq_true p256
                replace q256 := eq_true q256
                go_wp2_with (first | ((with_reducible refine gate_callee (f := 55) rfl ?_); refine goesL_ (some 20) rfl rfl Tryz.func55 (by kernel_rfl) rfl #[.agg #[.int .i64 ((rd_LTile l0 x4_1).f0), .int .i64 ((rd_LTile l0 x4_1).f1)]] rfl (by (try simp only [List.map_toArray, List.map_cons, List.map_nil]); first | done | rfl | (simp only [List.length_drop, List.length_take]; rfl)) ?_; (with_reducible refine (laws_toTile.calls ((rd_LTile l0 x4_1).f0) ((rd_LTile l0 x4_1).f1) t257 t258 _ A8.out).mono ?_); rintro e w11 ⟨rfl, hb⟩; refine ⟨_, rfl, ?_⟩; have n0_ := Aside0.mk (Kd.R_below (by (with_reducible repeat (first | apply Kd.R_alloc | apply Kd.R_drewN | apply Kd.R_drew)); exact HO_3.out) hb); have n1_ := Aside0.mk (below_step (by repeat (first | (with_reducible first | exact HB.out | apply below_alloc | apply pw_below_drewN | apply below_drew1) | exact HB.out)) hb); clear HO_3; clear HB; have HO_3 := n0_; have HB := n1_; clear n0_ n1_; (try clear hb); (try clear hb2); (try clear hk); (try clear hi); have p10 : 0 ≤ (x4_1 : Int) := of_decide_eq_true (by first | (with_reducible assumption) | assumption); have q10 : (x4_1 : Int) < ((x3_1.length : Int) : Int) := of_decide_eq_true (by first | (with_reducible assumption) | assumption); obtain ⟨go10, co10, eo10, gb10, gl10, cl10, HG10⟩ := Kd.R_form HO_3.out (by omega); (first | cases eo10 | (injection eo10 with ea_ en_ ec_; (first | subst ea_ | (injection ea_ with ea_; subst ea_)); subst ec_; clear en_)); have GB10 := Aside0.mk gb10; have GG10 := Aside0.mk HG10; clear gb10 gl10 HG10; obtain ⟨ce10, hcl10, hM10, hcc10, hfr10⟩ := Kd.R_elem HO_3.out z59 (x4_1 : Int) p10 q10; obtain rfl := k59_openM hM10; have hx10_0 : w11.cell? ⟨go10, (x4_1 : Int).toNat * 2, none⟩ = some (.int .i64 ((rd_Tile x3_1 x4_1).f0)) := hcc10 0 _ rfl; have hx10_1 : w11.cell? ⟨go10, (x4_1 : Int).toNat * 2 + 1, none⟩ = some (.int .i64 ((rd_Tile x3_1 x4_1).f1)) := hcc10 1 _ rfl; have hf10_0 : w11.frozen? ⟨go10, (x4_1 : Int).toNat * 2, none⟩ = false := hfr10 0; have hf10_1 : w11.frozen? ⟨go10, (x4_1 : Int).toNat * 2 + 1, none⟩ = false := hfr10 1; clear hcl10 hcc10 hfr10 hM10; replace p10 := eq_true p10; replace q10 := eq_true q10; have HX12 := Aside0.mk (show Kd.R k59 59 w11 w.heap.size (fun _ => True) (.slice (some ⟨go10, 0, none⟩) x3_1.length co10) x3_1 from (by (with_reducible repeat (first | apply Kd.R_alloc | apply Kd.R_drewN | apply Kd.R_drew)); exact HO_3.out)); obtain ⟨ce12, hcl12, hM12, hcc12, hfr12⟩ := Kd.R_elem HX12.out z59 (x4_1 : Int) (of_decide_eq_true (by first | (with_reducible assumption) | assumption)) (by have h_ : (x4_1 : Int) < ((x3_1.length : Int) : Int) := of_decide_eq_true (by first | (with_reducible assumption) | assumption); first | exact h_ | (have e_ := (Kd.R_reads' HO_3.out).1; omega) | simpa using h_); obtain rfl := k59_openM hM12; have HP12 := Kd.R_seg HX12.out (x4_1 : Int) (of_decide_eq_true (by first | (with_reducible assumption) | assumption)) (by have h_ : (x4_1 : Int) < ((x3_1.length : Int) : Int) := of_decide_eq_true (by first | (with_reducible assumption) | assumption); first | exact h_ | (have e_ := (Kd.R_reads' HO_3.out).1; omega) | simpa using h_) (seg := [.int .i64 t257, .int .i64 t258]) (j := 0) hcl12 hcc12 (show 2 ≤ 2 from by decide) (x' := (⟨t257, t258⟩ : S_Tile)) (k59_mkM _ _ _ (⟨t257, t258⟩ : S_Tile) ) (fun _ hk => hk); have hx12_0 := hcc12 0 _ rfl; (try simp only [show (k59).sz = 2 from rfl, Nat.mul_one, Nat.add_zero] at hx12_0); have hf12_0 := hfr12 0; (try simp only [show (k59).sz = 2 from rfl, Nat.mul_one, Nat.add_zero] at hf12_0); have hx12_1 := hcc12 1 _ rfl; (try simp only [show (k59).sz = 2 from rfl, Nat.mul_one, Nat.add_zero] at hx12_1); have hf12_1 := hfr12 1; (try simp only [show (k59).sz = 2 from rfl, Nat.mul_one, Nat.add_zero] at hf12_1); clear hcl12 hcc12 hfr12 hM12) | ((with_reducible refine gate_store (t := 59) (p := 21) rfl ?_); refine store_event (t := 59) (p := 21) (v := ?vo_w13) (w1 := ((w11.setCell ⟨go10, (x4_1 : Int).toNat * 2, none⟩ (.int .i64 t257)).setCell ⟨go10, (x4_1 : Int).toNat * 2 + 1, none⟩ (.int .i64 t258))) ?hg ?ho ?hn ?hr ?_; (case ho => rfl); (case hg => rfl); (case hn => rfl); (case hr => first | (go_simp; done) | (go_simp; rfl)); intro w13 hw; have hg : w11.grownBy w13 (some go10) := (by rw [hw]; exact HP12.2); have hp_ : Kd.R k59 59 w13 w.heap.size (fun _ => True) (.slice (some ⟨go10, 0, none⟩) x3_1.length co10) y259 := (by rw [hw, Ny259.out]; exact HP12.1); clear HP12; have n0_ := Aside0.mk (hp_); have n1_ := Aside0.mk ((by rw [hw]; exact below_set (below_set (HB.out) GB10.out) GB10.out : Below w.heap.size w w13)); clear HO_3; clear HB; have HO_3 := n0_; have HB := n1_; clear n0_ n1_; clear hg hw hp_))
                go_roundg k1
                case measure => have := HK1.out; omega
                case rel => exact ⟨(y259), (wrap64 (x4_1 + 1)), (by first | rfl | (simp; done) | (simp [*]; done)), H', ⟨by have := HK1.out; omega⟩, ⟨by (with_reducible repeat (first | apply Kd.R_alloc | apply Kd.R_drewN | apply Kd.R_drew)); exact HO_3.out⟩, ⟨by repeat (first | (with_reducible first | exact HB.out | apply below_alloc | apply pw_below_drewN | apply below_drew1) | exact HB.out)⟩⟩
              · rw [if_neg c9] at H
                exact absurd H (by simp)
            · rw [if_neg c7] at H
              exact absurd H (by simp)
          · rw [if_neg c6] at H
            have c6b0 : decide (x4_1 < (l0.length : Int)) = false := decide_eq_false c6
            clear c6
            obtain rfl := Option.some.inj H
            go_wp2
            go_ret
            exact ⟨_, by first | rfl | (simp [errW_none, errW_some] <;> rfl) | (simp [*, errW_none, errW_some] <;> rfl), by (with_reducible repeat (first | apply Kd.R_alloc | apply Kd.R_drewN | apply Kd.R_drew)); exact HO_3.out, by repeat (first | (with_reducible first | exact HB.out | apply below_alloc | apply pw_below_drewN | apply below_drew1) | exact HB.out)⟩
    · rw [if_neg c3] at H
      exact absurd H (by simp)
  · rw [if_neg c2] at H
    exact absurd H (by simp)

end
section
open Go.RowKit Go.Proofs.YtkjaahmlnbgnjaaGreatW.PrintWords Go.Proofs.YtkjaahmlnbgnjaaGreatW.PrintLast Go.Proofs.YtkjaahmlnbgnjaaGreatW.PrintMore
attribute [local go_sem] max2_int min2_int max_two min_two max_three min_three max_four min_four   -- for this text's walks alone
set_option linter.unusedVariables false
set_option linter.unusedSimpArgs false

def laws_toGame.f (k : Nat) (l0_0 : List (S_LTile)) (l0_1 : List (S_LTile)) (l0_2 : List Int) (a0_3 : Int) (a0_4 : Int) : Option ((List (S_Tile)) × (List (S_Tile)) × List Int × Int × Int) := (laws_toTileS.f k l0_0).bind fun t268 => ((laws_toTileS.f k l0_1).bind fun t271 => ((laws_toIntS.f k l0_2).bind fun t274 => (some (t268, t271, t274, a0_3, a0_4))))
set_option maxRecDepth 100000 in
set_option maxHeartbeats 40000000 in
theorem laws_toGame.calls (k : Nat) (A0_0 : Option Addr) (c0_0 : Nat) (l0_0 : List (S_LTile)) (A0_1 : Option Addr) (c0_1 : Nat) (l0_1 : List (S_LTile)) (A0_2 : Option Addr) (c0_2 : Nat) (l0_2 : List Int) (a0_3 : Int) (a0_4 : Int) (r1 : List (S_Tile)) (r2 : List (S_Tile)) (r3 : List Int) (r4 : Int) (r5 : Int) (w : World) (hr0_0 : Kd.C k78 w A0_0 l0_0.length l0_0) (hc0_0 : l0_0.length ≤ c0_0) (hr0_1 : Kd.C k78 w A0_1 l0_1.length l0_1) (hc0_1 : l0_1.length ≤ c0_1) (hr0_2 : Kd.C (Kd.int .i64) w A0_2 l0_2.length l0_2) (hc0_2 : l0_2.length ≤ c0_2) (h : laws_toGame.f k l0_0 l0_1 l0_2 a0_3 a0_4 = some (r1, r2, r3, r4, r5)) :
    Calls Tryz.prog 8 #[.agg #[.slice A0_0 l0_0.length c0_0, .slice A0_1 l0_1.length c0_1, .slice A0_2 l0_2.length c0_2, .int .i64 a0_3, .int .i64 a0_4]] w fun e w' => ∃ v0_ v1_ v2_ : Value, e = .returned (.agg #[v0_, v1_, v2_, .int .i64 r4, .int .i64 r5]) ∧ Kd.R k59 59 w' w.heap.size (fun k_ => some k_ ≠ (v1_ : Value).ownBlock) v0_ r1 ∧ Kd.R k59 59 w' w.heap.size (fun k_ => some k_ ≠ (v0_ : Value).ownBlock) v1_ r2 ∧ Kd.R (Kd.int .i64) 3 w' w.heap.size (fun _ => True) v2_ r3 ∧ Below w.heap.size w w' := by
  obtain ⟨cs, hcs⟩ : ∃ cs, cs = [old w w.heap.size] := ⟨_, rfl⟩
  have hp : Hp w cs w := by rw [hcs]; exact Hp.old_start w
  have hc2 : ∀ W, Hp w cs W → Below w.heap.size w W := fun W h => by rw [hcs] at h; exact h.since 0 _ rfl
  have hC0_0 : ∀ W, Hp w cs W → Kd.C k78 W A0_0 l0_0.length l0_0 := fun W h => Kd.C_below hr0_0 (hc2 W h)
  have hC0_1 : ∀ W, Hp w cs W → Kd.C k78 W A0_1 l0_1.length l0_1 := fun W h => Kd.C_below hr0_1 (hc2 W h)
  have hC0_2 : ∀ W, Hp w cs W → Kd.C (Kd.int .i64) W A0_2 l0_2.length l0_2 := fun W h => Kd.C_below hr0_2 (hc2 W h)
  clear hcs
  unfold laws_toGame.f at h
  obtain ⟨t_2, hv_1, h⟩ := Option.bind_eq_some_iff.mp h
  try dsimp only at h
  obtain ⟨t_4, hv_3, h⟩ := Option.bind_eq_some_iff.mp h
  try dsimp only at h
  obtain ⟨t_6, hv_5, h⟩ := Option.bind_eq_some_iff.mp h
  try dsimp only at h
  refine sx_enter (N := 23) (l := [.agg #[.slice A0_0 l0_0.length c0_0, .slice A0_1 l0_1.length c0_1, .slice A0_2 l0_2.length c0_2, .int .i64 a0_3, .int .i64 a0_4]]) Tryz.func8 rfl rfl rfl ?_
  refine wp_seq ?_
  refine sx_region ?_
  refine sx_box 1 hp #[.slice A0_0 l0_0.length c0_0, .slice A0_1 l0_1.length c0_1, .slice A0_2 l0_2.length c0_2, .int .i64 a0_3, .int .i64 a0_4] 25 (by rfl) (fun W => by kernel_rfl) ?_
  intro g_7 W_8 hp
  refine sx_box 2 hp #[.slice none 0 0, .slice none 0 0, .slice none 0 0, .int .i64 0, .int .i64 0] 29 (by rfl) (fun W => by kernel_rfl) ?_
  intro g_9 W_10 hp
  refine sx_nil ?_
  refine ex_then_n ?_
  refine wp_seq ?_
  refine sx_region ?_
  refine sx_box 3 hp #[.slice none 0 0, .slice none 0 0, .slice none 0 0, .int .i64 0, .int .i64 0] 29 (by rfl) (fun W => by kernel_rfl) ?_
  intro g_11 W_12 hp
  refine sx_nil ?_
  refine ex_then_n ?_
  refine wp_seq ?_
  refine sx_region ?_
  refine sx_rd 4 (.pointer (some ⟨g_7, 0, none⟩)) (by rfl) (by kernel_rfl) ?_
  refine sx_rd 5 (.slice A0_0 l0_0.length c0_0) (by rfl) (ld1 (t := 22) (p := (.tmp 4)) (by rfl) (by rfl) (by kernel_rfl) (hp.cell 2 (by rfl) 0 _ (by rfl))) ?_
  refine sx_call 6 (by rfl) (by kernel_rfl) ((laws_toTileS.calls _ A0_0 c0_0 l0_0 _ _ (hC0_0 _ hp.tail.tail.tail) hc0_0 hv_1).mono ?_)
  rintro _ W_18 ⟨v_14, rfl, hR_13, hb⟩
  refine ⟨_, rfl, ?_⟩
  obtain ⟨A_15, c_16, rfl, hcc_c_16, _⟩ := Kd.R_reads hR_13
  obtain ⟨F_17, hp⟩ : ∃ F, Hp w (row k59 59 w.heap.size (.slice A_15 t_2.length c_16) t_2 F :: blk g_11 #[.slice none 0 0, .slice none 0 0, .slice none 0 0, .int .i64 0, .int .i64 0] 29 :: blk g_9 #[.slice none 0 0, .slice none 0 0, .slice none 0 0, .int .i64 0, .int .i64 0] 29 :: blk g_7 #[.slice A0_0 l0_0.length c0_0, .slice A0_1 l0_1.length c0_1, .slice A0_2 l0_2.length c0_2, .int .i64 a0_3, .int .i64 a0_4] 25 :: cs) _ := ⟨_, Hp.made hp hb hR_13⟩
  refine sx_rd 7 (.pointer (some ⟨g_11, 0, none⟩)) (by rfl) (by kernel_rfl) ?_
  refine sx_store (t := 27) (p := (.tmp 7)) (x := (.tmp 6)) (by rfl) (by rfl) 1 (by rfl) 0 [.slice A_15 t_2.length c_16] (by rfl) (by rfl) (by kernel_rfl) (by simp [Value.oneCell']) (by show 1 ≤ 5; omega) #[.slice A_15 t_2.length c_16, .slice none 0 0, .slice none 0 0, .int .i64 0, .int .i64 0] (by rfl) hp ?_
  intro W_19 hp; simp only [List.set_cons_succ, List.set_cons_zero] at hp
  refine sx_nil ?_
  refine ex_then_n ?_
  refine wp_seq ?_
  refine sx_region ?_
  refine sx_rd 8 (.pointer (some ⟨g_7, 1, none⟩)) (by rfl) (by kernel_rfl) ?_
  refine sx_rd 9 (.slice A0_1 l0_1.length c0_1) (by rfl) (ld1 (t := 22) (p := (.tmp 8)) (by rfl) (by rfl) (by kernel_rfl) (hp.cell 3 (by rfl) 1 _ (by rfl))) ?_
  refine sx_call 10 (by rfl) (by kernel_rfl) ((laws_toTileS.calls _ A0_1 c0_1 l0_1 _ _ (hC0_1 _ hp.tail.tail.tail.tail) hc0_1 hv_3).mono ?_)
  rintro _ W_25 ⟨v_21, rfl, hR_20, hb⟩
  refine ⟨_, rfl, ?_⟩
  obtain ⟨A_22, c_23, rfl, hcc_c_23, _⟩ := Kd.R_reads hR_20
  obtain ⟨F_24, hp⟩ : ∃ F, Hp w (row k59 59 w.heap.size (.slice A_22 t_4.length c_23) t_4 F :: row k59 59 w.heap.size (.slice A_15 t_2.length c_16) t_2 F_17 :: blk g_11 #[.slice A_15 t_2.length c_16, .slice none 0 0, .slice none 0 0, .int .i64 0, .int .i64 0] 29 :: blk g_9 #[.slice none 0 0, .slice none 0 0, .slice none 0 0, .int .i64 0, .int .i64 0] 29 :: blk g_7 #[.slice A0_0 l0_0.length c0_0, .slice A0_1 l0_1.length c0_1, .slice A0_2 l0_2.length c0_2, .int .i64 a0_3, .int .i64 a0_4] 25 :: cs) _ := ⟨_, Hp.made hp hb hR_20⟩
  refine sx_rd 11 (.pointer (some ⟨g_11, 1, none⟩)) (by rfl) (by kernel_rfl) ?_
  refine sx_store (t := 27) (p := (.tmp 11)) (x := (.tmp 10)) (by rfl) (by rfl) 2 (by rfl) 1 [.slice A_22 t_4.length c_23] (by rfl) (by rfl) (by kernel_rfl) (by simp [Value.oneCell']) (by show 2 ≤ 5; omega) #[.slice A_15 t_2.length c_16, .slice A_22 t_4.length c_23, .slice none 0 0, .int .i64 0, .int .i64 0] (by rfl) hp ?_
  intro W_26 hp; simp only [List.set_cons_succ, List.set_cons_zero] at hp
  refine sx_nil ?_
  refine ex_then_n ?_
  refine wp_seq ?_
  refine sx_region ?_
  refine sx_rd 12 (.pointer (some ⟨g_7, 2, none⟩)) (by rfl) (by kernel_rfl) ?_
  refine sx_rd 13 (.slice A0_2 l0_2.length c0_2) (by rfl) (ld1 (t := 23) (p := (.tmp 12)) (by rfl) (by rfl) (by kernel_rfl) (hp.cell 4 (by rfl) 2 _ (by rfl))) ?_
  refine sx_call 14 (by rfl) (by kernel_rfl) ((laws_toIntS.calls _ A0_2 c0_2 l0_2 _ _ (hC0_2 _ hp.tail.tail.tail.tail.tail) hc0_2 hv_5).mono ?_)
  rintro _ W_32 ⟨v_28, rfl, hR_27, hb⟩
  refine ⟨_, rfl, ?_⟩
  obtain ⟨A_29, c_30, rfl, hcc_c_30, _⟩ := Kd.R_reads hR_27
  obtain ⟨F_31, hp⟩ : ∃ F, Hp w (row (Kd.int .i64) 3 w.heap.size (.slice A_29 t_6.length c_30) t_6 F :: row k59 59 w.heap.size (.slice A_22 t_4.length c_23) t_4 F_24 :: row k59 59 w.heap.size (.slice A_15 t_2.length c_16) t_2 F_17 :: blk g_11 #[.slice A_15 t_2.length c_16, .slice A_22 t_4.length c_23, .slice none 0 0, .int .i64 0, .int .i64 0] 29 :: blk g_9 #[.slice none 0 0, .slice none 0 0, .slice none 0 0, .int .i64 0, .int .i64 0] 29 :: blk g_7 #[.slice A0_0 l0_0.length c0_0, .slice A0_1 l0_1.length c0_1, .slice A0_2 l0_2.length c0_2, .int .i64 a0_3, .int .i64 a0_4] 25 :: cs) _ := ⟨_, Hp.made hp hb hR_27⟩
  refine sx_rd 15 (.pointer (some ⟨g_11, 2, none⟩)) (by rfl) (by kernel_rfl) ?_
  refine sx_store (t := 23) (p := (.tmp 15)) (x := (.tmp 14)) (by rfl) (by rfl) 3 (by rfl) 2 [.slice A_29 t_6.length c_30] (by rfl) (by rfl) (by kernel_rfl) (by simp [Value.oneCell']) (by show 3 ≤ 5; omega) #[.slice A_15 t_2.length c_16, .slice A_22 t_4.length c_23, .slice A_29 t_6.length c_30, .int .i64 0, .int .i64 0] (by rfl) hp ?_
  intro W_33 hp; simp only [List.set_cons_succ, List.set_cons_zero] at hp
  refine sx_nil ?_
  refine ex_then_n ?_
  refine wp_seq ?_
  refine sx_region ?_
  refine sx_rd 16 (.pointer (some ⟨g_7, 3, none⟩)) (by rfl) (by kernel_rfl) ?_
  refine sx_rd 17 (.int .i64 a0_3) (by rfl) (ld1 (t := 3) (p := (.tmp 16)) (by rfl) (by rfl) (by kernel_rfl) (hp.cell 5 (by rfl) 3 _ (by rfl))) ?_
  refine sx_rd 18 (.pointer (some ⟨g_11, 3, none⟩)) (by rfl) (by kernel_rfl) ?_
  refine sx_store (t := 3) (p := (.tmp 18)) (x := (.tmp 17)) (by rfl) (by rfl) 3 (by rfl) 3 [.int .i64 a0_3] (by rfl) (by rfl) (by kernel_rfl) (by simp [Value.oneCell']) (by show 4 ≤ 5; omega) #[.slice A_15 t_2.length c_16, .slice A_22 t_4.length c_23, .slice A_29 t_6.length c_30, .int .i64 a0_3, .int .i64 0] (by rfl) hp ?_
  intro W_34 hp; simp only [List.set_cons_succ, List.set_cons_zero] at hp
  refine sx_nil ?_
  refine ex_then_n ?_
  refine wp_seq ?_
  refine sx_region ?_
  refine sx_rd 19 (.pointer (some ⟨g_7, 4, none⟩)) (by rfl) (by kernel_rfl) ?_
  refine sx_rd 20 (.int .i64 a0_4) (by rfl) (ld1 (t := 3) (p := (.tmp 19)) (by rfl) (by rfl) (by kernel_rfl) (hp.cell 5 (by rfl) 4 _ (by rfl))) ?_
  refine sx_rd 21 (.pointer (some ⟨g_11, 4, none⟩)) (by rfl) (by kernel_rfl) ?_
  refine sx_store (t := 3) (p := (.tmp 21)) (x := (.tmp 20)) (by rfl) (by rfl) 3 (by rfl) 4 [.int .i64 a0_4] (by rfl) (by rfl) (by kernel_rfl) (by simp [Value.oneCell']) (by show 5 ≤ 5; omega) #[.slice A_15 t_2.length c_16, .slice A_22 t_4.length c_23, .slice A_29 t_6.length c_30, .int .i64 a0_3, .int .i64 a0_4] (by rfl) hp ?_
  intro W_35 hp; simp only [List.set_cons_succ, List.set_cons_zero] at hp
  refine sx_nil ?_
  refine ex_then_n ?_
  refine wp_seq ?_
  refine sx_region ?_
  refine sx_rd 22 (.agg #[.slice A_15 t_2.length c_16, .slice A_22 t_4.length c_23, .slice A_29 t_6.length c_30, .int .i64 a0_3, .int .i64 a0_4]) (by rfl) (ldn (t := 29) (p := (.tmp 3)) (by rfl) (by rfl) (by kernel_rfl) (by kernel_rfl) (by kernel_rfl) (hp.at_ 3 _ (by rfl))) ?_
  refine sx_store (t := 29) (p := (.tmp 2)) (x := (.tmp 22)) (by rfl) (by rfl) 4 (by rfl) 0 [.slice A_15 t_2.length c_16, .slice A_22 t_4.length c_23, .slice A_29 t_6.length c_30, .int .i64 a0_3, .int .i64 a0_4] (by rfl) (by rfl) (by kernel_rfl) (by simp [Value.oneCell']) (by show 5 ≤ 5; omega) #[.slice A_15 t_2.length c_16, .slice A_22 t_4.length c_23, .slice A_29 t_6.length c_30, .int .i64 a0_3, .int .i64 a0_4] (by rfl) hp ?_
  intro W_36 hp; simp only [List.set_cons_succ, List.set_cons_zero] at hp
  refine sx_nil ?_
  refine ex_then_n ?_
  refine wp_ret ?_
  refine sx_end (.agg #[.slice A_15 t_2.length c_16, .slice A_22 t_4.length c_23, .slice A_29 t_6.length c_30, .int .i64 a0_3, .int .i64 a0_4]) (resc (by rfl) (by rfl) (by kernel_rfl) (by kernel_rfl) (hp.at_ 4 _ (by rfl))) ?_
  simp only [Option.some.injEq, Prod.mk.injEq] at h; obtain ⟨rfl, rfl, rfl, rfl, rfl⟩ := h
  exact ⟨_, _, _, rfl, Kd.R_mono (row_R (hp.at_ 2 _ (by rfl))) (fun k_ hk_ => Hp.apart_rows hp 2 1 (by decide) (by rfl) (by rfl) k_ hk_), Kd.R_mono (row_R (hp.at_ 1 _ (by rfl))) (fun k_ hk_ => Hp.apart_rows hp 1 2 (by decide) (by rfl) (by rfl) k_ hk_), Kd.R_mono (row_R (hp.at_ 0 _ (by rfl))) (fun _ _ => trivial), hc2 _ (hp.tail.tail.tail.tail.tail.tail)⟩
end
section
open Go.RowKit Go.Proofs.YtkjaahmlnbgnjaaGreatW.PrintWords Go.Proofs.YtkjaahmlnbgnjaaGreatW.PrintLast Go.Proofs.YtkjaahmlnbgnjaaGreatW.PrintMore
attribute [local go_sem] max2_int min2_int max_two min_two max_three min_three max_four min_four   -- for this text's walks alone
set_option linter.unusedVariables false
set_option linter.unusedSimpArgs false

def slices_Contains_impl_Tile_impl_Tile.f (k : Nat) (l0 : List (S_Tile)) (a1_0 : Int) (a1_1 : Int) : Option (Bool) := (slices_Index_impl_Tile_impl_Tile.f k l0 a1_0 a1_1).bind fun t280 => (some (decide (t280 ≥ 0)))
set_option maxRecDepth 100000 in
set_option maxHeartbeats 40000000 in
theorem slices_Contains_impl_Tile_impl_Tile.calls (k : Nat) (A0 : Option Addr) (c0 : Nat) (l0 : List (S_Tile)) (a1_0 : Int) (a1_1 : Int) (r : Bool) (w : World) (hr0 : Kd.C k59 w A0 l0.length l0) (hc0 : l0.length ≤ c0) (h : slices_Contains_impl_Tile_impl_Tile.f k l0 a1_0 a1_1 = some r) :
    Calls Tryz.prog 83 #[.slice A0 l0.length c0, .agg #[.int .i64 a1_0, .int .i64 a1_1]] w fun e w' => e = .returned (.bool r) ∧ Below w.heap.size w w' := by
  obtain ⟨cs, hcs⟩ : ∃ cs, cs = [old w w.heap.size] := ⟨_, rfl⟩
  have hp : Hp w cs w := by rw [hcs]; exact Hp.old_start w
  have hc2 : ∀ W, Hp w cs W → Below w.heap.size w W := fun W h => by rw [hcs] at h; exact h.since 0 _ rfl
  have hC0 : ∀ W, Hp w cs W → Kd.C k59 W A0 l0.length l0 := fun W h => Kd.C_below hr0 (hc2 W h)
  clear hcs
  unfold slices_Contains_impl_Tile_impl_Tile.f at h
  obtain ⟨t_2, hv_1, h⟩ := Option.bind_eq_some_iff.mp h
  try dsimp only at h
  refine sx_enter (N := 9) (l := [.slice A0 l0.length c0, .agg #[.int .i64 a1_0, .int .i64 a1_1]]) Tryz.func83 rfl rfl rfl ?_
  refine wp_seq ?_
  refine sx_region ?_
  refine sx_box 3 hp #[.int .i64 a1_0, .int .i64 a1_1] 59 (by rfl) (fun W => by kernel_rfl) ?_
  intro g_3 W_4 hp
  refine sx_rd 4 (.bool false) (by rfl) (by kernel_rfl) ?_
  refine sx_nil ?_
  refine ex_then_n ?_
  refine wp_seq ?_
  refine sx_region ?_
  refine sx_rd 5 (.slice A0 l0.length c0) (by rfl) (by kernel_rfl) ?_
  refine sx_rd 6 (.agg #[.int .i64 a1_0, .int .i64 a1_1]) (by rfl) (ldn (t := 59) (p := (.tmp 3)) (by rfl) (by rfl) (by kernel_rfl) (by kernel_rfl) (by kernel_rfl) (hp.at_ 0 _ (by rfl))) ?_
  refine sx_call 7 (by rfl) (by kernel_rfl) ((slices_Index_impl_Tile_impl_Tile.calls _ A0 c0 l0 a1_0 a1_1 _ _ (hC0 _ hp.tail) hc0 hv_1).mono ?_)
  rintro _ W_5 ⟨rfl, hb⟩
  refine ⟨_, rfl, ?_⟩
  replace hp := hp.below hb
  clear hb
  refine sx_rd 8 (.bool (decide (t_2 ≥ 0))) (by rfl) (by kernel_rfl) ?_
  refine sx_rd 4 (.bool (decide (t_2 ≥ 0))) (by rfl) (by kernel_rfl) ?_
  refine sx_nil ?_
  refine ex_then_n ?_
  refine wp_ret ?_
  refine sx_end (.bool (decide (t_2 ≥ 0))) (res1 4 (by rfl)) ?_
  obtain rfl := Option.some.inj h
  exact ⟨rfl, hc2 _ (hp.tail)⟩
end
section
open Go.RowKit Go.Proofs.YtkjaahmlnbgnjaaGreatW.PrintWords Go.Proofs.YtkjaahmlnbgnjaaGreatW.PrintLast Go.Proofs.YtkjaahmlnbgnjaaGreatW.PrintMore
attribute [local go_sem] max2_int min2_int max_two min_two max_three min_three max_four min_four   -- for this text's walks alone
set_option linter.unusedVariables false
set_option linter.unusedSimpArgs false

def impl_areDifferent_impl_Tile.l0 : Nat → List (S_Tile) → List (S_Tile) → Int → Int → Option (Bool)
  | 0, _, _, _, _ => none
  | k + 1, x0, x5, x6, x7 => if x7 < x6 then (if 0 ≤ x7 then (if x7 < (x5.length : Int) then (if x7 ≤ (x0.length : Int) then ((slices_Contains_impl_Tile_impl_Tile.f k (x0.take (x7 : Int).toNat) ((rd_Tile x5 x7).f0) ((rd_Tile x5 x7).f1)).bind fun t287 => (if t287 = true then (some false) else (impl_areDifferent_impl_Tile.l0 k x0 x5 x6 (wrap64 (x7 + 1))))) else (none)) else (none)) else (none)) else (some true)
def impl_areDifferent_impl_Tile.f (k : Nat) (l0 : List (S_Tile)) : Option (Bool) := impl_areDifferent_impl_Tile.l0 k l0 l0 (l0.length : Int) 0
set_option maxHeartbeats 8000000 in
set_option maxRecDepth 100000 in
theorem impl_areDifferent_impl_Tile.calls (k : Nat) (A0 : Option Addr) (c0 : Nat) (l0 : List (S_Tile)) (r : Bool) (w : World) (hr0 : Kd.C k59 w A0 l0.length l0) (hc0 : l0.length ≤ c0) (h : impl_areDifferent_impl_Tile.f k l0 = some r) :
    Calls Tryz.prog 59 #[.slice A0 l0.length c0] w fun e w' => e = .returned (.bool r) ∧ Below w.heap.size w w' := by
  have hu59 := Tryz.underlying59
  have HR0 := Aside0.mk hr0
  have HC0 := Aside0.mk hc0
  clear hr0 hc0
  have HB := Aside0.mk (Below.refl w.heap.size w)
  have H : (impl_areDifferent_impl_Tile.l0 k l0 l0 (l0.length : Int) 0) = some r := h
  clear h
  have H' := Aside0.mk H
  clear H
  go_enter Tryz.func59, Tryz.ntmps59
  go_wp2
  go_loopg [7] k (fun kq v7 w' => ∃ (x7_1 : Int), v7 = .int .i64 x7_1 ∧ Aside0 (impl_areDifferent_impl_Tile.l0 kq l0 l0 (l0.length : Int) x7_1 = some r) ∧ Aside0 (kq ≤ k) ∧ Aside0 (Below w.heap.size w w'))
  case atStart => exact ⟨(0), (by first | rfl | (simp; done) | (simp [*]; done)), H', ⟨Nat.le_refl _⟩, ⟨by repeat (first | (with_reducible first | exact HB.out | apply below_alloc | apply pw_below_drewN | apply below_drew1) | exact HB.out)⟩⟩
  case round =>
    clear H'
    obtain ⟨x7_1, rfl, HA, HK1, HB⟩ := hrel
    cases gk with
    | zero => exact absurd HA.out (by simp [impl_areDifferent_impl_Tile.l0])
    | succ k1 =>
      have H := HA.out
      clear HA
      simp only [impl_areDifferent_impl_Tile.l0] at H
      by_cases c2 : x7_1 < (l0.length : Int)
      · rw [if_pos c2] at H
        have c2b0 : decide (x7_1 < (l0.length : Int)) = true := decide_eq_true c2
        clear c2
        by_cases c3 : 0 ≤ x7_1
        · rw [if_pos c3] at H
          have c3b0 : decide (0 ≤ x7_1) = true := decide_eq_true c3
          clear c3
          by_cases c4 : x7_1 < (l0.length : Int)
          · rw [if_pos c4] at H
            have c4b0 : decide (x7_1 < (l0.length : Int)) = true := decide_eq_true c4
            clear c4
            have c5b0 := eq_true (of_decide_eq_true (by first | (with_reducible assumption) | assumption) : 0 ≤ x7_1)
            by_cases c6 : x7_1 ≤ (l0.length : Int)
            · rw [if_pos c6] at H
              have c6b0 := eq_true c6
              have c6b1 : decide (x7_1 ≤ (l0.length : Int)) = true := decide_eq_true c6
              clear c6
              obtain ⟨y283, hy283⟩ : ∃ y_ : List (S_Tile), y_ = (l0.take (x7_1 : Int).toNat) := ⟨_, rfl⟩
              replace H : ((slices_Contains_impl_Tile_impl_Tile.f k1 y283 ((rd_Tile l0 x7_1).f0) ((rd_Tile l0 x7_1).f1)).bind fun t287 => (if t287 = true then (some false) else (impl_areDifferent_impl_Tile.l0 k1 l0 l0 (l0.length : Int) (wrap64 (x7_1 + 1))))) = some r := by first | (rw [hy283]; with_reducible exact H) | (have H2_ := (Option.bind_some _ _).symm.trans H; rw [hy283]; with_reducible exact H2_) | (have H2_ := (Option.bind_some _ _).symm.trans H; with_reducible exact H2_) | with_reducible exact H | (rw [hy283]; exact H) | exact H
              have Ny283 := Aside0.mk hy283
              clear hy283
              replace H := Option.bind_eq_some_iff.mp H
              obtain ⟨t287, A70, H⟩ := H
              replace H : (if t287 = true then (some false) else (impl_areDifferent_impl_Tile.l0 k1 l0 l0 (l0.length : Int) (wrap64 (x7_1 + 1)))) = some r := H
              have A7 := Aside0.mk A70
              clear A70
              by_cases c8 : t287 = true
              · subst c8
                have H1 : (some false) = some r := by rw [if_pos rfl] at H; exact H
                clear H
                have H := H1
                clear H1
                obtain rfl := Option.some.inj H
                have p281 : 0 ≤ (x7_1 : Int) := of_decide_eq_true (by first | (with_reducible assumption) | assumption)
                have q281 : x7_1 < (l0.length : Int) := of_decide_eq_true (by first | (with_reducible assumption) | assumption)
                obtain ⟨ad281, e281, hx281_0, hx281_1⟩ := at_T59 HR0.out x7_1 p281 q281
                cases e281
                replace hx281_0 := (HB.out.cell (World.block_lt_of_cell? w _ hx281_0)).trans hx281_0
                replace hx281_1 := (HB.out.cell (World.block_lt_of_cell? w _ hx281_1)).trans hx281_1
                replace p281 := eq_true p281
                replace q281 := eq_true q281
                try go_wp2_with (first | ((with_reducible refine gate_dst (N := 4) rfl ?_); refine box_event ?hg (N := 4) ?hd (cs := #[.int .i64 0, .int .i64 0]) (t := 59) ?hr ?_; (case hd => rfl); (case hg => rfl); (case hr => first | (go_simp; done) | (go_simp; rfl)); intro gb282 hg w9 hbox hb; have n0_ := Aside0.mk (below_step (by repeat (first | (with_reducible first | exact HB.out | apply below_alloc | apply pw_below_drewN | apply below_drew1) | exact HB.out)) hb); have n1_ := Aside0.mk (hbox); have n2_ := Aside0.mk ((by rw [hg]; exact (below_size (by repeat (first | (with_reducible first | exact HB.out | apply below_alloc | apply pw_below_drewN | apply below_drew1) | exact HB.out))) : w.heap.size ≤ gb282)); have n3_ := Aside0.mk ((by rw [hg]; exact (below_size (by repeat (first | (with_reducible first | exact HB.out | apply below_alloc | apply pw_below_drewN | apply below_drew1) | exact HB.out))) : w.heap.size ≤ gb282)); clear HB; have HB := n0_; have BK282 := n1_; have GW282 := n2_; have GE282 := n3_; clear n0_ n1_ n2_ n3_; clear hb hbox hg; have hcz10_0 : w9.cell? ⟨gb282, 0, none⟩ = some (.int .i64 0) := (blk_cell BK282.out 0).trans rfl; have hcz10_1 : w9.cell? ⟨gb282, 1, none⟩ = some (.int .i64 0) := (blk_cell BK282.out 1).trans rfl; have hfz10_0 := blk_frozen BK282.out 0; have hfz10_1 := blk_frozen BK282.out 1))
                have n0_ : Aside0 (((w9.setCell ⟨gb282, 0, none⟩ (.int .i64 ((rd_Tile l0 x7_1).f0))).setCell ⟨gb282, 1, none⟩ (.int .i64 ((rd_Tile l0 x7_1).f1))).heap[gb282]? = some (.cells #[.int .i64 ((rd_Tile l0 x7_1).f0), .int .i64 ((rd_Tile l0 x7_1).f1)] 59 (0, 0))) := ⟨by (with_reducible repeat (first | refine blk_drewN ?_ _ | refine blk_drew ?_ | refine blk_alloc ?_ _)); refine blk_put (cs := #[.int .i64 ((rd_Tile l0 x7_1).f0), .int .i64 0]) ?_ 1 _ rfl; (with_reducible repeat (first | refine blk_drewN ?_ _ | refine blk_drew ?_ | refine blk_alloc ?_ _)); refine blk_put (cs := #[.int .i64 0, .int .i64 0]) ?_ 0 _ rfl; (with_reducible repeat (first | refine blk_drewN ?_ _ | refine blk_drew ?_ | refine blk_alloc ?_ _)); exact BK282.out⟩
                have n1_ : Aside0 (Below w.heap.size w ((w9.setCell ⟨gb282, 0, none⟩ (.int .i64 ((rd_Tile l0 x7_1).f0))).setCell ⟨gb282, 1, none⟩ (.int .i64 ((rd_Tile l0 x7_1).f1)))) := ⟨by repeat (first | (with_reducible first | exact HB.out | apply below_alloc | apply pw_below_drewN | apply below_drew1 | refine below_set ?_ GE282.out) | exact HB.out)⟩
                (try clear BK282)
                (try clear HB)
                generalize ((w9.setCell ⟨gb282, 0, none⟩ (.int .i64 ((rd_Tile l0 x7_1).f0))).setCell ⟨gb282, 1, none⟩ (.int .i64 ((rd_Tile l0 x7_1).f1))) = w11 at n0_ n1_ ⊢
                have BK282 := n0_
                have HB := n1_
                clear n0_ n1_
                have n0_ := Aside0.mk (blk_drew BK282.out)
                have n1_ := Aside0.mk (below_drew1 HB.out)
                clear BK282
                clear HB
                have BK282 := n0_
                have HB := n1_
                clear n0_ n1_
                have q13 : (x7_1 : Int) ≤ ((l0.length : Int) : Int) := of_decide_eq_true (by first | (with_reducible assumption) | assumption)
                obtain ⟨i013, hi013, _, hsz13, _⟩ := info_parts info59
                have hroom13 : l0.length ≤ c0 := HC0.out
                have hC13 : Kd.C k59 _ (some ad281) l0.length l0 := HR0.out
                have hcut13 := cut_to (P := Tryz.prog) 27 59 .i64 Tryz.underlying27 hi013 (some ad281) l0.length c0 x7_1 (of_decide_eq_true (by first | (with_reducible assumption) | assumption)) q13 hroom13
                have hr13 := Kd.C_take (m := (x7_1 : Int).toNat) hC13 (by omega)
                have hy13 : y283.length = (x7_1 : Int).toNat := (by rw [Ny283.out, List.length_take]; omega)
                rw [← Ny283.out] at hr13
                rw [← hy13] at hcut13
                have HR286 := Aside0.mk hr13
                have HC286 := Aside0.mk (show y283.length ≤ c0 from by omega)
                clear hr13 hC13 hroom13 hi013 hsz13
                have KY13 := Aside0.mk hy13
                clear hy13
                replace q13 := eq_true q13
                refine start_ (n := 5) (S := fun w' => w'.cell? ⟨gb282, 0, none⟩ = some (.int .i64 ((rd_Tile l0 x7_1).f0)) ∧ w'.cell? ⟨gb282, 1, none⟩ = some (.int .i64 ((rd_Tile l0 x7_1).f1))) (ds := []) #[false, false, false, false, false] (by kernel_rfl) rfl rfl ⟨(blk_cell BK282.out 0).trans rfl, (blk_cell BK282.out 1).trans rfl⟩ (fun hHeld => ?_)
                generalize w11.drew = w12 at BK282 HB HR286 hHeld ⊢
                refine pure_ (i := 0) (N := some 12) (v := ?_) (a' := ?_) #[true, false, false, false, false] rfl rfl (by kernel_rfl) (fun _ _ _ h => h) (Or.inl ⟨by rfl, ?_⟩) ?_ ?_
                rotate_left
                · intro w'
                  go_simp
                  with_reducible rfl
                rotate_left
                · simp only [Act.put, List.setIfInBounds_toArray, List.set_cons_zero, List.set_cons_succ, i64_w, i32_w]
                  rfl
                refine pure_ (i := 1) (N := some 13) (v := ?_) (a' := ?_) #[true, true, false, false, false] rfl rfl (by kernel_rfl) (fun _ _ _ h => h) (Or.inl ⟨by rfl, ?_⟩) ?_ ?_
                rotate_left
                · intro w'
                  go_simp
                  with_reducible rfl
                rotate_left
                · simp only [Act.put, List.setIfInBounds_toArray, List.set_cons_zero, List.set_cons_succ, i64_w, i32_w]
                  rfl
                refine pure_ (i := 2) (N := some 14) (v := ?_) (a' := ?_) #[true, true, true, false, false] rfl rfl (by kernel_rfl) (fun _ _ _ h => h) (Or.inl ⟨by rfl, ?_⟩) ?_ ?_
                rotate_left
                · intro w'
                  go_simp
                  with_reducible rfl
                rotate_left
                · simp only [Act.put, List.setIfInBounds_toArray, List.set_cons_zero, List.set_cons_succ, i64_w, i32_w]
                  rfl
                refine take_ (i := 3) (N := some 15) (v := ?_) (a' := ?_) #[true, true, true, true, false] rfl rfl (by kernel_rfl) (fun _ _ _ h => h) (Or.inl ⟨by rfl, ?_⟩) hHeld ?_ ?_
                rotate_left
                · rintro w' ⟨s0, s1⟩
                  go_simp
                  with_reducible rfl
                rotate_left
                · simp only [Act.put, List.setIfInBounds_toArray, List.set_cons_zero, List.set_cons_succ, i64_w, i32_w]
                  rfl
                refine one_ (i := 4) (N := some 16) #[true, true, true, true, true] rfl rfl (by kernel_rfl) (by decide) (fun K hK => ?_)
                refine goes_ Tryz.func83 (by kernel_rfl) rfl #[.slice (some ad281) y283.length c0, .agg #[.int .i64 ((rd_Tile l0 x7_1).f0), .int .i64 ((rd_Tile l0 x7_1).f1)]] (by rfl) rfl rfl (by (try simp only [List.map_toArray, List.map_cons, List.map_nil]); first | done | rfl | (simp only [List.length_drop, List.length_take]; rfl)) ?_
                with_reducible refine (slices_Contains_impl_Tile_impl_Tile.calls k1 _ _ y283 ((rd_Tile l0 x7_1).f0) ((rd_Tile l0 x7_1).f1) true _ ?side1 ?side2 A7.out).mono ?_
                (case side1 => repeat (first | exact (Kd.C_below HR286.out HB.out) | (with_reducible refine Kd.C_alloc ?_ _) | (with_reducible refine Kd.C_drewN ?_ _) | (with_reducible refine Kd.C_drew ?_)))
                (case side2 => exact HC286.out)
                rintro e w14 ⟨rfl, hb⟩
                refine ⟨_, rfl, ?_⟩
                have n0_ := Aside0.mk (blk_below (g := gb282) (o := .cells #[.int .i64 ((rd_Tile l0 x7_1).f0), .int .i64 ((rd_Tile l0 x7_1).f1)] 59 (0, 0)) (by (with_reducible repeat (first | refine blk_drewN ?_ _ | refine blk_drew ?_ | refine blk_alloc ?_ _)); exact BK282.out) hb)
                have n1_ := Aside0.mk (below_step (by repeat (first | (with_reducible first | exact HB.out | apply below_alloc | apply pw_below_drewN | apply below_drew1 | refine below_set ?_ GE282.out) | exact HB.out)) hb)
                clear BK282
                clear HB
                have BK282 := n0_
                have HB := n1_
                clear n0_ n1_
                (try clear hb)
                (try clear hb2)
                (try clear hk)
                (try clear hi)
                refine hK.out _ _ ⟨(blk_cell BK282.out 0).trans rfl, (blk_cell BK282.out 1).trans rfl⟩ (fun hHeld => ?_)
                clear hK K
                refine norm_ (a' := ?_) ?_ ?_
                rotate_left
                · show Act.put _ (some 16) _ = _
                  simp only [Act.put, List.setIfInBounds_toArray, List.set_cons_zero, List.set_cons_succ, i64_w, i32_w]
                  rfl
                refine done_ (by kernel_rfl) ?_
                try go_wp2
                go_ret
                exact ⟨by first | rfl | (simp [errW_none, errW_some] <;> rfl) | (simp [*, errW_none, errW_some] <;> rfl), by repeat (first | (with_reducible first | exact HB.out | apply below_alloc | apply pw_below_drewN | apply below_drew1 | refine below_set ?_ GE282.out) | exact HB.out)⟩
              · replace c8 := Bool.eq_false_iff.mpr c8
                subst c8
                have H1 : (impl_areDifferent_impl_Tile.l0 k1 l0 l0 (l0.length : Int) (wrap64 (x7_1 + 1))) = some r := by rw [if_neg (show ¬ (false = true) by decide)] at H; exact H
                clear H
                have H := H1
                clear H1
                have H' := Aside0.mk H
                clear H
                have p281 : 0 ≤ (x7_1 : Int) := of_decide_eq_true (by first | (with_reducible assumption) | assumption)
                have q281 : x7_1 < (l0.length : Int) := of_decide_eq_true (by first | (with_reducible assumption) | assumption)
                obtain ⟨ad281, e281, hx281_0, hx281_1⟩ := at_T59 HR0.out x7_1 p281 q281
                cases e281
                replace hx281_0 := (HB.out.cell (World.block_lt_of_cell? w _ hx281_0)).trans hx281_0
                replace hx281_1 := (HB.out.cell (World.block_lt_of_cell? w _ hx281_1)).trans hx281_1
                replace p281 := eq_true p281
                replace q281 := eq_true q281
                try go_wp2_with (first | ((with_reducible refine gate_dst (N := 4) rfl ?_); refine box_event ?hg (N := 4) ?hd (cs := #[.int .i64 0, .int .i64 0]) (t := 59) ?hr ?_; (case hd => rfl); (case hg => rfl); (case hr => first | (go_simp; done) | (go_simp; rfl)); intro gb282 hg w15 hbox hb; have n0_ := Aside0.mk (below_step (by repeat (first | (with_reducible first | exact HB.out | apply below_alloc | apply pw_below_drewN | apply below_drew1) | exact HB.out)) hb); have n1_ := Aside0.mk (hbox); have n2_ := Aside0.mk ((by rw [hg]; exact (below_size (by repeat (first | (with_reducible first | exact HB.out | apply below_alloc | apply pw_below_drewN | apply below_drew1) | exact HB.out))) : w.heap.size ≤ gb282)); have n3_ := Aside0.mk ((by rw [hg]; exact (below_size (by repeat (first | (with_reducible first | exact HB.out | apply below_alloc | apply pw_below_drewN | apply below_drew1) | exact HB.out))) : w.heap.size ≤ gb282)); clear HB; have HB := n0_; have BK282 := n1_; have GW282 := n2_; have GE282 := n3_; clear n0_ n1_ n2_ n3_; clear hb hbox hg; have hcz16_0 : w15.cell? ⟨gb282, 0, none⟩ = some (.int .i64 0) := (blk_cell BK282.out 0).trans rfl; have hcz16_1 : w15.cell? ⟨gb282, 1, none⟩ = some (.int .i64 0) := (blk_cell BK282.out 1).trans rfl; have hfz16_0 := blk_frozen BK282.out 0; have hfz16_1 := blk_frozen BK282.out 1))
                have n0_ : Aside0 (((w15.setCell ⟨gb282, 0, none⟩ (.int .i64 ((rd_Tile l0 x7_1).f0))).setCell ⟨gb282, 1, none⟩ (.int .i64 ((rd_Tile l0 x7_1).f1))).heap[gb282]? = some (.cells #[.int .i64 ((rd_Tile l0 x7_1).f0), .int .i64 ((rd_Tile l0 x7_1).f1)] 59 (0, 0))) := ⟨by (with_reducible repeat (first | refine blk_drewN ?_ _ | refine blk_drew ?_ | refine blk_alloc ?_ _)); refine blk_put (cs := #[.int .i64 ((rd_Tile l0 x7_1).f0), .int .i64 0]) ?_ 1 _ rfl; (with_reducible repeat (first | refine blk_drewN ?_ _ | refine blk_drew ?_ | refine blk_alloc ?_ _)); refine blk_put (cs := #[.int .i64 0, .int .i64 0]) ?_ 0 _ rfl; (with_reducible repeat (first | refine blk_drewN ?_ _ | refine blk_drew ?_ | refine blk_alloc ?_ _)); exact BK282.out⟩
                have n1_ : Aside0 (Below w.heap.size w ((w15.setCell ⟨gb282, 0, none⟩ (.int .i64 ((rd_Tile l0 x7_1).f0))).setCell ⟨gb282, 1, none⟩ (.int .i64 ((rd_Tile l0 x7_1).f1)))) := ⟨by repeat (first | (with_reducible first | exact HB.out | apply below_alloc | apply pw_below_drewN | apply below_drew1 | refine below_set ?_ GE282.out) | exact HB.out)⟩
                (try clear BK282)
                (try clear HB)
                generalize ((w15.setCell ⟨gb282, 0, none⟩ (.int .i64 ((rd_Tile l0 x7_1).f0))).setCell ⟨gb282, 1, none⟩ (.int .i64 ((rd_Tile l0 x7_1).f1))) = w17 at n0_ n1_ ⊢
                have BK282 := n0_
                have HB := n1_
                clear n0_ n1_
                have n0_ := Aside0.mk (blk_drew BK282.out)
                have n1_ := Aside0.mk (below_drew1 HB.out)
                clear BK282
                clear HB
                have BK282 := n0_
                have HB := n1_
                clear n0_ n1_
                have q19 : (x7_1 : Int) ≤ ((l0.length : Int) : Int) := of_decide_eq_true (by first | (with_reducible assumption) | assumption)
                obtain ⟨i019, hi019, _, hsz19, _⟩ := info_parts info59
                have hroom19 : l0.length ≤ c0 := HC0.out
                have hC19 : Kd.C k59 _ (some ad281) l0.length l0 := HR0.out
                have hcut19 := cut_to (P := Tryz.prog) 27 59 .i64 Tryz.underlying27 hi019 (some ad281) l0.length c0 x7_1 (of_decide_eq_true (by first | (with_reducible assumption) | assumption)) q19 hroom19
                have hr19 := Kd.C_take (m := (x7_1 : Int).toNat) hC19 (by omega)
                have hy19 : y283.length = (x7_1 : Int).toNat := (by rw [Ny283.out, List.length_take]; omega)
                rw [← Ny283.out] at hr19
                rw [← hy19] at hcut19
                have HR286 := Aside0.mk hr19
                have HC286 := Aside0.mk (show y283.length ≤ c0 from by omega)
                clear hr19 hC19 hroom19 hi019 hsz19
                have KY19 := Aside0.mk hy19
                clear hy19
                replace q19 := eq_true q19
                refine start_ (n := 5) (S := fun w' => w'.cell? ⟨gb282, 0, none⟩ = some (.int .i64 ((rd_Tile l0 x7_1).f0)) ∧ w'.cell? ⟨gb282, 1, none⟩ = some (.int .i64 ((rd_Tile l0 x7_1).f1))) (ds := []) #[false, false, false, false, false] (by kernel_rfl) rfl rfl ⟨(blk_cell BK282.out 0).trans rfl, (blk_cell BK282.out 1).trans rfl⟩ (fun hHeld => ?_)
                generalize w17.drew = w18 at BK282 HB HR286 hHeld ⊢
                refine pure_ (i := 0) (N := some 12) (v := ?_) (a' := ?_) #[true, false, false, false, false] rfl rfl (by kernel_rfl) (fun _ _ _ h => h) (Or.inl ⟨by rfl, ?_⟩) ?_ ?_
                rotate_left
                · intro w'
                  go_simp
                  with_reducible rfl
                rotate_left
                · simp only [Act.put, List.setIfInBounds_toArray, List.set_cons_zero, List.set_cons_succ, i64_w, i32_w]
                  rfl
                refine pure_ (i := 1) (N := some 13) (v := ?_) (a' := ?_) #[true, true, false, false, false] rfl rfl (by kernel_rfl) (fun _ _ _ h => h) (Or.inl ⟨by rfl, ?_⟩) ?_ ?_
                rotate_left
                · intro w'
                  go_simp
                  with_reducible rfl
                rotate_left
                · simp only [Act.put, List.setIfInBounds_toArray, List.set_cons_zero, List.set_cons_succ, i64_w, i32_w]
                  rfl
                refine pure_ (i := 2) (N := some 14) (v := ?_) (a' := ?_) #[true, true, true, false, false] rfl rfl (by kernel_rfl) (fun _ _ _ h => h) (Or.inl ⟨by rfl, ?_⟩) ?_ ?_
                rotate_left
                · intro w'
                  go_simp
                  with_reducible rfl
                rotate_left
                · simp only [Act.put, List.setIfInBounds_toArray, List.set_cons_zero, List.set_cons_succ, i64_w, i32_w]
                  rfl
                refine take_ (i := 3) (N := some 15) (v := ?_) (a' := ?_) #[true, true, true, true, false] rfl rfl (by kernel_rfl) (fun _ _ _ h => h) (Or.inl ⟨by rfl, ?_⟩) hHeld ?_ ?_
                rotate_left
                · rintro w' ⟨s0, s1⟩
                  go_simp
                  with_reducible rfl
                rotate_left
                · simp only [Act.put, List.setIfInBounds_toArray, List.set_cons_zero, List.set_cons_succ, i64_w, i32_w]
                  rfl
                refine one_ (i := 4) (N := some 16) #[true, true, true, true, true] rfl rfl (by kernel_rfl) (by decide) (fun K hK => ?_)
                refine goes_ Tryz.func83 (by kernel_rfl) rfl #[.slice (some ad281) y283.length c0, .agg #[.int .i64 ((rd_Tile l0 x7_1).f0), .int .i64 ((rd_Tile l0 x7_1).f1)]] (by rfl) rfl rfl (by (try simp only [List.map_toArray, List.map_cons, List.map_nil]); first | done | rfl | (simp only [List.length_drop, List.length_take]; rfl)) ?_
                with_reducible refine (slices_Contains_impl_Tile_impl_Tile.calls k1 _ _ y283 ((rd_Tile l0 x7_1).f0) ((rd_Tile l0 x7_1).f1) false _ ?side1 ?side2 A7.out).mono ?_
                (case side1 => repeat (first | exact (Kd.C_below HR286.out HB.out) | (with_reducible refine Kd.C_alloc ?_ _) | (with_reducible refine Kd.C_drewN ?_ _) | (with_reducible refine Kd.C_drew ?_)))
                (case side2 => exact HC286.out)
                rintro e w20 ⟨rfl, hb⟩
                refine ⟨_, rfl, ?_⟩
                have n0_ := Aside0.mk (blk_below (g := gb282) (o := .cells #[.int .i64 ((rd_Tile l0 x7_1).f0), .int .i64 ((rd_Tile l0 x7_1).f1)] 59 (0, 0)) (by (with_reducible repeat (first | refine blk_drewN ?_ _ | refine blk_drew ?_ | refine blk_alloc ?_ _)); exact BK282.out) hb)
                have n1_ := Aside0.mk (below_step (by repeat (first | (with_reducible first | exact HB.out | apply below_alloc | apply pw_below_drewN | apply below_drew1 | refine below_set ?_ GE282.out) | exact HB.out)) hb)
                clear BK282
                clear HB
                have BK282 := n0_
                have HB := n1_
                clear n0_ n1_
                (try clear hb)
                (try clear hb2)
                (try clear hk)
                (try clear hi)
                refine hK.out _ _ ⟨(blk_cell BK282.out 0).trans rfl, (blk_cell BK282.out 1).trans rfl⟩ (fun hHeld => ?_)
                clear hK K
                refine norm_ (a' := ?_) ?_ ?_
                rotate_left
                · show Act.put _ (some 16) _ = _
                  simp only [Act.put, List.setIfInBounds_toArray, List.set_cons_zero, List.set_cons_succ, i64_w, i32_w]
                  rfl
                refine done_ (by kernel_rfl) ?_
                try go_wp2
                go_roundg k1
                case measure => have := HK1.out; omega
                case rel => exact ⟨(wrap64 (x7_1 + 1)), (by first | rfl | (simp; done) | (simp [*]; done)), H', ⟨by have := HK1.out; omega⟩, ⟨by repeat (first | (with_reducible first | exact HB.out | apply below_alloc | apply pw_below_drewN | apply below_drew1 | refine below_set ?_ GE282.out) | exact HB.out)⟩⟩
            · rw [if_neg c6] at H
              exact absurd H (by simp)
          · rw [if_neg c4] at H
            exact absurd H (by simp)
        · rw [if_neg c3] at H
          exact absurd H (by simp)
      · rw [if_neg c2] at H
        have c2b0 : decide (x7_1 < (l0.length : Int)) = false := decide_eq_false c2
        clear c2
        obtain rfl := Option.some.inj H
        go_wp2
        go_ret
        exact ⟨by first | rfl | (simp [errW_none, errW_some] <;> rfl) | (simp [*, errW_none, errW_some] <;> rfl), by repeat (first | (with_reducible first | exact HB.out | apply below_alloc | apply pw_below_drewN | apply below_drew1) | exact HB.out)⟩

end
section
open Go.RowKit Go.Proofs.YtkjaahmlnbgnjaaGreatW.PrintWords Go.Proofs.YtkjaahmlnbgnjaaGreatW.PrintLast Go.Proofs.YtkjaahmlnbgnjaaGreatW.PrintMore
attribute [local go_sem] max2_int min2_int max_two min_two max_three min_three max_four min_four   -- for this text's walks alone
set_option linter.unusedVariables false
set_option linter.unusedSimpArgs false

def impl_IsChain.f (k : Nat) (l0 : List Int) : Option (Bool) := if (l0.length : Int) > 0 then ((impl_areWithin.f l0 0 9).bind fun t299 => (if t299 = true then ((impl_tilesOf.f k l0).bind fun t300 => ((impl_areDifferent_impl_Tile.f k t300).bind fun t303 => (some t303))) else (some false))) else (some false)
set_option maxRecDepth 100000 in
set_option maxHeartbeats 40000000 in
theorem impl_IsChain.calls (k : Nat) (A0 : Option Addr) (c0 : Nat) (l0 : List Int) (r : Bool) (w : World) (hr0 : Kd.C (Kd.int .i64) w A0 l0.length l0) (hc0 : l0.length ≤ c0) (h : impl_IsChain.f k l0 = some r) :
    Calls Tryz.prog 58 #[.slice A0 l0.length c0] w fun e w' => e = .returned (.bool r) ∧ Below w.heap.size w w' := by
  obtain ⟨cs, hcs⟩ : ∃ cs, cs = [old w w.heap.size] := ⟨_, rfl⟩
  have hp : Hp w cs w := by rw [hcs]; exact Hp.old_start w
  have hc2 : ∀ W, Hp w cs W → Below w.heap.size w W := fun W h => by rw [hcs] at h; exact h.since 0 _ rfl
  have hC0 : ∀ W, Hp w cs W → Kd.C (Kd.int .i64) W A0 l0.length l0 := fun W h => Kd.C_below hr0 (hc2 W h)
  clear hcs
  unfold impl_IsChain.f at h
  refine sx_enter (N := 15) (l := [.slice A0 l0.length c0]) Tryz.func58 rfl rfl rfl ?_
  refine wp_seq ?_
  refine sx_region ?_
  refine sx_rd 2 (.bool false) (by rfl) (by kernel_rfl) ?_
  refine sx_nil ?_
  refine ex_then_n ?_
  refine wp_seq ?_
  by_cases hc_1 : (l0.length : Int) > 0
  ·
    rw [if_pos hc_1] at h
    obtain ⟨t_3, hv_2, h⟩ := Option.bind_eq_some_iff.mp h
    try dsimp only at h
    by_cases hc_4 : t_3 = true
    ·
      rw [if_pos hc_4] at h
      obtain ⟨t_6, hv_5, h⟩ := Option.bind_eq_some_iff.mp h
      try dsimp only at h
      obtain ⟨t_8, hv_7, h⟩ := Option.bind_eq_some_iff.mp h
      try dsimp only at h
      refine sx_region ?_
      refine sx_rd 3 (.slice A0 l0.length c0) (by rfl) (by kernel_rfl) ?_
      refine sx_rd 4 (.int .i64 (l0.length : Int)) (by rfl) (by kernel_rfl) ?_
      refine sx_rd 5 (.bool true) (by rfl) (bv (decide_eq_true hc_1) (by kernel_rfl)) ?_
      refine sx_rd 6 (.bool true) (by rfl) (by kernel_rfl) ?_
      refine sx_want (by rfl) ?_
      refine sx_rd 7 (.slice A0 l0.length c0) (by rfl) (by kernel_rfl) ?_
      refine sx_want (by rfl) ?_
      refine sx_call 8 (by rfl) (by kernel_rfl) ((impl_areWithin.calls A0 c0 l0 0 9 _ _ (hC0 _ hp) hc0 hv_2).mono ?_)
      rintro _ W_9 ⟨rfl, hb⟩
      refine ⟨.bool true, congrArg (fun b => Ending.returned (.bool b)) hc_4, ?_⟩
      replace hp := hp.below hb
      clear hb
      refine sx_rd 9 (.bool true) (by rfl) (by kernel_rfl) ?_
      refine sx_rd 10 (.bool true) (by rfl) (by kernel_rfl) ?_
      refine sx_want (by rfl) ?_
      refine sx_rd 11 (.slice A0 l0.length c0) (by rfl) (by kernel_rfl) ?_
      refine sx_want (by rfl) ?_
      refine sx_call 12 (by rfl) (by kernel_rfl) ((impl_tilesOf.calls _ A0 c0 l0 _ _ (hC0 _ hp) hc0 hv_5).mono ?_)
      rintro _ W_15 ⟨v_11, rfl, hR_10, hb⟩
      refine ⟨_, rfl, ?_⟩
      obtain ⟨A_12, c_13, rfl, hcc_c_13, _⟩ := Kd.R_reads hR_10
      obtain ⟨F_14, hp⟩ : ∃ F, Hp w (row k59 59 w.heap.size (.slice A_12 t_6.length c_13) t_6 F :: cs) _ := ⟨_, Hp.made hp hb hR_10⟩
      refine sx_want (by rfl) ?_
      refine sx_call 13 (by rfl) (by kernel_rfl) ((impl_areDifferent_impl_Tile.calls _ A_12 c_13 t_6 _ _ (row_C (hp.at_ 0 _ (by rfl))) (row_len (hp.at_ 0 _ (by rfl))).2 hv_7).mono ?_)
      rintro _ W_16 ⟨rfl, hb⟩
      refine ⟨_, rfl, ?_⟩
      replace hp := hp.below hb
      clear hb
      refine sx_rd 14 (.bool t_8) (by rfl) (by kernel_rfl) ?_
      refine sx_rd 2 (.bool t_8) (by rfl) (by kernel_rfl) ?_
      refine sx_nil ?_
      refine ex_then_n ?_
      refine wp_ret ?_
      refine sx_end (.bool t_8) (res1 2 (by rfl)) ?_
      obtain rfl := Option.some.inj h
      exact ⟨rfl, hc2 _ (hp.tail)⟩
    ·
      rw [if_neg hc_4] at h
      refine sx_region ?_
      refine sx_rd 3 (.slice A0 l0.length c0) (by rfl) (by kernel_rfl) ?_
      refine sx_rd 4 (.int .i64 (l0.length : Int)) (by rfl) (by kernel_rfl) ?_
      refine sx_rd 5 (.bool true) (by rfl) (bv (decide_eq_true hc_1) (by kernel_rfl)) ?_
      refine sx_rd 6 (.bool true) (by rfl) (by kernel_rfl) ?_
      refine sx_want (by rfl) ?_
      refine sx_rd 7 (.slice A0 l0.length c0) (by rfl) (by kernel_rfl) ?_
      refine sx_want (by rfl) ?_
      refine sx_call 8 (by rfl) (by kernel_rfl) ((impl_areWithin.calls A0 c0 l0 0 9 _ _ (hC0 _ hp) hc0 hv_2).mono ?_)
      rintro _ W_17 ⟨rfl, hb⟩
      refine ⟨.bool false, congrArg (fun b => Ending.returned (.bool b)) (Bool.eq_false_iff.mpr hc_4), ?_⟩
      replace hp := hp.below hb
      clear hb
      refine sx_rd 9 (.bool false) (by rfl) (by kernel_rfl) ?_
      refine sx_rd 10 (.bool false) (by rfl) (by kernel_rfl) ?_
      refine sx_skip 11 (by rfl) (by rfl) (by rfl) ?_
      refine sx_skip 12 (by rfl) (by rfl) (by rfl) ?_
      refine sx_skip 13 (by rfl) (by rfl) (by rfl) ?_
      refine sx_rd 14 (.bool false) (by rfl) (by kernel_rfl) ?_
      refine sx_rd 2 (.bool false) (by rfl) (by kernel_rfl) ?_
      refine sx_nil ?_
      refine ex_then_n ?_
      refine wp_ret ?_
      refine sx_end (.bool false) (res1 2 (by rfl)) ?_
      obtain rfl := Option.some.inj h
      exact ⟨rfl, hc2 _ (hp)⟩
  ·
    rw [if_neg hc_1] at h
    refine sx_region ?_
    refine sx_rd 3 (.slice A0 l0.length c0) (by rfl) (by kernel_rfl) ?_
    refine sx_rd 4 (.int .i64 (l0.length : Int)) (by rfl) (by kernel_rfl) ?_
    refine sx_rd 5 (.bool false) (by rfl) (bv (decide_eq_false hc_1) (by kernel_rfl)) ?_
    refine sx_rd 6 (.bool false) (by rfl) (by kernel_rfl) ?_
    refine sx_skip 7 (by rfl) (by rfl) (by rfl) ?_
    refine sx_skip 8 (by rfl) (by rfl) (by rfl) ?_
    refine sx_rd 9 (.bool false) (by rfl) (by kernel_rfl) ?_
    refine sx_rd 10 (.bool false) (by rfl) (by kernel_rfl) ?_
    refine sx_skip 11 (by rfl) (by rfl) (by rfl) ?_
    refine sx_skip 12 (by rfl) (by rfl) (by rfl) ?_
    refine sx_skip 13 (by rfl) (by rfl) (by rfl) ?_
    refine sx_rd 14 (.bool false) (by rfl) (by kernel_rfl) ?_
    refine sx_rd 2 (.bool false) (by rfl) (by kernel_rfl) ?_
    refine sx_nil ?_
    refine ex_then_n ?_
    refine wp_ret ?_
    refine sx_end (.bool false) (res1 2 (by rfl)) ?_
    obtain rfl := Option.some.inj h
    exact ⟨rfl, hc2 _ (hp)⟩
end
section
open Go.RowKit Go.Proofs.YtkjaahmlnbgnjaaGreatW.PrintWords Go.Proofs.YtkjaahmlnbgnjaaGreatW.PrintLast Go.Proofs.YtkjaahmlnbgnjaaGreatW.PrintMore
attribute [local go_sem] max2_int min2_int max_two min_two max_three min_three max_four min_four   -- for this text's walks alone
set_option linter.unusedVariables false
set_option linter.unusedSimpArgs false

def impl_Game_isOver.f (l0_0 : List (S_Tile)) (l0_1 : List (S_Tile)) (l0_2 : List Int) (a0_3 : Int) (a0_4 : Int) : Option (Bool) := if (l0_0.length : Int) = 0 then (some true) else (if (l0_1.length : Int) = 0 then (some true) else (some (a0_4 == 2)))
set_option maxRecDepth 100000 in
set_option maxHeartbeats 40000000 in
theorem impl_Game_isOver.calls (A0_0 : Option Addr) (c0_0 : Nat) (l0_0 : List (S_Tile)) (A0_1 : Option Addr) (c0_1 : Nat) (l0_1 : List (S_Tile)) (A0_2 : Option Addr) (c0_2 : Nat) (l0_2 : List Int) (a0_3 : Int) (a0_4 : Int) (r : Bool) (w : World) (hr0_0 : Kd.C k59 w A0_0 l0_0.length l0_0) (hc0_0 : l0_0.length ≤ c0_0) (hr0_1 : Kd.C k59 w A0_1 l0_1.length l0_1) (hc0_1 : l0_1.length ≤ c0_1) (hr0_2 : Kd.C (Kd.int .i64) w A0_2 l0_2.length l0_2) (hc0_2 : l0_2.length ≤ c0_2) (h : impl_Game_isOver.f l0_0 l0_1 l0_2 a0_3 a0_4 = some r) :
    Calls Tryz.prog 63 #[.agg #[.slice A0_0 l0_0.length c0_0, .slice A0_1 l0_1.length c0_1, .slice A0_2 l0_2.length c0_2, .int .i64 a0_3, .int .i64 a0_4]] w fun e w' => e = .returned (.bool r) ∧ Below w.heap.size w w' := by
  obtain ⟨cs, hcs⟩ : ∃ cs, cs = [old w w.heap.size] := ⟨_, rfl⟩
  have hp : Hp w cs w := by rw [hcs]; exact Hp.old_start w
  have hc2 : ∀ W, Hp w cs W → Below w.heap.size w W := fun W h => by rw [hcs] at h; exact h.since 0 _ rfl
  have hC0_0 : ∀ W, Hp w cs W → Kd.C k59 W A0_0 l0_0.length l0_0 := fun W h => Kd.C_below hr0_0 (hc2 W h)
  have hC0_1 : ∀ W, Hp w cs W → Kd.C k59 W A0_1 l0_1.length l0_1 := fun W h => Kd.C_below hr0_1 (hc2 W h)
  have hC0_2 : ∀ W, Hp w cs W → Kd.C (Kd.int .i64) W A0_2 l0_2.length l0_2 := fun W h => Kd.C_below hr0_2 (hc2 W h)
  clear hcs
  unfold impl_Game_isOver.f at h
  refine sx_enter (N := 18) (l := [.agg #[.slice A0_0 l0_0.length c0_0, .slice A0_1 l0_1.length c0_1, .slice A0_2 l0_2.length c0_2, .int .i64 a0_3, .int .i64 a0_4]]) Tryz.func63 rfl rfl rfl ?_
  refine wp_seq ?_
  refine sx_region ?_
  refine sx_box 1 hp #[.slice A0_0 l0_0.length c0_0, .slice A0_1 l0_1.length c0_1, .slice A0_2 l0_2.length c0_2, .int .i64 a0_3, .int .i64 a0_4] 29 (by rfl) (fun W => by kernel_rfl) ?_
  intro g_1 W_2 hp
  refine sx_rd 2 (.bool false) (by rfl) (by kernel_rfl) ?_
  refine sx_nil ?_
  refine ex_then_n ?_
  refine wp_seq ?_
  by_cases hc_3 : (l0_0.length : Int) = 0
  ·
    rw [if_pos hc_3] at h
    refine sx_region ?_
    refine sx_rd 3 (.pointer (some ⟨g_1, 0, none⟩)) (by rfl) (by kernel_rfl) ?_
    refine sx_rd 4 (.slice A0_0 l0_0.length c0_0) (by rfl) (ld1 (t := 27) (p := (.tmp 3)) (by rfl) (by rfl) (by kernel_rfl) (hp.cell 0 (by rfl) 0 _ (by rfl))) ?_
    refine sx_rd 5 (.int .i64 (l0_0.length : Int)) (by rfl) (by kernel_rfl) ?_
    refine sx_rd 6 (.bool true) (by rfl) (bv (beq_iff_eq.mpr hc_3) (by kernel_rfl)) ?_
    refine sx_rd 7 (.bool true) (by rfl) (by kernel_rfl) ?_
    refine sx_skip 8 (by rfl) (by rfl) (by rfl) ?_
    refine sx_skip 9 (by rfl) (by rfl) (by rfl) ?_
    refine sx_skip 10 (by rfl) (by rfl) (by rfl) ?_
    refine sx_skip 11 (by rfl) (by rfl) (by rfl) ?_
    refine sx_rd 12 (.bool true) (by rfl) (by kernel_rfl) ?_
    refine sx_rd 13 (.bool true) (by rfl) (by kernel_rfl) ?_
    refine sx_skip 14 (by rfl) (by rfl) (by rfl) ?_
    refine sx_skip 15 (by rfl) (by rfl) (by rfl) ?_
    refine sx_skip 16 (by rfl) (by rfl) (by rfl) ?_
    refine sx_rd 17 (.bool true) (by rfl) (by kernel_rfl) ?_
    refine sx_rd 2 (.bool true) (by rfl) (by kernel_rfl) ?_
    refine sx_nil ?_
    refine ex_then_n ?_
    refine wp_ret ?_
    refine sx_end (.bool true) (res1 2 (by rfl)) ?_
    obtain rfl := Option.some.inj h
    exact ⟨rfl, hc2 _ (hp.tail)⟩
  ·
    rw [if_neg hc_3] at h
    by_cases hc_4 : (l0_1.length : Int) = 0
    ·
      rw [if_pos hc_4] at h
      refine sx_region ?_
      refine sx_rd 3 (.pointer (some ⟨g_1, 0, none⟩)) (by rfl) (by kernel_rfl) ?_
      refine sx_rd 4 (.slice A0_0 l0_0.length c0_0) (by rfl) (ld1 (t := 27) (p := (.tmp 3)) (by rfl) (by rfl) (by kernel_rfl) (hp.cell 0 (by rfl) 0 _ (by rfl))) ?_
      refine sx_rd 5 (.int .i64 (l0_0.length : Int)) (by rfl) (by kernel_rfl) ?_
      refine sx_rd 6 (.bool false) (by rfl) (bv (beq_eq_false_iff_ne.mpr hc_3) (by kernel_rfl)) ?_
      refine sx_rd 7 (.bool false) (by rfl) (by kernel_rfl) ?_
      refine sx_want (by rfl) ?_
      refine sx_rd 8 (.pointer (some ⟨g_1, 1, none⟩)) (by rfl) (by kernel_rfl) ?_
      refine sx_want (by rfl) ?_
      refine sx_rd 9 (.slice A0_1 l0_1.length c0_1) (by rfl) (ld1 (t := 27) (p := (.tmp 8)) (by rfl) (by rfl) (by kernel_rfl) (hp.cell 0 (by rfl) 1 _ (by rfl))) ?_
      refine sx_want (by rfl) ?_
      refine sx_rd 10 (.int .i64 (l0_1.length : Int)) (by rfl) (by kernel_rfl) ?_
      refine sx_want (by rfl) ?_
      refine sx_rd 11 (.bool true) (by rfl) (bv (beq_iff_eq.mpr hc_4) (by kernel_rfl)) ?_
      refine sx_rd 12 (.bool true) (by rfl) (by kernel_rfl) ?_
      refine sx_rd 13 (.bool true) (by rfl) (by kernel_rfl) ?_
      refine sx_skip 14 (by rfl) (by rfl) (by rfl) ?_
      refine sx_skip 15 (by rfl) (by rfl) (by rfl) ?_
      refine sx_skip 16 (by rfl) (by rfl) (by rfl) ?_
      refine sx_rd 17 (.bool true) (by rfl) (by kernel_rfl) ?_
      refine sx_rd 2 (.bool true) (by rfl) (by kernel_rfl) ?_
      refine sx_nil ?_
      refine ex_then_n ?_
      refine wp_ret ?_
      refine sx_end (.bool true) (res1 2 (by rfl)) ?_
      obtain rfl := Option.some.inj h
      exact ⟨rfl, hc2 _ (hp.tail)⟩
    ·
      rw [if_neg hc_4] at h
      refine sx_region ?_
      refine sx_rd 3 (.pointer (some ⟨g_1, 0, none⟩)) (by rfl) (by kernel_rfl) ?_
      refine sx_rd 4 (.slice A0_0 l0_0.length c0_0) (by rfl) (ld1 (t := 27) (p := (.tmp 3)) (by rfl) (by rfl) (by kernel_rfl) (hp.cell 0 (by rfl) 0 _ (by rfl))) ?_
      refine sx_rd 5 (.int .i64 (l0_0.length : Int)) (by rfl) (by kernel_rfl) ?_
      refine sx_rd 6 (.bool false) (by rfl) (bv (beq_eq_false_iff_ne.mpr hc_3) (by kernel_rfl)) ?_
      refine sx_rd 7 (.bool false) (by rfl) (by kernel_rfl) ?_
      refine sx_want (by rfl) ?_
      refine sx_rd 8 (.pointer (some ⟨g_1, 1, none⟩)) (by rfl) (by kernel_rfl) ?_
      refine sx_want (by rfl) ?_
      refine sx_rd 9 (.slice A0_1 l0_1.length c0_1) (by rfl) (ld1 (t := 27) (p := (.tmp 8)) (by rfl) (by rfl) (by kernel_rfl) (hp.cell 0 (by rfl) 1 _ (by rfl))) ?_
      refine sx_want (by rfl) ?_
      refine sx_rd 10 (.int .i64 (l0_1.length : Int)) (by rfl) (by kernel_rfl) ?_
      refine sx_want (by rfl) ?_
      refine sx_rd 11 (.bool false) (by rfl) (bv (beq_eq_false_iff_ne.mpr hc_4) (by kernel_rfl)) ?_
      refine sx_rd 12 (.bool false) (by rfl) (by kernel_rfl) ?_
      refine sx_rd 13 (.bool false) (by rfl) (by kernel_rfl) ?_
      refine sx_want (by rfl) ?_
      refine sx_rd 14 (.pointer (some ⟨g_1, 4, none⟩)) (by rfl) (by kernel_rfl) ?_
      refine sx_want (by rfl) ?_
      refine sx_rd 15 (.int .i64 a0_4) (by rfl) (ld1 (t := 3) (p := (.tmp 14)) (by rfl) (by rfl) (by kernel_rfl) (hp.cell 0 (by rfl) 4 _ (by rfl))) ?_
      refine sx_want (by rfl) ?_
      refine sx_rd 16 (.bool (a0_4 == 2)) (by rfl) (by kernel_rfl) ?_
      refine sx_rd 17 (.bool (a0_4 == 2)) (by rfl) (by kernel_rfl) ?_
      refine sx_rd 2 (.bool (a0_4 == 2)) (by rfl) (by kernel_rfl) ?_
      refine sx_nil ?_
      refine ex_then_n ?_
      refine wp_ret ?_
      refine sx_end (.bool (a0_4 == 2)) (res1 2 (by rfl)) ?_
      obtain rfl := Option.some.inj h
      exact ⟨rfl, hc2 _ (hp.tail)⟩
end
section
open Go.RowKit Go.Proofs.YtkjaahmlnbgnjaaGreatW.PrintWords Go.Proofs.YtkjaahmlnbgnjaaGreatW.PrintLast Go.Proofs.YtkjaahmlnbgnjaaGreatW.PrintMore
attribute [local go_sem] max2_int min2_int max_two min_two max_three min_three max_four min_four   -- for this text's walks alone
set_option linter.unusedVariables false
set_option linter.unusedSimpArgs false

def impl_Tile_has.f (a0_0 : Int) (a0_1 : Int) (a1 : Int) : Option (Bool) := if a0_0 = a1 then (some true) else (some (a0_1 == a1))
set_option maxRecDepth 100000 in
set_option maxHeartbeats 40000000 in
theorem impl_Tile_has.calls (a0_0 : Int) (a0_1 : Int) (a1 : Int) (r : Bool) (w : World) (h : impl_Tile_has.f a0_0 a0_1 a1 = some r) :
    Calls Tryz.prog 89 #[.agg #[.int .i64 a0_0, .int .i64 a0_1], .int .i64 a1] w fun e w' => e = .returned (.bool r) ∧ Below w.heap.size w w' := by
  obtain ⟨cs, hcs⟩ : ∃ cs, cs = [old w w.heap.size] := ⟨_, rfl⟩
  have hp : Hp w cs w := by rw [hcs]; exact Hp.old_start w
  have hc2 : ∀ W, Hp w cs W → Below w.heap.size w W := fun W h => by rw [hcs] at h; exact h.since 0 _ rfl
  clear hcs
  unfold impl_Tile_has.f at h
  refine sx_enter (N := 15) (l := [.agg #[.int .i64 a0_0, .int .i64 a0_1], .int .i64 a1]) Tryz.func89 rfl rfl rfl ?_
  refine wp_seq ?_
  refine sx_region ?_
  refine sx_box 2 hp #[.int .i64 a0_0, .int .i64 a0_1] 59 (by rfl) (fun W => by kernel_rfl) ?_
  intro g_1 W_2 hp
  refine sx_rd 4 (.bool false) (by rfl) (by kernel_rfl) ?_
  refine sx_nil ?_
  refine ex_then_n ?_
  refine wp_seq ?_
  by_cases hc_3 : a0_0 = a1
  ·
    rw [if_pos hc_3] at h
    refine sx_region ?_
    refine sx_rd 5 (.pointer (some ⟨g_1, 0, none⟩)) (by rfl) (by kernel_rfl) ?_
    refine sx_rd 6 (.int .i64 a0_0) (by rfl) (ld1 (t := 3) (p := (.tmp 5)) (by rfl) (by rfl) (by kernel_rfl) (hp.cell 0 (by rfl) 0 _ (by rfl))) ?_
    refine sx_rd 7 (.int .i64 a1) (by rfl) (by kernel_rfl) ?_
    refine sx_rd 8 (.bool true) (by rfl) (bv (beq_iff_eq.mpr hc_3) (by kernel_rfl)) ?_
    refine sx_rd 9 (.bool true) (by rfl) (by kernel_rfl) ?_
    refine sx_skip 10 (by rfl) (by rfl) (by rfl) ?_
    refine sx_skip 11 (by rfl) (by rfl) (by rfl) ?_
    refine sx_skip 12 (by rfl) (by rfl) (by rfl) ?_
    refine sx_skip 13 (by rfl) (by rfl) (by rfl) ?_
    refine sx_rd 14 (.bool true) (by rfl) (by kernel_rfl) ?_
    refine sx_rd 4 (.bool true) (by rfl) (by kernel_rfl) ?_
    refine sx_nil ?_
    refine ex_then_n ?_
    refine wp_ret ?_
    refine sx_end (.bool true) (res1 4 (by rfl)) ?_
    obtain rfl := Option.some.inj h
    exact ⟨rfl, hc2 _ (hp.tail)⟩
  ·
    rw [if_neg hc_3] at h
    refine sx_region ?_
    refine sx_rd 5 (.pointer (some ⟨g_1, 0, none⟩)) (by rfl) (by kernel_rfl) ?_
    refine sx_rd 6 (.int .i64 a0_0) (by rfl) (ld1 (t := 3) (p := (.tmp 5)) (by rfl) (by rfl) (by kernel_rfl) (hp.cell 0 (by rfl) 0 _ (by rfl))) ?_
    refine sx_rd 7 (.int .i64 a1) (by rfl) (by kernel_rfl) ?_
    refine sx_rd 8 (.bool false) (by rfl) (bv (beq_eq_false_iff_ne.mpr hc_3) (by kernel_rfl)) ?_
    refine sx_rd 9 (.bool false) (by rfl) (by kernel_rfl) ?_
    refine sx_want (by rfl) ?_
    refine sx_rd 10 (.pointer (some ⟨g_1, 1, none⟩)) (by rfl) (by kernel_rfl) ?_
    refine sx_want (by rfl) ?_
    refine sx_rd 11 (.int .i64 a0_1) (by rfl) (ld1 (t := 3) (p := (.tmp 10)) (by rfl) (by rfl) (by kernel_rfl) (hp.cell 0 (by rfl) 1 _ (by rfl))) ?_
    refine sx_want (by rfl) ?_
    refine sx_rd 12 (.int .i64 a1) (by rfl) (by kernel_rfl) ?_
    refine sx_want (by rfl) ?_
    refine sx_rd 13 (.bool (a0_1 == a1)) (by rfl) (by kernel_rfl) ?_
    refine sx_rd 14 (.bool (a0_1 == a1)) (by rfl) (by kernel_rfl) ?_
    refine sx_rd 4 (.bool (a0_1 == a1)) (by rfl) (by kernel_rfl) ?_
    refine sx_nil ?_
    refine ex_then_n ?_
    refine wp_ret ?_
    refine sx_end (.bool (a0_1 == a1)) (res1 4 (by rfl)) ?_
    obtain rfl := Option.some.inj h
    exact ⟨rfl, hc2 _ (hp.tail)⟩
end
section
open Go.RowKit Go.Proofs.YtkjaahmlnbgnjaaGreatW.PrintWords Go.Proofs.YtkjaahmlnbgnjaaGreatW.PrintLast Go.Proofs.YtkjaahmlnbgnjaaGreatW.PrintMore
attribute [local go_sem] max2_int min2_int max_two min_two max_three min_three max_four min_four   -- for this text's walks alone
set_option linter.unusedVariables false
set_option linter.unusedSimpArgs false

def laws_eqTile.f (a0_0 : Int) (a0_1 : Int) (a1_0 : Int) (a1_1 : Int) : Option (Bool) := if a0_0 = a1_0 then (if a0_1 = a1_1 then (some true) else (some false)) else (some false)
set_option maxRecDepth 100000 in
set_option maxHeartbeats 40000000 in
theorem laws_eqTile.calls (a0_0 : Int) (a0_1 : Int) (a1_0 : Int) (a1_1 : Int) (r : Bool) (w : World) (h : laws_eqTile.f a0_0 a0_1 a1_0 a1_1 = some r) :
    Calls Tryz.prog 70 #[.agg #[.int .i64 a0_0, .int .i64 a0_1], .agg #[.int .i64 a1_0, .int .i64 a1_1]] w fun e w' => e = .returned (.bool r) ∧ Below w.heap.size w w' := by
  obtain ⟨cs, hcs⟩ : ∃ cs, cs = [old w w.heap.size] := ⟨_, rfl⟩
  have hp : Hp w cs w := by rw [hcs]; exact Hp.old_start w
  have hc2 : ∀ W, Hp w cs W → Below w.heap.size w W := fun W h => by rw [hcs] at h; exact h.since 0 _ rfl
  clear hcs
  unfold laws_eqTile.f at h
  refine sx_enter (N := 15) (l := [.agg #[.int .i64 a0_0, .int .i64 a0_1], .agg #[.int .i64 a1_0, .int .i64 a1_1]]) Tryz.func70 rfl rfl rfl ?_
  refine wp_seq ?_
  refine sx_region ?_
  refine sx_box 2 hp #[.int .i64 a0_0, .int .i64 a0_1] 59 (by rfl) (fun W => by kernel_rfl) ?_
  intro g_1 W_2 hp
  refine sx_box 3 hp #[.int .i64 a1_0, .int .i64 a1_1] 59 (by rfl) (fun W => by kernel_rfl) ?_
  intro g_3 W_4 hp
  refine sx_rd 4 (.bool false) (by rfl) (by kernel_rfl) ?_
  refine sx_nil ?_
  refine ex_then_n ?_
  refine wp_seq ?_
  refine wp_seq ?_
  refine sx_region ?_
  refine sx_rd 5 (.pointer (some ⟨g_1, 0, none⟩)) (by rfl) (by kernel_rfl) ?_
  refine sx_rd 6 (.int .i64 a0_0) (by rfl) (ld1 (t := 3) (p := (.tmp 5)) (by rfl) (by rfl) (by kernel_rfl) (hp.cell 1 (by rfl) 0 _ (by rfl))) ?_
  refine sx_rd 7 (.pointer (some ⟨g_3, 0, none⟩)) (by rfl) (by kernel_rfl) ?_
  refine sx_rd 8 (.int .i64 a1_0) (by rfl) (ld1 (t := 3) (p := (.tmp 7)) (by rfl) (by rfl) (by kernel_rfl) (hp.cell 0 (by rfl) 0 _ (by rfl))) ?_
  refine sx_rd 9 (.bool (a0_0 != a1_0)) (by rfl) (by kernel_rfl) ?_
  refine sx_nil ?_
  refine ex_then_n ?_
  by_cases hc_5 : a0_0 = a1_0
  ·
    rw [if_pos hc_5] at h
    refine sx_else (a0_0 != a1_0) (by rfl) (bne_eq_false_iff_eq.mpr hc_5) ?_
    refine wp_skip ?_
    refine ex_then_n ?_
    refine wp_seq ?_
    refine wp_seq ?_
    refine sx_region ?_
    refine sx_rd 10 (.pointer (some ⟨g_1, 1, none⟩)) (by rfl) (by kernel_rfl) ?_
    refine sx_rd 11 (.int .i64 a0_1) (by rfl) (ld1 (t := 3) (p := (.tmp 10)) (by rfl) (by rfl) (by kernel_rfl) (hp.cell 1 (by rfl) 1 _ (by rfl))) ?_
    refine sx_rd 12 (.pointer (some ⟨g_3, 1, none⟩)) (by rfl) (by kernel_rfl) ?_
    refine sx_rd 13 (.int .i64 a1_1) (by rfl) (ld1 (t := 3) (p := (.tmp 12)) (by rfl) (by rfl) (by kernel_rfl) (hp.cell 0 (by rfl) 1 _ (by rfl))) ?_
    refine sx_rd 14 (.bool (a0_1 != a1_1)) (by rfl) (by kernel_rfl) ?_
    refine sx_nil ?_
    refine ex_then_n ?_
    by_cases hc_6 : a0_1 = a1_1
    ·
      rw [if_pos hc_6] at h
      refine sx_else (a0_1 != a1_1) (by rfl) (bne_eq_false_iff_eq.mpr hc_6) ?_
      refine wp_skip ?_
      refine ex_then_n ?_
      refine wp_seq ?_
      refine sx_region ?_
      refine sx_rd 4 (.bool true) (by rfl) (by kernel_rfl) ?_
      refine sx_nil ?_
      refine ex_then_n ?_
      refine wp_ret ?_
      refine sx_end (.bool true) (res1 4 (by rfl)) ?_
      obtain rfl := Option.some.inj h
      exact ⟨rfl, hc2 _ (hp.tail.tail)⟩
    ·
      rw [if_neg hc_6] at h
      refine sx_then (a0_1 != a1_1) (by rfl) (bne_iff_ne.mpr hc_6) ?_
      refine wp_seq ?_
      refine sx_region ?_
      refine sx_rd 4 (.bool false) (by rfl) (by kernel_rfl) ?_
      refine sx_nil ?_
      refine ex_then_n ?_
      refine wp_ret ?_
      refine ex_then_r ?_
      refine sx_end (.bool false) (res1 4 (by rfl)) ?_
      obtain rfl := Option.some.inj h
      exact ⟨rfl, hc2 _ (hp.tail.tail)⟩
  ·
    rw [if_neg hc_5] at h
    refine sx_then (a0_0 != a1_0) (by rfl) (bne_iff_ne.mpr hc_5) ?_
    refine wp_seq ?_
    refine sx_region ?_
    refine sx_rd 4 (.bool false) (by rfl) (by kernel_rfl) ?_
    refine sx_nil ?_
    refine ex_then_n ?_
    refine wp_ret ?_
    refine ex_then_r ?_
    refine sx_end (.bool false) (res1 4 (by rfl)) ?_
    obtain rfl := Option.some.inj h
    exact ⟨rfl, hc2 _ (hp.tail.tail)⟩
end
end Go.Proofs.YtkjaahmlnbgnjaaGreat.Hd
