-- Printed by hprint.py and laid together by pack.py (this session's programs over the kit's print program). Lean checks it.
import Derived.Test.YtjaojemmbeddfaaGreatMSx5
import Derived.Test.YtjaojemmbeddfaaGreatMSxL
import Derived.Test.YtjaojemmbeddfaaGreatG0
import Derived.Test.YtjaojemmbeddfaaGreatMTileR
import Derived.Test.YtjaojemmbeddfaaGreatMWithin
namespace Go.Proofs.YtjaojemmbeddfaaGreat.Hd
section
open Go.RowKit Go.Proofs.YtjaojemmbeddfaaGreatW.PrintWords Go.Proofs.YtjaojemmbeddfaaGreatW.PrintLast Go.Proofs.YtjaojemmbeddfaaGreatW.PrintMore
attribute [local go_sem] max2_int min2_int max_two min_two max_three min_three max_four min_four   -- for this text's walks alone
set_option linter.unusedVariables false
set_option linter.unusedSimpArgs false

def laws_szGame.f (l0_0 : List (S_LTile)) (l0_1 : List (S_LTile)) (l0_2 : List Int) (a0_3 : Int) (a0_4 : Int) (a1 : Int) : Option (Int):=(laws_szTileS.f l0_0 a1).bind fun t102 => (if t102 < 0 then (some (-1)) else ((laws_szTileS.f l0_1 t102).bind fun t103 => (if t103 < 0 then (some (-1)) else ((laws_szIntS.f l0_2 t103).bind fun t104 => (if t104 < 0 then (some (-1)) else (some t104))))))
set_option maxRecDepth 100000 in
set_option maxHeartbeats 40000000 in
theorem laws_szGame.calls (A0_0 : Option Addr) (c0_0 : Nat) (l0_0 : List (S_LTile)) (A0_1 : Option Addr) (c0_1 : Nat) (l0_1 : List (S_LTile)) (A0_2 : Option Addr) (c0_2 : Nat) (l0_2 : List Int) (a0_3 : Int) (a0_4 : Int) (a1 : Int) (r : Int) (w : World) (hr0_0 : Kd.C k59 w A0_0 l0_0.length l0_0) (hc0_0 : l0_0.length ≤ c0_0) (hr0_1 : Kd.C k59 w A0_1 l0_1.length l0_1) (hc0_1 : l0_1.length ≤ c0_1) (hr0_2 : Kd.C (Kd.int .i64) w A0_2 l0_2.length l0_2) (hc0_2 : l0_2.length ≤ c0_2) (h : laws_szGame.f l0_0 l0_1 l0_2 a0_3 a0_4 a1 = some r) :
    Calls Tryz.prog 6 #[.agg #[.slice A0_0 l0_0.length c0_0,.slice A0_1 l0_1.length c0_1,.slice A0_2 l0_2.length c0_2,.int .i64 a0_3,.int .i64 a0_4],.int .i64 a1] w fun e w' => e = .returned (.int .i64 r) ∧ Below w.heap.size w w':=by
  obtain ⟨cs,hcs⟩ : ∃ cs,cs = [old w w.heap.size]:=⟨_,rfl⟩
  have hp : Hp w cs w:=by rw [hcs];exact Hp.old_start w
  have hc2 : ∀ W,Hp w cs W → Below w.heap.size w W:=fun W h => by rw [hcs] at h;exact h.since 0 _ rfl
  have hC0_0 : ∀ W,Hp w cs W → Kd.C k59 W A0_0 l0_0.length l0_0:=fun W h => Kd.C_below hr0_0 (hc2 W h)
  have hC0_1 : ∀ W,Hp w cs W → Kd.C k59 W A0_1 l0_1.length l0_1:=fun W h => Kd.C_below hr0_1 (hc2 W h)
  have hC0_2 : ∀ W,Hp w cs W → Kd.C (Kd.int .i64) W A0_2 l0_2.length l0_2:=fun W h => Kd.C_below hr0_2 (hc2 W h)
  clear hcs
  unfold laws_szGame.f at h
  obtain ⟨t_2,hv_1,h⟩:=Option.bind_eq_some_iff.mp h
  try dsimp only at h
  refine sx_enter (N:=24) (l:=[.agg #[.slice A0_0 l0_0.length c0_0,.slice A0_1 l0_1.length c0_1,.slice A0_2 l0_2.length c0_2,.int .i64 a0_3,.int .i64 a0_4],.int .i64 a1]) Tryz.func6 rfl rfl rfl ?_
  refine wp_seq ?_
  refine sx_region ?_
  refine sx_box 2 hp #[.slice A0_0 l0_0.length c0_0,.slice A0_1 l0_1.length c0_1,.slice A0_2 l0_2.length c0_2,.int .i64 a0_3,.int .i64 a0_4] 25 (by rfl) (fun W => by kernel_rfl) ?_
  intro g_3 W_4 hp
  refine sx_rd 4 (.int .i64 0) (by rfl) (by kernel_rfl) ?_
  refine sx_nil ?_
  refine ex_then_n ?_
  refine wp_seq ?_
  refine sx_region ?_
  refine sx_rd 5 (.pointer (some ⟨g_3,0,none⟩)) (by rfl) (by kernel_rfl) ?_
  refine sx_rd 6 (.slice A0_0 l0_0.length c0_0) (by rfl) (ld1 (t:=22) (p:=(.tmp 5)) (by rfl) (by rfl) (by kernel_rfl) (hp.cell 0 (by rfl) 0 _ (by rfl))) ?_
  refine sx_rd 7 (.int .i64 a1) (by rfl) (by kernel_rfl) ?_
  refine sx_call 8 (by rfl) (by kernel_rfl) ((laws_szTileS.calls A0_0 c0_0 l0_0 a1 _ _ (hC0_0 _ hp.tail) hc0_0 hv_1).mono ?_)
  rintro _ W_5 ⟨rfl,hb⟩
  refine ⟨_,rfl,?_⟩
  replace hp:=hp.below hb.below
  clear hb
  refine sx_rd 1 (.int .i64 t_2) (by rfl) (by kernel_rfl) ?_
  refine sx_nil ?_
  refine ex_then_n ?_
  refine wp_seq ?_
  refine wp_seq ?_
  refine sx_region ?_
  refine sx_rd 9 (.int .i64 t_2) (by rfl) (by kernel_rfl) ?_
  refine sx_rd 10 (.bool (decide (t_2 < 0))) (by rfl) (by kernel_rfl) ?_
  refine sx_nil ?_
  refine ex_then_n ?_
  by_cases hc_6 : t_2 < 0
  ·
    rw [if_pos hc_6] at h
    refine sx_then (decide (t_2 < 0)) (by rfl) (decide_eq_true hc_6) ?_
    refine wp_seq ?_
    refine sx_region ?_
    refine sx_rd 4 (.int .i64 (-1)) (by rfl) (by kernel_rfl) ?_
    refine sx_nil ?_
    refine ex_then_n ?_
    refine wp_ret ?_
    refine ex_then_r ?_
    refine sx_end (.int .i64 (-1)) (res1 4 (by rfl)) ?_
    obtain rfl:=Option.some.inj h
    exact ⟨rfl,hc2 _ (hp.tail)⟩
  ·
    rw [if_neg hc_6] at h
    obtain ⟨t_8,hv_7,h⟩:=Option.bind_eq_some_iff.mp h
    try dsimp only at h
    refine sx_else (decide (t_2 < 0)) (by rfl) (decide_eq_false hc_6) ?_
    refine wp_skip ?_
    refine ex_then_n ?_
    refine wp_seq ?_
    refine sx_region ?_
    refine sx_rd 11 (.pointer (some ⟨g_3,1,none⟩)) (by rfl) (by kernel_rfl) ?_
    refine sx_rd 12 (.slice A0_1 l0_1.length c0_1) (by rfl) (ld1 (t:=22) (p:=(.tmp 11)) (by rfl) (by rfl) (by kernel_rfl) (hp.cell 0 (by rfl) 1 _ (by rfl))) ?_
    refine sx_rd 13 (.int .i64 t_2) (by rfl) (by kernel_rfl) ?_
    refine sx_call 14 (by rfl) (by kernel_rfl) ((laws_szTileS.calls A0_1 c0_1 l0_1 t_2 _ _ (hC0_1 _ hp.tail) hc0_1 hv_7).mono ?_)
    rintro _ W_9 ⟨rfl,hb⟩
    refine ⟨_,rfl,?_⟩
    replace hp:=hp.below hb.below
    clear hb
    refine sx_rd 1 (.int .i64 t_8) (by rfl) (by kernel_rfl) ?_
    refine sx_nil ?_
    refine ex_then_n ?_
    refine wp_seq ?_
    refine wp_seq ?_
    refine sx_region ?_
    refine sx_rd 15 (.int .i64 t_8) (by rfl) (by kernel_rfl) ?_
    refine sx_rd 16 (.bool (decide (t_8 < 0))) (by rfl) (by kernel_rfl) ?_
    refine sx_nil ?_
    refine ex_then_n ?_
    by_cases hc_10 : t_8 < 0
    ·
      rw [if_pos hc_10] at h
      refine sx_then (decide (t_8 < 0)) (by rfl) (decide_eq_true hc_10) ?_
      refine wp_seq ?_
      refine sx_region ?_
      refine sx_rd 4 (.int .i64 (-1)) (by rfl) (by kernel_rfl) ?_
      refine sx_nil ?_
      refine ex_then_n ?_
      refine wp_ret ?_
      refine ex_then_r ?_
      refine sx_end (.int .i64 (-1)) (res1 4 (by rfl)) ?_
      obtain rfl:=Option.some.inj h
      exact ⟨rfl,hc2 _ (hp.tail)⟩
    ·
      rw [if_neg hc_10] at h
      obtain ⟨t_12,hv_11,h⟩:=Option.bind_eq_some_iff.mp h
      try dsimp only at h
      refine sx_else (decide (t_8 < 0)) (by rfl) (decide_eq_false hc_10) ?_
      refine wp_skip ?_
      refine ex_then_n ?_
      refine wp_seq ?_
      refine sx_region ?_
      refine sx_rd 17 (.pointer (some ⟨g_3,2,none⟩)) (by rfl) (by kernel_rfl) ?_
      refine sx_rd 18 (.slice A0_2 l0_2.length c0_2) (by rfl) (ld1 (t:=23) (p:=(.tmp 17)) (by rfl) (by rfl) (by kernel_rfl) (hp.cell 0 (by rfl) 2 _ (by rfl))) ?_
      refine sx_rd 19 (.int .i64 t_8) (by rfl) (by kernel_rfl) ?_
      refine sx_call 20 (by rfl) (by kernel_rfl) ((laws_szIntS.calls A0_2 c0_2 l0_2 t_8 _ _ (hC0_2 _ hp.tail) hc0_2 hv_11).mono ?_)
      rintro _ W_13 ⟨rfl,hb⟩
      refine ⟨_,rfl,?_⟩
      replace hp:=hp.below hb.below
      clear hb
      refine sx_rd 1 (.int .i64 t_12) (by rfl) (by kernel_rfl) ?_
      refine sx_nil ?_
      refine ex_then_n ?_
      refine wp_seq ?_
      refine wp_seq ?_
      refine sx_region ?_
      refine sx_rd 21 (.int .i64 t_12) (by rfl) (by kernel_rfl) ?_
      refine sx_rd 22 (.bool (decide (t_12 < 0))) (by rfl) (by kernel_rfl) ?_
      refine sx_nil ?_
      refine ex_then_n ?_
      by_cases hc_14 : t_12 < 0
      ·
        rw [if_pos hc_14] at h
        refine sx_then (decide (t_12 < 0)) (by rfl) (decide_eq_true hc_14) ?_
        refine wp_seq ?_
        refine sx_region ?_
        refine sx_rd 4 (.int .i64 (-1)) (by rfl) (by kernel_rfl) ?_
        refine sx_nil ?_
        refine ex_then_n ?_
        refine wp_ret ?_
        refine ex_then_r ?_
        refine sx_end (.int .i64 (-1)) (res1 4 (by rfl)) ?_
        obtain rfl:=Option.some.inj h
        exact ⟨rfl,hc2 _ (hp.tail)⟩
      ·
        rw [if_neg hc_14] at h
        refine sx_else (decide (t_12 < 0)) (by rfl) (decide_eq_false hc_14) ?_
        refine wp_skip ?_
        refine ex_then_n ?_
        refine wp_seq ?_
        refine sx_region ?_
        refine sx_rd 23 (.int .i64 t_12) (by rfl) (by kernel_rfl) ?_
        refine sx_rd 4 (.int .i64 t_12) (by rfl) (by kernel_rfl) ?_
        refine sx_nil ?_
        refine ex_then_n ?_
        refine wp_ret ?_
        refine sx_end (.int .i64 t_12) (res1 4 (by rfl)) ?_
        obtain rfl:=Option.some.inj h
        exact ⟨rfl,hc2 _ (hp.tail)⟩
end
section
open Go.RowKit Go.Proofs.YtjaojemmbeddfaaGreatW.PrintWords Go.Proofs.YtjaojemmbeddfaaGreatW.PrintLast Go.Proofs.YtjaojemmbeddfaaGreatW.PrintMore
attribute [local go_sem] max2_int min2_int max_two min_two max_three min_three max_four min_four   -- for this text's walks alone
set_option linter.unusedVariables false
set_option linter.unusedSimpArgs false

def spec_tiGood.f (a0_0 : Int) (a0_1 : Int) : Option (Bool):=(spec_l1In.f a0_0 0 a0_1).bind fun t106 => (if t106 = true then (some (decide (a0_1 ≤ 9))) else (some false))
set_option maxRecDepth 100000 in
set_option maxHeartbeats 40000000 in
theorem spec_tiGood.calls (a0_0 : Int) (a0_1 : Int) (r : Bool) (w : World) (h : spec_tiGood.f a0_0 a0_1 = some r) :
    Calls Tryz.prog 70 #[.agg #[.int .i64 a0_0,.int .i64 a0_1]] w fun e w' => e = .returned (.bool r) ∧ Below w.heap.size w w':=by
  obtain ⟨cs,hcs⟩ : ∃ cs,cs = [old w w.heap.size]:=⟨_,rfl⟩
  have hp : Hp w cs w:=by rw [hcs];exact Hp.old_start w
  have hc2 : ∀ W,Hp w cs W → Below w.heap.size w W:=fun W h => by rw [hcs] at h;exact h.since 0 _ rfl
  clear hcs
  unfold spec_tiGood.f at h
  obtain ⟨t_2,hv_1,h⟩:=Option.bind_eq_some_iff.mp h
  try dsimp only at h
  refine sx_enter (N:=13) (l:=[.agg #[.int .i64 a0_0,.int .i64 a0_1]]) Tryz.func70 rfl rfl rfl ?_
  refine wp_seq ?_
  refine sx_region ?_
  refine sx_box 1 hp #[.int .i64 a0_0,.int .i64 a0_1] 53 (by rfl) (fun W => by kernel_rfl) ?_
  intro g_3 W_4 hp
  refine sx_rd 2 (.bool false) (by rfl) (by kernel_rfl) ?_
  refine sx_nil ?_
  refine ex_then_n ?_
  refine wp_seq ?_
  by_cases hc_5 : t_2 = true
  ·
    rw [if_pos hc_5] at h
    refine sx_region ?_
    refine sx_rd 3 (.pointer (some ⟨g_3,0,none⟩)) (by rfl) (by kernel_rfl) ?_
    refine sx_rd 4 (.int .i64 a0_0) (by rfl) (ld1 (t:=3) (p:=(.tmp 3)) (by rfl) (by rfl) (by kernel_rfl) (hp.cell 0 (by rfl) 0 _ (by rfl))) ?_
    refine sx_rd 5 (.pointer (some ⟨g_3,1,none⟩)) (by rfl) (by kernel_rfl) ?_
    refine sx_rd 6 (.int .i64 a0_1) (by rfl) (ld1 (t:=3) (p:=(.tmp 5)) (by rfl) (by rfl) (by kernel_rfl) (hp.cell 0 (by rfl) 1 _ (by rfl))) ?_
    refine sx_call 7 (by rfl) (by kernel_rfl) ((spec_l1In.calls a0_0 0 a0_1 _ _ hv_1).mono ?_)
    rintro _ W_6 ⟨rfl,hb⟩
    refine ⟨.bool true,congrArg (fun b => Ending.returned (.bool b)) hc_5,?_⟩
    replace hp:=hp.below hb.below
    clear hb
    refine sx_rd 8 (.bool true) (by rfl) (by kernel_rfl) ?_
    refine sx_want (by rfl) ?_
    refine sx_rd 9 (.pointer (some ⟨g_3,1,none⟩)) (by rfl) (by kernel_rfl) ?_
    refine sx_want (by rfl) ?_
    refine sx_rd 10 (.int .i64 a0_1) (by rfl) (ld1 (t:=3) (p:=(.tmp 9)) (by rfl) (by rfl) (by kernel_rfl) (hp.cell 0 (by rfl) 1 _ (by rfl))) ?_
    refine sx_want (by rfl) ?_
    refine sx_rd 11 (.bool (decide (a0_1 ≤ 9))) (by rfl) (by kernel_rfl) ?_
    refine sx_rd 12 (.bool (decide (a0_1 ≤ 9))) (by rfl) (by kernel_rfl) ?_
    refine sx_rd 2 (.bool (decide (a0_1 ≤ 9))) (by rfl) (by kernel_rfl) ?_
    refine sx_nil ?_
    refine ex_then_n ?_
    refine wp_ret ?_
    refine sx_end (.bool (decide (a0_1 ≤ 9))) (res1 2 (by rfl)) ?_
    obtain rfl:=Option.some.inj h
    exact ⟨rfl,hc2 _ (hp.tail)⟩
  ·
    rw [if_neg hc_5] at h
    refine sx_region ?_
    refine sx_rd 3 (.pointer (some ⟨g_3,0,none⟩)) (by rfl) (by kernel_rfl) ?_
    refine sx_rd 4 (.int .i64 a0_0) (by rfl) (ld1 (t:=3) (p:=(.tmp 3)) (by rfl) (by rfl) (by kernel_rfl) (hp.cell 0 (by rfl) 0 _ (by rfl))) ?_
    refine sx_rd 5 (.pointer (some ⟨g_3,1,none⟩)) (by rfl) (by kernel_rfl) ?_
    refine sx_rd 6 (.int .i64 a0_1) (by rfl) (ld1 (t:=3) (p:=(.tmp 5)) (by rfl) (by rfl) (by kernel_rfl) (hp.cell 0 (by rfl) 1 _ (by rfl))) ?_
    refine sx_call 7 (by rfl) (by kernel_rfl) ((spec_l1In.calls a0_0 0 a0_1 _ _ hv_1).mono ?_)
    rintro _ W_7 ⟨rfl,hb⟩
    refine ⟨.bool false,congrArg (fun b => Ending.returned (.bool b)) (Bool.eq_false_iff.mpr hc_5),?_⟩
    replace hp:=hp.below hb.below
    clear hb
    refine sx_rd 8 (.bool false) (by rfl) (by kernel_rfl) ?_
    refine sx_skip 9 (by rfl) (by rfl) (by rfl) ?_
    refine sx_skip 10 (by rfl) (by rfl) (by rfl) ?_
    refine sx_skip 11 (by rfl) (by rfl) (by rfl) ?_
    refine sx_rd 12 (.bool false) (by rfl) (by kernel_rfl) ?_
    refine sx_rd 2 (.bool false) (by rfl) (by kernel_rfl) ?_
    refine sx_nil ?_
    refine ex_then_n ?_
    refine wp_ret ?_
    refine sx_end (.bool false) (res1 2 (by rfl)) ?_
    obtain rfl:=Option.some.inj h
    exact ⟨rfl,hc2 _ (hp.tail)⟩
end
section
open Go.RowKit Go.Proofs.YtjaojemmbeddfaaGreatW.PrintWords Go.Proofs.YtjaojemmbeddfaaGreatW.PrintLast Go.Proofs.YtjaojemmbeddfaaGreatW.PrintMore
attribute [local go_sem] max2_int min2_int max_two min_two max_three min_three max_four min_four   -- for this text's walks alone
set_option linter.unusedVariables false
set_option linter.unusedSimpArgs false

attribute [local go_sem high] eqA53
def spec_tiPlace.l0 : Nat → List (S_Tile) → Int → Int → Int → Int → Option (Int)
  | 0,_,_,_,_,_ => none
  | k + 1,x7,x8,x9,x108000,x108001 => if x9 < x8 then (if 0 ≤ x9 then (if x9 < (x7.length : Int) then (if (((rd_Tile x7 x9).f0) == x108000 && (((rd_Tile x7 x9).f1) == x108001)) = true then (some x9) else (spec_tiPlace.l0 k x7 x8 (wrap64 (x9 + 1)) x108000 x108001)) else (none)) else (none)) else (some (-1))
def spec_tiPlace.f (k : Nat) (l0 : List (S_Tile)) (a1_0 : Int) (a1_1 : Int) : Option (Int):=spec_tiPlace.l0 k l0 (l0.length : Int) 0 a1_0 a1_1
set_option maxRecDepth 100000 in
set_option maxHeartbeats 40000000 in
theorem spec_tiPlace.calls (k : Nat) (A0 : Option Addr) (c0 : Nat) (l0 : List (S_Tile)) (a1_0 : Int) (a1_1 : Int) (r : Int) (w : World) (hr0 : Kd.C k53 w A0 l0.length l0) (hc0 : l0.length ≤ c0) (h : spec_tiPlace.f k l0 a1_0 a1_1 = some r) :
    Calls Tryz.prog 71 #[.slice A0 l0.length c0,.agg #[.int .i64 a1_0,.int .i64 a1_1]] w fun e w' => e = .returned (.int .i64 r) ∧ Below w.heap.size w w':=by
  obtain ⟨cs,hcs⟩ : ∃ cs,cs = [old w w.heap.size]:=⟨_,rfl⟩
  have hp : Hp w cs w:=by rw [hcs];exact Hp.old_start w
  have hc2 : ∀ W,Hp w cs W → Below w.heap.size w W:=fun W h => by rw [hcs] at h;exact h.since 0 _ rfl
  have hC0 : ∀ W,Hp w cs W → Kd.C k53 W A0 l0.length l0:=fun W h => Kd.C_below hr0 (hc2 W h)
  clear hcs
  unfold spec_tiPlace.f at h
  refine sx_enter (N:=19) (l:=[.slice A0 l0.length c0,.agg #[.int .i64 a1_0,.int .i64 a1_1]]) Tryz.func71 rfl rfl rfl ?_
  refine wp_seq ?_
  refine sx_region ?_
  refine sx_box 3 hp #[.int .i64 a1_0,.int .i64 a1_1] 53 (by rfl) (fun W => by kernel_rfl) ?_
  intro g_1 W_2 hp
  refine sx_rd 4 (.int .i64 0) (by rfl) (by kernel_rfl) ?_
  refine sx_nil ?_
  refine ex_then_n ?_
  refine wp_seq ?_
  refine wp_seq ?_
  refine sx_region ?_
  refine sx_rd 7 (.slice A0 l0.length c0) (by rfl) (by kernel_rfl) ?_
  refine sx_rd 8 (.int .i64 (l0.length : Int)) (by rfl) (by kernel_rfl) ?_
  refine sx_rd 9 (.int .i64 0) (by rfl) (by kernel_rfl) ?_
  refine sx_nil ?_
  refine ex_then_n ?_
  refine wp_block ?_
  refine wp_loop_ghost (fun n_ a_ W => ∃ (r_ : List (Nat × Value)) (k_4 : Nat) (x_3 : Int)  , n_ = k_4 + 1 ∧ a_ = fr 19 ([(3,.pointer (some ⟨g_1,0,none⟩)),(7,.slice A0 l0.length c0),(8,.int .i64 (l0.length : Int)),(9,.int .i64 x_3)] ++ r_) ∧ Hp w (blk g_1 #[.int .i64 a1_0,.int .i64 a1_1] 53 :: cs) W ∧ (spec_tiPlace.l0 k_4 l0 (l0.length : Int) x_3 a1_0 a1_1 = some r) ∧ (k_4 ≤ k)) _ ⟨_,k,0,rfl,fr_front [(3,.pointer (some ⟨g_1,0,none⟩)),(7,.slice A0 l0.length c0),(8,.int .i64 (l0.length : Int)),(9,.int .i64 0)] ⟨rfl,rfl,rfl,rfl,trivial⟩,(hp.take [0] 1 (by decide) (by simp)),h,(Nat.le_refl _)⟩ ?_
  rintro _ _ W_6 ⟨r_,k_4,x_3,rfl,rfl,hp,h,hk_5⟩
  rcases k_4 with _|k_4
  · simp [spec_tiPlace.l0] at h
  simp only [spec_tiPlace.l0] at h
  refine wp_seq ?_
  refine sx_region ?_
  refine sx_rd 10 (.bool (decide (x_3 < (l0.length : Int)))) (by rfl) (by kernel_rfl) ?_
  refine sx_nil ?_
  refine ex_then_n ?_
  refine wp_seq ?_
  by_cases hc_7 : x_3 < (l0.length : Int)
  ·
    rw [if_pos hc_7] at h
    by_cases hc_8 : 0 ≤ x_3
    case neg => rw [if_neg hc_8] at h;cases h
    rw [if_pos hc_8] at h
    by_cases hc_9 : x_3 < (l0.length : Int)
    case neg => rw [if_neg hc_9] at h;cases h
    rw [if_pos hc_9] at h
    refine sx_then (decide (x_3 < (l0.length : Int))) (by rfl) (decide_eq_true hc_7) ?_
    refine wp_skip ?_
    refine ex_then_n ?_
    refine wp_seq ?_
    refine wp_block ?_
    refine wp_seq ?_
    refine sx_region ?_
    refine sx_rd 11 (.int .i64 x_3) (by rfl) (by kernel_rfl) ?_
    refine sx_rd 12 (.pointer (some (adr A0 x_3 2))) (by rfl) (ix_run (d:=k53) (hC0 _ hp.tail) (t:=29) (by rfl) (by rfl) (by rfl) Tryz.underlying29 (by kernel_rfl) (by omega) (by omega)) ?_
    refine sx_rd 13 (.agg #[.int .i64 ((rd_Tile l0 x_3).f0),.int .i64 ((rd_Tile l0 x_3).f1)]) (by rfl) (el_run (d:=k53) (hC0 _ hp.tail) z53 x_3 (by omega) (by omega) (cells:=[.int .i64 ((rd_Tile l0 x_3).f0),.int .i64 ((rd_Tile l0 x_3).f1)]) (fun cs h => k53_open h) 0 [.int .i64 ((rd_Tile l0 x_3).f0),.int .i64 ((rd_Tile l0 x_3).f1)] (by rfl) (t:=53) (p:=(.tmp 12)) (by rfl) (by rfl) (by kernel_rfl) (by kernel_rfl)) ?_
    refine sx_box 6 hp #[.int .i64 0,.int .i64 0] 53 (by rfl) (fun W => by kernel_rfl) ?_
    intro g_10 W_11 hp
    refine sx_rd 5 (.int .i64 x_3) (by rfl) (by kernel_rfl) ?_
    refine sx_store (t:=53) (p:=(.tmp 6)) (x:=(.tmp 13)) (by rfl) (by rfl) 0 (by rfl) 0 [.int .i64 ((rd_Tile l0 x_3).f0),.int .i64 ((rd_Tile l0 x_3).f1)] (by rfl) (by rfl) (by kernel_rfl) (by simp [Value.oneCell']) (by show 2 ≤ 2;omega) #[.int .i64 ((rd_Tile l0 x_3).f0),.int .i64 ((rd_Tile l0 x_3).f1)] (by rfl) hp ?_
    intro W_12 hp;simp only [List.set_cons_succ,List.set_cons_zero] at hp
    refine sx_nil ?_
    refine ex_then_n ?_
    refine wp_seq ?_
    refine sx_region ?_
    refine sx_rd 14 (.agg #[.int .i64 ((rd_Tile l0 x_3).f0),.int .i64 ((rd_Tile l0 x_3).f1)]) (by rfl) (ldn (t:=53) (p:=(.tmp 6)) (by rfl) (by rfl) (by kernel_rfl) (by kernel_rfl) (by kernel_rfl) (hp.at_ 0 _ (by rfl))) ?_
    refine sx_rd 15 (.agg #[.int .i64 a1_0,.int .i64 a1_1]) (by rfl) (ldn (t:=53) (p:=(.tmp 3)) (by rfl) (by rfl) (by kernel_rfl) (by kernel_rfl) (by kernel_rfl) (hp.at_ 1 _ (by rfl))) ?_
    refine sx_rd 16 (.bool ((rd_Tile l0 x_3).f0 == a1_0 && ((rd_Tile l0 x_3).f1 == a1_1))) (by rfl) (eqagg_run (by rfl) (by rfl) (by rfl) (fun d w => eqA53 d w _ _ _ _) (by kernel_rfl)) ?_
    refine sx_nil ?_
    refine ex_then_n ?_
    by_cases hc_13 : (((rd_Tile l0 x_3).f0) == a1_0 && (((rd_Tile l0 x_3).f1) == a1_1)) = true
    ·
      rw [if_pos hc_13] at h
      refine sx_then ((rd_Tile l0 x_3).f0 == a1_0 && ((rd_Tile l0 x_3).f1 == a1_1)) (by rfl) hc_13 ?_
      refine wp_seq ?_
      refine sx_region ?_
      refine sx_rd 17 (.int .i64 x_3) (by rfl) (by kernel_rfl) ?_
      refine sx_rd 4 (.int .i64 x_3) (by rfl) (by kernel_rfl) ?_
      refine sx_nil ?_
      refine ex_then_n ?_
      refine wp_ret ?_
      refine ex_blk_r (ex_then_r (ex_then_r (ex_blk_r (ex_then_r ?_))))
      refine sx_end (.int .i64 x_3) (res1 4 (by rfl)) ?_
      obtain rfl:=Option.some.inj h
      exact ⟨rfl,hc2 _ (hp.tail.tail)⟩
    ·
      rw [if_neg hc_13] at h
      refine sx_else ((rd_Tile l0 x_3).f0 == a1_0 && ((rd_Tile l0 x_3).f1 == a1_1)) (by rfl) (Bool.eq_false_iff.mpr hc_13) ?_
      refine wp_skip ?_
      refine ex_blk_n ?_
      refine ex_then_n ?_
      refine sx_region ?_
      refine sx_rd 18 (.int .i64 (wrap64 (x_3 + 1))) (by rfl) (wr_w (by kernel_rfl)) ?_
      refine sx_rd 9 (.int .i64 (wrap64 (x_3 + 1))) (by rfl) (by kernel_rfl) ?_
      refine sx_nil ?_
      refine ex_then_n ?_
      exact ⟨_,(by omega),_,k_4,(wrap64 (x_3 + 1)),rfl,fr_front [(3,.pointer (some ⟨g_1,0,none⟩)),(7,.slice A0 l0.length c0),(8,.int .i64 (l0.length : Int)),(9,.int .i64 (wrap64 (x_3 + 1)))] ⟨rfl,rfl,rfl,rfl,trivial⟩,(hp.take [1] 2 (by decide) (by simp)),h,(by omega)⟩
  ·
    rw [if_neg hc_7] at h
    refine sx_else (decide (x_3 < (l0.length : Int))) (by rfl) (decide_eq_false hc_7) ?_
    refine wp_exit ?_
    refine ex_then_e (ex_then_e (ex_blk_here ?_))
    refine ex_then_n ?_
    refine wp_seq ?_
    refine sx_region ?_
    refine sx_rd 4 (.int .i64 (-1)) (by rfl) (by kernel_rfl) ?_
    refine sx_nil ?_
    refine ex_then_n ?_
    refine wp_ret ?_
    refine sx_end (.int .i64 (-1)) (res1 4 (by rfl)) ?_
    obtain rfl:=Option.some.inj h
    exact ⟨rfl,hc2 _ (hp.tail)⟩
end
section
open Go.RowKit Go.Proofs.YtjaojemmbeddfaaGreatW.PrintWords Go.Proofs.YtjaojemmbeddfaaGreatW.PrintLast Go.Proofs.YtjaojemmbeddfaaGreatW.PrintMore
attribute [local go_sem] max2_int min2_int max_two min_two max_three min_three max_four min_four   -- for this text's walks alone
set_option linter.unusedVariables false
set_option linter.unusedSimpArgs false

def spec_tiHand.l0 : Nat → List (S_Tile) → List (S_Tile) → Int → Int → Option (Bool)
  | 0,_,_,_,_ => none
  | k + 1,x0,x8,x9,x10 => if x10 < x9 then (if 0 ≤ x10 then (if x10 < (x8.length : Int) then ((spec_tiGood.f ((rd_Tile x8 x10).f0) ((rd_Tile x8 x10).f1)).bind fun t112 => (if t112 = true then (if x10 ≤ (x0.length : Int) then ((spec_tiPlace.f k (x0.take (x10 : Int).toNat) ((rd_Tile x8 x10).f0) ((rd_Tile x8 x10).f1)).bind fun t117 => (if t117 ≥ 0 then (some false) else (spec_tiHand.l0 k x0 x8 x9 (wrap64 (x10 + 1))))) else (none)) else (some false))) else (none)) else (none)) else (some true)
def spec_tiHand.f (k : Nat) (l0 : List (S_Tile)) : Option (Bool):=if (l0.length : Int) > 55 then (some false) else (spec_tiHand.l0 k l0 l0 (l0.length : Int) 0)
set_option maxRecDepth 100000 in
set_option maxHeartbeats 40000000 in
theorem spec_tiHand.calls (k : Nat) (A0 : Option Addr) (c0 : Nat) (l0 : List (S_Tile)) (r : Bool) (w : World) (hr0 : Kd.C k53 w A0 l0.length l0) (hc0 : l0.length ≤ c0) (h : spec_tiHand.f k l0 = some r) :
    Calls Tryz.prog 41 #[.slice A0 l0.length c0] w fun e w' => e = .returned (.bool r) ∧ Below w.heap.size w w':=by
  obtain ⟨cs,hcs⟩ : ∃ cs,cs = [old w w.heap.size]:=⟨_,rfl⟩
  have hp : Hp w cs w:=by rw [hcs];exact Hp.old_start w
  have hc2 : ∀ W,Hp w cs W → Below w.heap.size w W:=fun W h => by rw [hcs] at h;exact h.since 0 _ rfl
  have hC0 : ∀ W,Hp w cs W → Kd.C k53 W A0 l0.length l0:=fun W h => Kd.C_below hr0 (hc2 W h)
  clear hcs
  unfold spec_tiHand.f at h
  refine sx_enter (N:=27) (l:=[.slice A0 l0.length c0]) Tryz.func41 rfl rfl rfl ?_
  refine wp_seq ?_
  refine sx_region ?_
  refine sx_rd 2 (.bool false) (by rfl) (by kernel_rfl) ?_
  refine sx_nil ?_
  refine ex_then_n ?_
  refine wp_seq ?_
  refine wp_seq ?_
  refine sx_region ?_
  refine sx_rd 5 (.slice A0 l0.length c0) (by rfl) (by kernel_rfl) ?_
  refine sx_rd 6 (.int .i64 (l0.length : Int)) (by rfl) (by kernel_rfl) ?_
  refine sx_rd 7 (.bool (decide ((l0.length : Int) > 55))) (by rfl) (by kernel_rfl) ?_
  refine sx_nil ?_
  refine ex_then_n ?_
  by_cases hc_1 : (l0.length : Int) > 55
  ·
    rw [if_pos hc_1] at h
    refine sx_then (decide ((l0.length : Int) > 55)) (by rfl) (decide_eq_true hc_1) ?_
    refine wp_seq ?_
    refine sx_region ?_
    refine sx_rd 2 (.bool false) (by rfl) (by kernel_rfl) ?_
    refine sx_nil ?_
    refine ex_then_n ?_
    refine wp_ret ?_
    refine ex_then_r ?_
    refine sx_end (.bool false) (res1 2 (by rfl)) ?_
    obtain rfl:=Option.some.inj h
    exact ⟨rfl,hc2 _ (hp)⟩
  ·
    rw [if_neg hc_1] at h
    refine sx_else (decide ((l0.length : Int) > 55)) (by rfl) (decide_eq_false hc_1) ?_
    refine wp_skip ?_
    refine ex_then_n ?_
    refine wp_seq ?_
    refine wp_seq ?_
    refine sx_region ?_
    refine sx_rd 8 (.slice A0 l0.length c0) (by rfl) (by kernel_rfl) ?_
    refine sx_rd 9 (.int .i64 (l0.length : Int)) (by rfl) (by kernel_rfl) ?_
    refine sx_rd 10 (.int .i64 0) (by rfl) (by kernel_rfl) ?_
    refine sx_nil ?_
    refine ex_then_n ?_
    refine wp_block ?_
    refine wp_loop_ghost (fun n_ a_ W => ∃ (r_ : List (Nat × Value)) (k_3 : Nat) (x_2 : Int)  , n_ = k_3 + 1 ∧ a_ = fr 27 ([(0,.slice A0 l0.length c0),(8,.slice A0 l0.length c0),(9,.int .i64 (l0.length : Int)),(10,.int .i64 x_2)] ++ r_) ∧ Hp w (cs) W ∧ (spec_tiHand.l0 k_3 l0 l0 (l0.length : Int) x_2 = some r) ∧ (k_3 ≤ k)) _ ⟨_,k,0,rfl,fr_front [(0,.slice A0 l0.length c0),(8,.slice A0 l0.length c0),(9,.int .i64 (l0.length : Int)),(10,.int .i64 0)] ⟨rfl,rfl,rfl,rfl,trivial⟩,(hp.take [] 0 (by decide) (by simp)),h,(Nat.le_refl _)⟩ ?_
    rintro _ _ W_5 ⟨r_,k_3,x_2,rfl,rfl,hp,h,hk_4⟩
    rcases k_3 with _|k_3
    · simp [spec_tiHand.l0] at h
    simp only [spec_tiHand.l0] at h
    refine wp_seq ?_
    refine sx_region ?_
    refine sx_rd 11 (.bool (decide (x_2 < (l0.length : Int)))) (by rfl) (by kernel_rfl) ?_
    refine sx_nil ?_
    refine ex_then_n ?_
    refine wp_seq ?_
    by_cases hc_6 : x_2 < (l0.length : Int)
    ·
      rw [if_pos hc_6] at h
      by_cases hc_7 : 0 ≤ x_2
      case neg => rw [if_neg hc_7] at h;cases h
      rw [if_pos hc_7] at h
      by_cases hc_8 : x_2 < (l0.length : Int)
      case neg => rw [if_neg hc_8] at h;cases h
      rw [if_pos hc_8] at h
      obtain ⟨t_10,hv_9,h⟩:=Option.bind_eq_some_iff.mp h
      try dsimp only at h
      refine sx_then (decide (x_2 < (l0.length : Int))) (by rfl) (decide_eq_true hc_6) ?_
      refine wp_skip ?_
      refine ex_then_n ?_
      refine wp_seq ?_
      refine wp_block ?_
      refine wp_seq ?_
      refine sx_region ?_
      refine sx_rd 12 (.int .i64 x_2) (by rfl) (by kernel_rfl) ?_
      refine sx_rd 13 (.pointer (some (adr A0 x_2 2))) (by rfl) (ix_run (d:=k53) (hC0 _ hp) (t:=29) (by rfl) (by rfl) (by rfl) Tryz.underlying29 (by kernel_rfl) (by omega) (by omega)) ?_
      refine sx_rd 14 (.agg #[.int .i64 ((rd_Tile l0 x_2).f0),.int .i64 ((rd_Tile l0 x_2).f1)]) (by rfl) (el_run (d:=k53) (hC0 _ hp) z53 x_2 (by omega) (by omega) (cells:=[.int .i64 ((rd_Tile l0 x_2).f0),.int .i64 ((rd_Tile l0 x_2).f1)]) (fun cs h => k53_open h) 0 [.int .i64 ((rd_Tile l0 x_2).f0),.int .i64 ((rd_Tile l0 x_2).f1)] (by rfl) (t:=53) (p:=(.tmp 13)) (by rfl) (by rfl) (by kernel_rfl) (by kernel_rfl)) ?_
      refine sx_box 4 hp #[.int .i64 0,.int .i64 0] 53 (by rfl) (fun W => by kernel_rfl) ?_
      intro g_11 W_12 hp
      refine sx_rd 3 (.int .i64 x_2) (by rfl) (by kernel_rfl) ?_
      refine sx_store (t:=53) (p:=(.tmp 4)) (x:=(.tmp 14)) (by rfl) (by rfl) 0 (by rfl) 0 [.int .i64 ((rd_Tile l0 x_2).f0),.int .i64 ((rd_Tile l0 x_2).f1)] (by rfl) (by rfl) (by kernel_rfl) (by simp [Value.oneCell']) (by show 2 ≤ 2;omega) #[.int .i64 ((rd_Tile l0 x_2).f0),.int .i64 ((rd_Tile l0 x_2).f1)] (by rfl) hp ?_
      intro W_13 hp;simp only [List.set_cons_succ,List.set_cons_zero] at hp
      refine sx_nil ?_
      refine ex_then_n ?_
      refine wp_seq ?_
      by_cases hc_14 : t_10 = true
      ·
        rw [if_pos hc_14] at h
        by_cases hc_15 : x_2 ≤ (l0.length : Int)
        case neg => rw [if_neg hc_15] at h;cases h
        rw [if_pos hc_15] at h
        obtain ⟨t_17,hv_16,h⟩:=Option.bind_eq_some_iff.mp h
        try dsimp only at h
        refine sx_drawT [] (.rd 0 (.alt 1 (.rd 2 (.rd 3 (.rd 4 (.rd 5 (.rd 7 (.alt 6 (.alt 8 (.rd 9 (.rd 10 (.fin))) .non) .non)))))) .non)) 11 (C:=Hp w (blk g_11 #[.int .i64 ((rd_Tile l0 x_2).f0),.int .i64 ((rd_Tile l0 x_2).f1)] 53 :: cs)) (by kernel_rfl) (by kernel_rfl) (fun d _ _ _ _ h => by cases d <;> exact h) (fun W h => h.drew) hp ?_
        refine preI_nil ?_
        intro W_18 hp
        refine treeI_rd rfl ?_
        refine sxq_val 15 (.agg #[.int .i64 ((rd_Tile l0 x_2).f0),.int .i64 ((rd_Tile l0 x_2).f1)]) (by rfl) (fun W hp => (ldn (t:=53) (p:=(.tmp 4)) (by rfl) (by rfl) (by kernel_rfl) (by kernel_rfl) (by kernel_rfl) (hp.at_ 0 _ (by rfl)))) ?_
        refine sxq_nil ?_
        refine treeI_ev rfl ?_
        refine sx_call 16 (by rfl) (by kernel_rfl) ((spec_tiGood.calls ((rd_Tile l0 x_2).f0) ((rd_Tile l0 x_2).f1) _ _ hv_9).mono ?_)
        rintro _ W_19 ⟨rfl,hb⟩
        refine ⟨_,rfl,?_⟩
        replace hp:=hp.below hb
        clear hb
        refine step_fin hp ?_
        refine treeI_rd rfl ?_
        refine sxq_val 17 (.bool false) (by rfl) (fun W hp => (bv (show (!t_10) = false from by rw [hc_14];rfl) (by kernel_rfl))) ?_
        refine sxq_nil ?_
        refine treeI_rd rfl ?_
        refine sxq_val 18 (.bool false) (by rfl) (fun W hp => (by kernel_rfl)) ?_
        refine sxq_nil ?_
        refine treeI_rd rfl ?_
        refine sxq_want (by rfl) ?_
        refine sxq_val 19 (.slice A0 l0.length c0) (by rfl) (fun W hp => (by kernel_rfl)) ?_
        refine sxq_nil ?_
        refine treeI_rd rfl ?_
        refine sxq_want (by rfl) ?_
        refine sxq_val 20 (.int .i64 x_2) (by rfl) (fun W hp => (by kernel_rfl)) ?_
        refine sxq_nil ?_
        refine treeI_rd rfl ?_
        refine sxq_want (by rfl) ?_
        refine sxq_val 22 (.agg #[.int .i64 ((rd_Tile l0 x_2).f0),.int .i64 ((rd_Tile l0 x_2).f1)]) (by rfl) (fun W hp => (ldn (t:=53) (p:=(.tmp 4)) (by rfl) (by rfl) (by kernel_rfl) (by kernel_rfl) (by kernel_rfl) (hp.at_ 0 _ (by rfl)))) ?_
        refine sxq_nil ?_
        refine treeI_ev rfl ?_
        refine sx_want (by rfl) ?_
        have hcap_20 : l0.length ≤ c0:=hc0
        refine sx_rd 21 (.slice A0 ((l0.take (x_2).toNat).length) c0) (by rfl) (sl_hi (x_2).toNat (sz:=2) (xs:=l0) (by rfl) (by rfl) (by rfl) (by omega) Tryz.underlying29 (by kernel_rfl) (by omega) hcap_20) ?_
        refine step_fin hp ?_
        refine treeI_ev rfl ?_
        refine sx_want (by rfl) ?_
        refine sx_call 23 (by rfl) (by kernel_rfl) ((spec_tiPlace.calls _ A0 c0 (l0.take (x_2).toNat) ((rd_Tile l0 x_2).f0) ((rd_Tile l0 x_2).f1) _ _ (Kd.C_take (hC0 _ hp.tail) (by omega)) (show (l0.take (x_2).toNat).length ≤ c0 by simp;omega) hv_16).mono ?_)
        rintro _ W_21 ⟨rfl,hb⟩
        refine ⟨_,rfl,?_⟩
        replace hp:=hp.below hb
        clear hb
        refine step_fin hp ?_
        refine treeI_rd rfl ?_
        refine sxq_want (by rfl) ?_
        refine sxq_val 24 (.bool (decide (t_17 ≥ 0))) (by rfl) (fun W hp => (by kernel_rfl)) ?_
        refine sxq_nil ?_
        refine treeI_rd rfl ?_
        refine sxq_val 25 (.bool (decide (t_17 ≥ 0))) (by rfl) (fun W hp => (by kernel_rfl)) ?_
        refine sxq_nil ?_
        refine treeI_fin ?_
        refine sx_nil ?_
        refine ex_then_n ?_
        by_cases hc_22 : t_17 ≥ 0
        ·
          rw [if_pos hc_22] at h
          refine sx_then (decide (t_17 ≥ 0)) (by rfl) (decide_eq_true hc_22) ?_
          refine wp_seq ?_
          refine sx_region ?_
          refine sx_rd 2 (.bool false) (by rfl) (by kernel_rfl) ?_
          refine sx_nil ?_
          refine ex_then_n ?_
          refine wp_ret ?_
          refine ex_blk_r (ex_then_r (ex_then_r (ex_blk_r (ex_then_r ?_))))
          refine sx_end (.bool false) (res1 2 (by rfl)) ?_
          obtain rfl:=Option.some.inj h
          exact ⟨rfl,hc2 _ (hp.tail)⟩
        ·
          rw [if_neg hc_22] at h
          refine sx_else (decide (t_17 ≥ 0)) (by rfl) (decide_eq_false hc_22) ?_
          refine wp_skip ?_
          refine ex_blk_n ?_
          refine ex_then_n ?_
          refine sx_region ?_
          refine sx_rd 26 (.int .i64 (wrap64 (x_2 + 1))) (by rfl) (wr_w (by kernel_rfl)) ?_
          refine sx_rd 10 (.int .i64 (wrap64 (x_2 + 1))) (by rfl) (by kernel_rfl) ?_
          refine sx_nil ?_
          refine ex_then_n ?_
          exact ⟨_,(by omega),_,k_3,(wrap64 (x_2 + 1)),rfl,fr_front [(0,.slice A0 l0.length c0),(8,.slice A0 l0.length c0),(9,.int .i64 (l0.length : Int)),(10,.int .i64 (wrap64 (x_2 + 1)))] ⟨rfl,rfl,rfl,rfl,trivial⟩,(hp.take [] 1 (by decide) (by simp)),h,(by omega)⟩
      ·
        rw [if_neg hc_14] at h
        refine sx_drawT [] (.rd 0 (.alt 1 (.rd 2 (.rd 3 (.rd 4 (.rd 5 (.rd 7 (.alt 6 (.alt 8 (.rd 9 (.rd 10 (.fin))) .non) .non)))))) .non)) 11 (C:=Hp w (blk g_11 #[.int .i64 ((rd_Tile l0 x_2).f0),.int .i64 ((rd_Tile l0 x_2).f1)] 53 :: cs)) (by kernel_rfl) (by kernel_rfl) (fun d _ _ _ _ h => by cases d <;> exact h) (fun W h => h.drew) hp ?_
        refine preI_nil ?_
        intro W_23 hp
        refine treeI_rd rfl ?_
        refine sxq_val 15 (.agg #[.int .i64 ((rd_Tile l0 x_2).f0),.int .i64 ((rd_Tile l0 x_2).f1)]) (by rfl) (fun W hp => (ldn (t:=53) (p:=(.tmp 4)) (by rfl) (by rfl) (by kernel_rfl) (by kernel_rfl) (by kernel_rfl) (hp.at_ 0 _ (by rfl)))) ?_
        refine sxq_nil ?_
        refine treeI_ev rfl ?_
        refine sx_call 16 (by rfl) (by kernel_rfl) ((spec_tiGood.calls ((rd_Tile l0 x_2).f0) ((rd_Tile l0 x_2).f1) _ _ hv_9).mono ?_)
        rintro _ W_24 ⟨rfl,hb⟩
        refine ⟨_,rfl,?_⟩
        replace hp:=hp.below hb
        clear hb
        refine step_fin hp ?_
        refine treeI_rd rfl ?_
        refine sxq_val 17 (.bool true) (by rfl) (fun W hp => (bv (show (!t_10) = true from by rw [(Bool.eq_false_iff.mpr hc_14)];rfl) (by kernel_rfl))) ?_
        refine sxq_nil ?_
        refine treeI_rd rfl ?_
        refine sxq_val 18 (.bool true) (by rfl) (fun W hp => (by kernel_rfl)) ?_
        refine sxq_nil ?_
        refine treeI_rd rfl ?_
        refine sxq_skip 19 (by rfl) (by rfl) (by rfl) ?_
        refine sxq_nil ?_
        refine treeI_rd rfl ?_
        refine sxq_skip 20 (by rfl) (by rfl) (by rfl) ?_
        refine sxq_nil ?_
        refine treeI_rd rfl ?_
        refine sxq_skip 22 (by rfl) (by rfl) (by rfl) ?_
        refine sxq_nil ?_
        refine treeI_ev rfl ?_
        refine sx_skip 21 (by rfl) (by rfl) (by rfl) ?_
        refine step_fin hp ?_
        refine treeI_ev rfl ?_
        refine sx_skip 23 (by rfl) (by rfl) (by rfl) ?_
        refine step_fin hp ?_
        refine treeI_rd rfl ?_
        refine sxq_skip 24 (by rfl) (by rfl) (by rfl) ?_
        refine sxq_nil ?_
        refine treeI_rd rfl ?_
        refine sxq_val 25 (.bool true) (by rfl) (fun W hp => (by kernel_rfl)) ?_
        refine sxq_nil ?_
        refine treeI_fin ?_
        refine sx_nil ?_
        refine ex_then_n ?_
        refine sx_then true (by rfl) rfl ?_
        refine wp_seq ?_
        refine sx_region ?_
        refine sx_rd 2 (.bool false) (by rfl) (by kernel_rfl) ?_
        refine sx_nil ?_
        refine ex_then_n ?_
        refine wp_ret ?_
        refine ex_blk_r (ex_then_r (ex_then_r (ex_blk_r (ex_then_r ?_))))
        refine sx_end (.bool false) (res1 2 (by rfl)) ?_
        obtain rfl:=Option.some.inj h
        exact ⟨rfl,hc2 _ (hp.tail)⟩
    ·
      rw [if_neg hc_6] at h
      refine sx_else (decide (x_2 < (l0.length : Int))) (by rfl) (decide_eq_false hc_6) ?_
      refine wp_exit ?_
      refine ex_then_e (ex_then_e (ex_blk_here ?_))
      refine ex_then_n ?_
      refine wp_seq ?_
      refine sx_region ?_
      refine sx_rd 2 (.bool true) (by rfl) (by kernel_rfl) ?_
      refine sx_nil ?_
      refine ex_then_n ?_
      refine wp_ret ?_
      refine sx_end (.bool true) (res1 2 (by rfl)) ?_
      obtain rfl:=Option.some.inj h
      exact ⟨rfl,hc2 _ (hp)⟩
end
section
open Go.RowKit Go.Proofs.YtjaojemmbeddfaaGreatW.PrintWords Go.Proofs.YtjaojemmbeddfaaGreatW.PrintLast Go.Proofs.YtjaojemmbeddfaaGreatW.PrintMore
attribute [local go_sem] max2_int min2_int max_two min_two max_three min_three max_four min_four   -- for this text's walks alone
set_option linter.unusedVariables false
set_option linter.unusedSimpArgs false

def spec_tiOf.f (a0 : Int) (a1 : Int) : Option (Int × Int):=(spec_l1Least.f a0 a1).bind fun t121 => ((spec_l1Most.f a0 a1).bind fun t122 => (some (t121,t122)))
set_option maxRecDepth 100000 in
set_option maxHeartbeats 40000000 in
theorem spec_tiOf.calls (a0 : Int) (a1 : Int) (r1 : Int) (r2 : Int) (w : World) (h : spec_tiOf.f a0 a1 = some (r1,r2)) :
    Calls Tryz.prog 91 #[.int .i64 a0,.int .i64 a1] w fun e w' => e = .returned (.agg #[.int .i64 r1,.int .i64 r2]) ∧ Below w.heap.size w w':=by
  obtain ⟨cs,hcs⟩ : ∃ cs,cs = [old w w.heap.size]:=⟨_,rfl⟩
  have hp : Hp w cs w:=by rw [hcs];exact Hp.old_start w
  have hc2 : ∀ W,Hp w cs W → Below w.heap.size w W:=fun W h => by rw [hcs] at h;exact h.since 0 _ rfl
  clear hcs
  unfold spec_tiOf.f at h
  obtain ⟨t_2,hv_1,h⟩:=Option.bind_eq_some_iff.mp h
  try dsimp only at h
  obtain ⟨t_4,hv_3,h⟩:=Option.bind_eq_some_iff.mp h
  try dsimp only at h
  refine sx_enter (N:=12) (l:=[.int .i64 a0,.int .i64 a1]) Tryz.func91 rfl rfl rfl ?_
  refine wp_seq ?_
  refine sx_region ?_
  refine sx_box 4 hp #[.int .i64 0,.int .i64 0] 53 (by rfl) (fun W => by kernel_rfl) ?_
  intro g_5 W_6 hp
  refine sx_nil ?_
  refine ex_then_n ?_
  refine wp_seq ?_
  refine sx_region ?_
  refine sx_rd 5 (.int .i64 a0) (by rfl) (by kernel_rfl) ?_
  refine sx_rd 6 (.int .i64 a1) (by rfl) (by kernel_rfl) ?_
  refine sx_call 7 (by rfl) (by kernel_rfl) ((spec_l1Least.calls a0 a1 _ _ hv_1).mono ?_)
  rintro _ W_7 ⟨rfl,hb⟩
  refine ⟨_,rfl,?_⟩
  replace hp:=hp.below hb.below
  clear hb
  refine sx_rd 8 (.int .i64 a0) (by rfl) (by kernel_rfl) ?_
  refine sx_rd 9 (.int .i64 a1) (by rfl) (by kernel_rfl) ?_
  refine sx_call 10 (by rfl) (by kernel_rfl) ((spec_l1Most.calls a0 a1 _ _ hv_3).mono ?_)
  rintro _ W_8 ⟨rfl,hb⟩
  refine ⟨_,rfl,?_⟩
  replace hp:=hp.below hb.below
  clear hb
  refine sx_rd 11 (.agg #[.int .i64 t_2,.int .i64 t_4]) (by rfl) (by kernel_rfl) ?_
  refine sx_store (t:=53) (p:=(.tmp 4)) (x:=(.tmp 11)) (by rfl) (by rfl) 0 (by rfl) 0 [.int .i64 t_2,.int .i64 t_4] (by rfl) (by rfl) (by kernel_rfl) (by simp [Value.oneCell']) (by show 2 ≤ 2;omega) #[.int .i64 t_2,.int .i64 t_4] (by rfl) hp ?_
  intro W_9 hp;simp only [List.set_cons_succ,List.set_cons_zero] at hp
  refine sx_nil ?_
  refine ex_then_n ?_
  refine wp_ret ?_
  refine sx_end (.agg #[.int .i64 t_2,.int .i64 t_4]) (resc (by rfl) (by rfl) (by kernel_rfl) (by kernel_rfl) (hp.at_ 0 _ (by rfl))) ?_
  simp only [Option.some.injEq,Prod.mk.injEq] at h;obtain ⟨rfl,rfl⟩:=h
  exact ⟨rfl,hc2 _ (hp.tail)⟩
end
section
open Go.RowKit Go.Proofs.YtjaojemmbeddfaaGreatW.PrintWords Go.Proofs.YtjaojemmbeddfaaGreatW.PrintLast Go.Proofs.YtjaojemmbeddfaaGreatW.PrintMore
attribute [local go_sem] max2_int min2_int max_two min_two max_three min_three max_four min_four   -- for this text's walks alone
set_option linter.unusedVariables false
set_option linter.unusedSimpArgs false

mutual
def spec_whChain.j0 : Nat → List Int → Bool → Option ((List (S_Tile)) × Bool)
  | 0,_,_ => none
  | k + 1,x0,x14 => if x14 = true then (some (([] : List (S_Tile)),false)) else (spec_whChain.l0 k x0 ([] : List (S_Tile)) 1)
def spec_whChain.l0 : Nat → List Int → List (S_Tile) → Int → Option ((List (S_Tile)) × Bool)
  | 0,_,_,_ => none
  | k + 1,x0,x4,x5 => if x5 < (x0.length : Int) then (if 0 ≤ (wrap64 (x5 - 1)) then (if (wrap64 (x5 - 1)) < (x0.length : Int) then (if 0 ≤ x5 then ((spec_tiOf.f (rd x0 (wrap64 (x5 - 1))) (rd x0 x5)).bind fun bt127 => (if x4.length < 8796093022208 then (spec_whChain.l0 k x0 (x4 ++ [(⟨bt127.1,bt127.2⟩ : S_Tile)]) (wrap64 (x5 + 1))) else (none))) else (none)) else (none)) else (none)) else ((spec_tiHand.f k x4).bind fun t132 => (some (x4,t132)))
end
def spec_whChain.f (k : Nat) (l0 : List Int) : Option ((List (S_Tile)) × Bool):=(spec_l1In.f (l0.length : Int) 1 56).bind fun t123 => (if t123 = true then ((spec_l1All.f k l0 0 9).bind fun t124 => (spec_whChain.j0 k l0 (!t124))) else (spec_whChain.j0 k l0 true))
set_option maxRecDepth 100000 in
set_option maxHeartbeats 40000000 in
theorem spec_whChain.calls (k : Nat) (A0 : Option Addr) (c0 : Nat) (l0 : List Int) (r1 : List (S_Tile)) (r2 : Bool) (w : World) (hr0 : Kd.C (Kd.int .i64) w A0 l0.length l0) (hc0 : l0.length ≤ c0) (h : spec_whChain.f k l0 = some (r1,r2)) :
    Calls Tryz.prog 69 #[.slice A0 l0.length c0] w fun e w' => ∃ v0_ : Value,e = .returned (.tuple #[v0_,.bool r2]) ∧ Kd.R k53 53 w' w.heap.size (fun _ => True) v0_ r1 ∧ Below w.heap.size w w':=by
  obtain ⟨cs,hcs⟩ : ∃ cs,cs = [old w w.heap.size]:=⟨_,rfl⟩
  have hp : Hp w cs w:=by rw [hcs];exact Hp.old_start w
  have hc2 : ∀ W,Hp w cs W → Below w.heap.size w W:=fun W h => by rw [hcs] at h;exact h.since 0 _ rfl
  have hC0 : ∀ W,Hp w cs W → Kd.C (Kd.int .i64) W A0 l0.length l0:=fun W h => Kd.C_below hr0 (hc2 W h)
  clear hcs
  unfold spec_whChain.f at h
  obtain ⟨t_2,hv_1,h⟩:=Option.bind_eq_some_iff.mp h
  try dsimp only at h
  refine sx_enter (N:=37) (l:=[.slice A0 l0.length c0]) Tryz.func69 rfl rfl rfl ?_
  refine wp_seq ?_
  refine sx_region ?_
  refine sx_rd 2 (.slice none 0 0) (by rfl) (by kernel_rfl) ?_
  refine sx_rd 3 (.bool false) (by rfl) (by kernel_rfl) ?_
  refine sx_nil ?_
  refine ex_then_n ?_
  refine wp_seq ?_
  refine wp_seq ?_
  by_cases hc_3 : t_2 = true
  ·
    rw [if_pos hc_3] at h
    obtain ⟨t_5,hv_4,h⟩:=Option.bind_eq_some_iff.mp h
    try dsimp only at h
    rcases k with _|k
    · simp [spec_whChain.j0] at h
    simp only [spec_whChain.j0] at h
    refine sx_region ?_
    refine sx_rd 6 (.slice A0 l0.length c0) (by rfl) (by kernel_rfl) ?_
    refine sx_rd 7 (.int .i64 (l0.length : Int)) (by rfl) (by kernel_rfl) ?_
    refine sx_call 8 (by rfl) (by kernel_rfl) ((spec_l1In.calls (l0.length : Int) 1 56 _ _ hv_1).mono ?_)
    rintro _ W_6 ⟨rfl,hb⟩
    refine ⟨_,rfl,?_⟩
    replace hp:=hp.below hb.below
    clear hb
    refine sx_rd 9 (.bool false) (by rfl) (bv (show (!t_2) = false from by rw [hc_3];rfl) (by kernel_rfl)) ?_
    refine sx_rd 10 (.bool false) (by rfl) (by kernel_rfl) ?_
    refine sx_want (by rfl) ?_
    refine sx_rd 11 (.slice A0 l0.length c0) (by rfl) (by kernel_rfl) ?_
    refine sx_want (by rfl) ?_
    refine sx_call 12 (by rfl) (by kernel_rfl) ((spec_l1All.calls _ A0 c0 l0 0 9 _ _ (hC0 _ hp) hc0 hv_4).mono ?_)
    rintro _ W_7 ⟨rfl,hb⟩
    refine ⟨_,rfl,?_⟩
    replace hp:=hp.below hb.below
    clear hb
    refine sx_want (by rfl) ?_
    refine sx_rd 13 (.bool (!t_5)) (by rfl) (by kernel_rfl) ?_
    refine sx_rd 14 (.bool (!t_5)) (by rfl) (by kernel_rfl) ?_
    refine sx_nil ?_
    refine ex_then_n ?_
    by_cases hc_8 : (!t_5) = true
    ·
      rw [if_pos hc_8] at h
      refine sx_then (!t_5) (by rfl) hc_8 ?_
      refine wp_seq ?_
      refine sx_region ?_
      refine sx_rd 2 (.slice none 0 0) (by rfl) (by kernel_rfl) ?_
      refine sx_rd 3 (.bool false) (by rfl) (by kernel_rfl) ?_
      refine sx_nil ?_
      refine ex_then_n ?_
      refine wp_ret ?_
      refine ex_then_r ?_
      refine sx_end (.tuple #[.slice none 0 0,.bool false]) (res2 2 3 (by rfl)) ?_
      simp only [Option.some.injEq,Prod.mk.injEq] at h;obtain ⟨rfl,rfl⟩:=h
      exact ⟨_,rfl,Kd.R_nil _ _ _ _ _,hc2 _ (hp)⟩
    ·
      rw [if_neg hc_8] at h
      refine sx_else (!t_5) (by rfl) (Bool.eq_false_iff.mpr hc_8) ?_
      refine wp_skip ?_
      refine ex_then_n ?_
      refine wp_seq ?_
      refine sx_region ?_
      refine sx_rd 4 (.slice none 0 0) (by rfl) (by kernel_rfl) ?_
      refine sx_nil ?_
      refine ex_then_n ?_
      refine wp_seq ?_
      refine wp_seq ?_
      refine sx_region ?_
      refine sx_rd 5 (.int .i64 1) (by rfl) (by kernel_rfl) ?_
      refine sx_nil ?_
      refine ex_then_n ?_
      refine wp_block ?_
      have hp:=hp.nilrow k53 53 w.heap.size
      refine wp_loop_ghost (fun n_ a_ W => ∃ (r_ : List (Nat × Value)) (k_11 : Nat) (x_10 : Int) (x_9 : List (S_Tile)) (A_12 : Option Addr) (n_13 c_14 : Nat) (F_15 : Nat → Prop),n_ = k_11 + 1 ∧ a_ = fr 37 ([(0,.slice A0 l0.length c0),(4,.slice A_12 n_13 c_14),(5,.int .i64 x_10)] ++ r_) ∧ Hp w (row k53 53 w.heap.size (.slice A_12 n_13 c_14) x_9 F_15 :: cs) W ∧ (spec_whChain.l0 k_11 l0 x_9 x_10 = some (r1,r2)) ∧ (k_11 ≤ k)) _ ⟨_,k,1,([] : List (S_Tile)),_,_,_,_,rfl,fr_front [(0,.slice A0 l0.length c0),(4,.slice none 0 0),(5,.int .i64 1)] ⟨rfl,rfl,rfl,trivial⟩,(hp.take [0] 1 (by decide) (by simp)),h,(Nat.le_refl _)⟩ ?_
      rintro _ _ W_17 ⟨r_,k_11,x_10,x_9,A_12,n_13,c_14,F_15,rfl,rfl,hp,h,hk_16⟩
      obtain ⟨rfl,-⟩:=row_len (hp.at_ 0 _ (by rfl))
      rcases k_11 with _|k_11
      · simp [spec_whChain.l0] at h
      simp only [spec_whChain.l0] at h
      refine wp_seq ?_
      refine wp_seq ?_
      refine sx_region ?_
      refine sx_rd 15 (.int .i64 x_10) (by rfl) (by kernel_rfl) ?_
      refine sx_rd 16 (.slice A0 l0.length c0) (by rfl) (by kernel_rfl) ?_
      refine sx_rd 17 (.int .i64 (l0.length : Int)) (by rfl) (by kernel_rfl) ?_
      refine sx_rd 18 (.bool (decide (x_10 < (l0.length : Int)))) (by rfl) (by kernel_rfl) ?_
      refine sx_nil ?_
      refine ex_then_n ?_
      by_cases hc_18 : x_10 < (l0.length : Int)
      ·
        rw [if_pos hc_18] at h
        by_cases hc_19 : 0 ≤ (wrap64 (x_10 - 1))
        case neg => rw [if_neg hc_19] at h;cases h
        rw [if_pos hc_19] at h
        by_cases hc_20 : (wrap64 (x_10 - 1)) < (l0.length : Int)
        case neg => rw [if_neg hc_20] at h;cases h
        rw [if_pos hc_20] at h
        by_cases hc_21 : 0 ≤ x_10
        case neg => rw [if_neg hc_21] at h;cases h
        rw [if_pos hc_21] at h
        obtain ⟨⟨t_23,t_24⟩,hv_22,h⟩:=Option.bind_eq_some_iff.mp h
        try dsimp only at h
        by_cases hc_25 : x_9.length < 8796093022208
        case neg => rw [if_neg hc_25] at h;cases h
        rw [if_pos hc_25] at h
        refine sx_then (decide (x_10 < (l0.length : Int))) (by rfl) (decide_eq_true hc_18) ?_
        refine wp_skip ?_
        refine ex_then_n ?_
        refine wp_seq ?_
        refine wp_block ?_
        refine sx_drawT [0,1,2,3,6,7] (.rd 4 (.rd 5 (.rd 8 (.rd 9 (.alt 10 (.alt 11 (.fin) .non) .non))))) 12 (C:=Hp w (row k53 53 w.heap.size (.slice A_12 x_9.length c_14) x_9 F_15 :: cs)) (by kernel_rfl) (by kernel_rfl) (fun d _ _ _ _ h => by cases d <;> exact h) (fun W h => h.drew) hp ?_
        refine preI_read rfl ?_
        refine sxq_val 21 (.slice A_12 x_9.length c_14) (by rfl) (fun W _ => (by kernel_rfl)) ?_
        refine sxq_nil ?_
        refine preI_read rfl ?_
        refine sxq_val 22 (.slice A0 l0.length c0) (by rfl) (fun W _ => (by kernel_rfl)) ?_
        refine sxq_nil ?_
        refine preI_read rfl ?_
        refine sxq_val 23 (.int .i64 x_10) (by rfl) (fun W _ => (by kernel_rfl)) ?_
        refine sxq_nil ?_
        refine preI_read rfl ?_
        refine sxq_val 24 (.int .i64 (wrap64 (x_10 - 1))) (by rfl) (fun W _ => (wr_w (by kernel_rfl))) ?_
        refine sxq_nil ?_
        refine preI_read rfl ?_
        refine sxq_val 27 (.slice A0 l0.length c0) (by rfl) (fun W _ => (by kernel_rfl)) ?_
        refine sxq_nil ?_
        refine preI_read rfl ?_
        refine sxq_val 28 (.int .i64 x_10) (by rfl) (fun W _ => (by kernel_rfl)) ?_
        refine sxq_nil ?_
        refine preI_nil ?_
        intro W_26 hp
        refine treeI_rd rfl ?_
        refine sxq_val 25 (.pointer (some (adr A0 (wrap64 (x_10 - 1)) 1))) (by rfl) (fun W hp => (ix_run (d:=(Kd.int .i64)) (hC0 _ hp.tail) (t:=23) (by rfl) (by rfl) (by rfl) Tryz.underlying23 (by kernel_rfl) (by omega) (by omega))) ?_
        refine sxq_nil ?_
        refine treeI_rd rfl ?_
        refine sxq_val 26 (.int .i64 (rd l0 (wrap64 (x_10 - 1)))) (by rfl) (fun W hp => (ld1 (t:=3) (p:=(.tmp 25)) (by rfl) (by rfl) (by kernel_rfl) (el_cell (d:=(Kd.int .i64)) (hC0 _ hp.tail) 0 (wrap64 (x_10 - 1)) (by omega) (by omega) (cells:=[.int .i64 (rd l0 (wrap64 (x_10 - 1)))]) (fun cs h => h) 0 _ (by rfl)))) ?_
        refine sxq_nil ?_
        refine treeI_rd rfl ?_
        refine sxq_val 29 (.pointer (some (adr A0 x_10 1))) (by rfl) (fun W hp => (ix_run (d:=(Kd.int .i64)) (hC0 _ hp.tail) (t:=23) (by rfl) (by rfl) (by rfl) Tryz.underlying23 (by kernel_rfl) (by omega) (by omega))) ?_
        refine sxq_nil ?_
        refine treeI_rd rfl ?_
        refine sxq_val 30 (.int .i64 (rd l0 x_10)) (by rfl) (fun W hp => (ld1 (t:=3) (p:=(.tmp 29)) (by rfl) (by rfl) (by kernel_rfl) (el_cell (d:=(Kd.int .i64)) (hC0 _ hp.tail) 0 x_10 (by omega) (by omega) (cells:=[.int .i64 (rd l0 x_10)]) (fun cs h => h) 0 _ (by rfl)))) ?_
        refine sxq_nil ?_
        refine treeI_ev rfl ?_
        refine sx_call 31 (by rfl) (by kernel_rfl) ((spec_tiOf.calls (rd l0 (wrap64 (x_10 - 1))) (rd l0 x_10) _ _ _ hv_22).mono ?_)
        rintro _ W_27 ⟨rfl,hb⟩
        refine ⟨_,rfl,?_⟩
        replace hp:=hp.below hb
        clear hb
        refine step_fin hp ?_
        refine treeI_ev rfl ?_
        refine sx_lit 32 (by rfl) k53 w.heap.size 53 ([(⟨t_23,t_24⟩ : S_Tile)]) [.int .i64 t_23,.int .i64 t_24] (fun W => by kernel_rfl) (tile_reps _ _ _) (by simp) hp.size hp ?_
        intro g_28 F_29 W_30 hp hz;clear hz
        refine step_fin hp.tail ?_
        refine treeI_fin ?_
        refine tail_of [12,13] (by rfl) ?_
        refine tailI_op rfl ?_
        refine sx_append 33 (by rfl) k53 1 (by rfl) (.agg #[.int .i64 0,.int .i64 0]) 16 (by rfl) Tryz.underlying29 (by kernel_rfl) rfl (by decide) (by decide) ([(⟨t_23,t_24⟩ : S_Tile)]) (by rfl) (by rfl) (row_C (hp.at_ 0 _ (by rfl))) tile_kp hp.size (by first|omega|(simp;omega)) hp ?_
        intro A_31 c_32 F_33 W_34 hp hz;clear hz;simp only [List.set_cons_succ,List.set_cons_zero] at hp
        refine tailI_next ?_
        refine tailI_op rfl ?_
        refine sx_rd 4 (.slice A_31 ((x_9 ++ [(⟨t_23,t_24⟩ : S_Tile)]).length) c_32) (by rfl) (by kernel_rfl) ?_
        refine tailI_next ?_
        refine tailI_nil ?_
        refine ex_blk_n ?_
        refine ex_then_n ?_
        refine sx_region ?_
        refine sx_rd 19 (.int .i64 x_10) (by rfl) (by kernel_rfl) ?_
        refine sx_rd 20 (.int .i64 (wrap64 (x_10 + 1))) (by rfl) (wr_w (by kernel_rfl)) ?_
        refine sx_rd 5 (.int .i64 (wrap64 (x_10 + 1))) (by rfl) (by kernel_rfl) ?_
        refine sx_nil ?_
        refine ex_then_n ?_
        exact ⟨_,(by omega),_,k_11,(wrap64 (x_10 + 1)),(x_9 ++ [(⟨t_23,t_24⟩ : S_Tile)]),_,_,_,_,rfl,fr_front [(0,.slice A0 l0.length c0),(4,.slice A_31 ((x_9 ++ [(⟨t_23,t_24⟩ : S_Tile)]).length) c_32),(5,.int .i64 (wrap64 (x_10 + 1)))] ⟨rfl,rfl,rfl,trivial⟩,(hp.take [1] 2 (by decide) (by simp)),h,(by omega)⟩
      ·
        rw [if_neg hc_18] at h
        obtain ⟨t_36,hv_35,h⟩:=Option.bind_eq_some_iff.mp h
        try dsimp only at h
        refine sx_else (decide (x_10 < (l0.length : Int))) (by rfl) (decide_eq_false hc_18) ?_
        refine wp_exit ?_
        refine ex_then_e (ex_then_e (ex_blk_here ?_))
        refine ex_then_n ?_
        refine wp_seq ?_
        refine sx_region ?_
        refine sx_rd 34 (.slice A_12 x_9.length c_14) (by rfl) (by kernel_rfl) ?_
        refine sx_rd 35 (.slice A_12 x_9.length c_14) (by rfl) (by kernel_rfl) ?_
        refine sx_call 36 (by rfl) (by kernel_rfl) ((spec_tiHand.calls _ A_12 c_14 x_9 _ _ (row_C (hp.at_ 0 _ (by rfl))) (row_len (hp.at_ 0 _ (by rfl))).2 hv_35).mono ?_)
        rintro _ W_37 ⟨rfl,hb⟩
        refine ⟨_,rfl,?_⟩
        replace hp:=hp.below hb
        clear hb
        refine sx_rd 2 (.slice A_12 x_9.length c_14) (by rfl) (by kernel_rfl) ?_
        refine sx_rd 3 (.bool t_36) (by rfl) (by kernel_rfl) ?_
        refine sx_nil ?_
        refine ex_then_n ?_
        refine wp_ret ?_
        refine sx_end (.tuple #[.slice A_12 x_9.length c_14,.bool t_36]) (res2 2 3 (by rfl)) ?_
        simp only [Option.some.injEq,Prod.mk.injEq] at h;obtain ⟨rfl,rfl⟩:=h
        exact ⟨_,rfl,Kd.R_mono (row_R (hp.at_ 0 _ (by rfl))) (fun _ _ => trivial),hc2 _ (hp.tail)⟩
  ·
    rw [if_neg hc_3] at h
    rcases k with _|k
    · simp [spec_whChain.j0] at h
    simp only [spec_whChain.j0] at h
    rw [if_pos (by simp)] at h
    refine sx_region ?_
    refine sx_rd 6 (.slice A0 l0.length c0) (by rfl) (by kernel_rfl) ?_
    refine sx_rd 7 (.int .i64 (l0.length : Int)) (by rfl) (by kernel_rfl) ?_
    refine sx_call 8 (by rfl) (by kernel_rfl) ((spec_l1In.calls (l0.length : Int) 1 56 _ _ hv_1).mono ?_)
    rintro _ W_38 ⟨rfl,hb⟩
    refine ⟨_,rfl,?_⟩
    replace hp:=hp.below hb.below
    clear hb
    refine sx_rd 9 (.bool true) (by rfl) (bv (show (!t_2) = true from by rw [(Bool.eq_false_iff.mpr hc_3)];rfl) (by kernel_rfl)) ?_
    refine sx_rd 10 (.bool true) (by rfl) (by kernel_rfl) ?_
    refine sx_skip 11 (by rfl) (by rfl) (by rfl) ?_
    refine sx_skip 12 (by rfl) (by rfl) (by rfl) ?_
    refine sx_skip 13 (by rfl) (by rfl) (by rfl) ?_
    refine sx_rd 14 (.bool true) (by rfl) (by kernel_rfl) ?_
    refine sx_nil ?_
    refine ex_then_n ?_
    refine sx_then true (by rfl) rfl ?_
    refine wp_seq ?_
    refine sx_region ?_
    refine sx_rd 2 (.slice none 0 0) (by rfl) (by kernel_rfl) ?_
    refine sx_rd 3 (.bool false) (by rfl) (by kernel_rfl) ?_
    refine sx_nil ?_
    refine ex_then_n ?_
    refine wp_ret ?_
    refine ex_then_r ?_
    refine sx_end (.tuple #[.slice none 0 0,.bool false]) (res2 2 3 (by rfl)) ?_
    simp only [Option.some.injEq,Prod.mk.injEq] at h;obtain ⟨rfl,rfl⟩:=h
    exact ⟨_,rfl,Kd.R_nil _ _ _ _ _,hc2 _ (hp)⟩
end
section
open Go.RowKit Go.Proofs.YtjaojemmbeddfaaGreatW.PrintWords Go.Proofs.YtjaojemmbeddfaaGreatW.PrintLast Go.Proofs.YtjaojemmbeddfaaGreatW.PrintMore
attribute [local go_sem] max2_int min2_int max_two min_two max_three min_three max_four min_four   -- for this text's walks alone
set_option linter.unusedVariables false
set_option linter.unusedSimpArgs false

def spec_plRow.f (k : Nat) (l0 : List Int) : Option ((List (S_Tile)) × Bool):=if (l0.length : Int) = 0 then (some (([] : List (S_Tile)),true)) else ((spec_whChain.f k l0).bind fun bt133 => (if bt133.2 = true then (some (bt133.1,decide ((bt133.1.length : Int) > 0))) else (some (bt133.1,false))))
set_option maxRecDepth 100000 in
set_option maxHeartbeats 40000000 in
theorem spec_plRow.calls (k : Nat) (A0 : Option Addr) (c0 : Nat) (l0 : List Int) (r1 : List (S_Tile)) (r2 : Bool) (w : World) (hr0 : Kd.C (Kd.int .i64) w A0 l0.length l0) (hc0 : l0.length ≤ c0) (h : spec_plRow.f k l0 = some (r1,r2)) :
    Calls Tryz.prog 40 #[.slice A0 l0.length c0] w fun e w' => ∃ v0_ : Value,e = .returned (.tuple #[v0_,.bool r2]) ∧ Kd.R k53 53 w' w.heap.size (fun _ => True) v0_ r1 ∧ Below w.heap.size w w':=by
  obtain ⟨cs,hcs⟩ : ∃ cs,cs = [old w w.heap.size]:=⟨_,rfl⟩
  have hp : Hp w cs w:=by rw [hcs];exact Hp.old_start w
  have hc2 : ∀ W,Hp w cs W → Below w.heap.size w W:=fun W h => by rw [hcs] at h;exact h.since 0 _ rfl
  have hC0 : ∀ W,Hp w cs W → Kd.C (Kd.int .i64) W A0 l0.length l0:=fun W h => Kd.C_below hr0 (hc2 W h)
  clear hcs
  unfold spec_plRow.f at h
  refine sx_enter (N:=21) (l:=[.slice A0 l0.length c0]) Tryz.func40 rfl rfl rfl ?_
  refine wp_seq ?_
  refine sx_region ?_
  refine sx_rd 2 (.slice none 0 0) (by rfl) (by kernel_rfl) ?_
  refine sx_rd 3 (.bool false) (by rfl) (by kernel_rfl) ?_
  refine sx_nil ?_
  refine ex_then_n ?_
  refine wp_seq ?_
  refine wp_seq ?_
  refine sx_region ?_
  refine sx_rd 6 (.slice A0 l0.length c0) (by rfl) (by kernel_rfl) ?_
  refine sx_rd 7 (.int .i64 (l0.length : Int)) (by rfl) (by kernel_rfl) ?_
  refine sx_rd 8 (.bool ((l0.length : Int) == 0)) (by rfl) (by kernel_rfl) ?_
  refine sx_nil ?_
  refine ex_then_n ?_
  by_cases hc_1 : (l0.length : Int) = 0
  ·
    rw [if_pos hc_1] at h
    refine sx_then ((l0.length : Int) == 0) (by rfl) (beq_iff_eq.mpr hc_1) ?_
    refine wp_seq ?_
    refine sx_region ?_
    refine sx_rd 2 (.slice none 0 0) (by rfl) (by kernel_rfl) ?_
    refine sx_rd 3 (.bool true) (by rfl) (by kernel_rfl) ?_
    refine sx_nil ?_
    refine ex_then_n ?_
    refine wp_ret ?_
    refine ex_then_r ?_
    refine sx_end (.tuple #[.slice none 0 0,.bool true]) (res2 2 3 (by rfl)) ?_
    simp only [Option.some.injEq,Prod.mk.injEq] at h;obtain ⟨rfl,rfl⟩:=h
    exact ⟨_,rfl,Kd.R_nil _ _ _ _ _,hc2 _ (hp)⟩
  ·
    rw [if_neg hc_1] at h
    obtain ⟨⟨t_3,t_4⟩,hv_2,h⟩:=Option.bind_eq_some_iff.mp h
    try dsimp only at h
    refine sx_else ((l0.length : Int) == 0) (by rfl) (beq_eq_false_iff_ne.mpr hc_1) ?_
    refine wp_skip ?_
    refine ex_then_n ?_
    refine wp_seq ?_
    refine sx_region ?_
    refine sx_rd 10 (.slice A0 l0.length c0) (by rfl) (by kernel_rfl) ?_
    refine sx_call 11 (by rfl) (by kernel_rfl) ((spec_whChain.calls _ A0 c0 l0 _ _ _ (hC0 _ hp) hc0 hv_2).mono ?_)
    rintro _ W_10 ⟨v_6,rfl,hR_5,hb⟩
    refine ⟨_,rfl,?_⟩
    obtain ⟨A_7,c_8,rfl,hcc_c_8,_⟩:=Kd.R_reads hR_5
    obtain ⟨F_9,hp⟩ : ∃ F,Hp w (row k53 53 w.heap.size (.slice A_7 t_3.length c_8) t_3 F :: cs) _:=⟨_,Hp.made hp hb hR_5⟩
    refine sx_rd 9 (.tuple #[.slice A_7 t_3.length c_8,.bool t_4]) (by rfl) (by kernel_rfl) ?_
    refine sx_rd 12 (.slice A_7 t_3.length c_8) (by rfl) (by kernel_rfl) ?_
    refine sx_rd 13 (.bool t_4) (by rfl) (by kernel_rfl) ?_
    refine sx_rd 4 (.slice A_7 t_3.length c_8) (by rfl) (by kernel_rfl) ?_
    refine sx_rd 5 (.bool t_4) (by rfl) (by kernel_rfl) ?_
    refine sx_nil ?_
    refine ex_then_n ?_
    refine wp_seq ?_
    by_cases hc_11 : t_4 = true
    ·
      rw [if_pos hc_11] at h
      refine sx_region ?_
      refine sx_rd 14 (.slice A_7 t_3.length c_8) (by rfl) (by kernel_rfl) ?_
      refine sx_rd 15 (.bool true) (by rfl) (bv hc_11 (by kernel_rfl)) ?_
      refine sx_rd 16 (.bool true) (by rfl) (by kernel_rfl) ?_
      refine sx_want (by rfl) ?_
      refine sx_rd 17 (.slice A_7 t_3.length c_8) (by rfl) (by kernel_rfl) ?_
      refine sx_want (by rfl) ?_
      refine sx_rd 18 (.int .i64 (t_3.length : Int)) (by rfl) (by kernel_rfl) ?_
      refine sx_want (by rfl) ?_
      refine sx_rd 19 (.bool (decide ((t_3.length : Int) > 0))) (by rfl) (by kernel_rfl) ?_
      refine sx_rd 20 (.bool (decide ((t_3.length : Int) > 0))) (by rfl) (by kernel_rfl) ?_
      refine sx_rd 2 (.slice A_7 t_3.length c_8) (by rfl) (by kernel_rfl) ?_
      refine sx_rd 3 (.bool (decide ((t_3.length : Int) > 0))) (by rfl) (by kernel_rfl) ?_
      refine sx_nil ?_
      refine ex_then_n ?_
      refine wp_ret ?_
      refine sx_end (.tuple #[.slice A_7 t_3.length c_8,.bool (decide ((t_3.length : Int) > 0))]) (res2 2 3 (by rfl)) ?_
      simp only [Option.some.injEq,Prod.mk.injEq] at h;obtain ⟨rfl,rfl⟩:=h
      exact ⟨_,rfl,Kd.R_mono (row_R (hp.at_ 0 _ (by rfl))) (fun _ _ => trivial),hc2 _ (hp.tail)⟩
    ·
      rw [if_neg hc_11] at h
      refine sx_region ?_
      refine sx_rd 14 (.slice A_7 t_3.length c_8) (by rfl) (by kernel_rfl) ?_
      refine sx_rd 15 (.bool false) (by rfl) (bv (Bool.eq_false_iff.mpr hc_11) (by kernel_rfl)) ?_
      refine sx_rd 16 (.bool false) (by rfl) (by kernel_rfl) ?_
      refine sx_skip 17 (by rfl) (by rfl) (by rfl) ?_
      refine sx_skip 18 (by rfl) (by rfl) (by rfl) ?_
      refine sx_skip 19 (by rfl) (by rfl) (by rfl) ?_
      refine sx_rd 20 (.bool false) (by rfl) (by kernel_rfl) ?_
      refine sx_rd 2 (.slice A_7 t_3.length c_8) (by rfl) (by kernel_rfl) ?_
      refine sx_rd 3 (.bool false) (by rfl) (by kernel_rfl) ?_
      refine sx_nil ?_
      refine ex_then_n ?_
      refine wp_ret ?_
      refine sx_end (.tuple #[.slice A_7 t_3.length c_8,.bool false]) (res2 2 3 (by rfl)) ?_
      simp only [Option.some.injEq,Prod.mk.injEq] at h;obtain ⟨rfl,rfl⟩:=h
      exact ⟨_,rfl,Kd.R_mono (row_R (hp.at_ 0 _ (by rfl))) (fun _ _ => trivial),hc2 _ (hp.tail)⟩
end
section
open Go.RowKit Go.Proofs.YtjaojemmbeddfaaGreatW.PrintWords Go.Proofs.YtjaojemmbeddfaaGreatW.PrintLast Go.Proofs.YtjaojemmbeddfaaGreatW.PrintMore
attribute [local go_sem] max2_int min2_int max_two min_two max_three min_three max_four min_four   -- for this text's walks alone
set_option linter.unusedVariables false
set_option linter.unusedSimpArgs false

def spec_tiPick.l0 : Nat → List (S_Tile) → Bool → List (S_Tile) → List (S_Tile) → Int → Int → Option ((List (S_Tile)))
  | 0,_,_,_,_,_,_ => none
  | k + 1,x1,x2,x7,x11,x12,x13 => if x13 < x12 then (if 0 ≤ x13 then (if x13 < (x11.length : Int) then ((spec_tiPlace.f k x1 ((rd_Tile x11 x13).f0) ((rd_Tile x11 x13).f1)).bind fun t145 => (if ((decide (t145 ≥ 0)) == x2) = true then (if x7.length < 8796093022208 then (spec_tiPick.l0 k x1 x2 (x7 ++ [(⟨(rd_Tile x11 x13).f0,(rd_Tile x11 x13).f1⟩ : S_Tile)]) x11 x12 (wrap64 (x13 + 1))) else (none)) else (spec_tiPick.l0 k x1 x2 x7 x11 x12 (wrap64 (x13 + 1))))) else (none)) else (none)) else (some x7)
def spec_tiPick.f (k : Nat) (a0 : Int) (l1 : List (S_Tile)) (a2 : Bool) : Option ((List (S_Tile))):=(spec_tiSet.f k a0).bind fun t140 => (spec_tiPick.l0 k l1 a2 ([] : List (S_Tile)) t140 (t140.length : Int) 0)
set_option maxRecDepth 100000 in
set_option maxHeartbeats 40000000 in
theorem spec_tiPick.calls (k : Nat) (a0 : Int) (A1 : Option Addr) (c1 : Nat) (l1 : List (S_Tile)) (a2 : Bool) (r : List (S_Tile)) (w : World) (hr1 : Kd.C k53 w A1 l1.length l1) (hc1 : l1.length ≤ c1) (h : spec_tiPick.f k a0 l1 a2 = some r) :
    Calls Tryz.prog 72 #[.int .i64 a0,.slice A1 l1.length c1,.bool a2] w fun e w' => ∃ v0_ : Value,e = .returned (v0_) ∧ Kd.R k53 53 w' w.heap.size (fun _ => True) v0_ r ∧ Below w.heap.size w w':=by
  obtain ⟨cs,hcs⟩ : ∃ cs,cs = [old w w.heap.size]:=⟨_,rfl⟩
  have hp : Hp w cs w:=by rw [hcs];exact Hp.old_start w
  have hc2 : ∀ W,Hp w cs W → Below w.heap.size w W:=fun W h => by rw [hcs] at h;exact h.since 0 _ rfl
  have hC1 : ∀ W,Hp w cs W → Kd.C k53 W A1 l1.length l1:=fun W h => Kd.C_below hr1 (hc2 W h)
  clear hcs
  unfold spec_tiPick.f at h
  obtain ⟨t_2,hv_1,h⟩:=Option.bind_eq_some_iff.mp h
  try dsimp only at h
  refine sx_enter (N:=29) (l:=[.int .i64 a0,.slice A1 l1.length c1,.bool a2]) Tryz.func72 rfl rfl rfl ?_
  refine wp_seq ?_
  refine sx_region ?_
  refine sx_rd 6 (.slice none 0 0) (by rfl) (by kernel_rfl) ?_
  refine sx_nil ?_
  refine ex_then_n ?_
  refine wp_seq ?_
  refine sx_region ?_
  refine sx_rd 7 (.slice none 0 0) (by rfl) (by kernel_rfl) ?_
  refine sx_nil ?_
  refine ex_then_n ?_
  refine wp_seq ?_
  refine wp_seq ?_
  refine sx_region ?_
  refine sx_rd 10 (.int .i64 a0) (by rfl) (by kernel_rfl) ?_
  refine sx_call 11 (by rfl) (by kernel_rfl) ((spec_tiSet.calls _ a0 _ _ hv_1).mono ?_)
  rintro _ W_8 ⟨v_4,rfl,hR_3,hb⟩
  refine ⟨_,rfl,?_⟩
  obtain ⟨A_5,c_6,rfl,hcc_c_6,_⟩:=Kd.R_reads hR_3
  obtain ⟨F_7,hp⟩ : ∃ F,Hp w (row k53 53 w.heap.size (.slice A_5 t_2.length c_6) t_2 F :: cs) _:=⟨_,Hp.made hp hb hR_3⟩
  refine sx_rd 12 (.int .i64 (t_2.length : Int)) (by rfl) (by kernel_rfl) ?_
  refine sx_rd 13 (.int .i64 0) (by rfl) (by kernel_rfl) ?_
  refine sx_nil ?_
  refine ex_then_n ?_
  refine wp_block ?_
  have hp:=hp.nilrow k53 53 w.heap.size
  refine wp_loop_ghost (fun n_ a_ W => ∃ (r_ : List (Nat × Value)) (k_11 : Nat) (x_10 : Int) (x_9 : List (S_Tile)) (A_12 : Option Addr) (n_13 c_14 : Nat) (F_15 : Nat → Prop),n_ = k_11 + 1 ∧ a_ = fr 29 ([(1,.slice A1 l1.length c1),(2,.bool a2),(7,.slice A_12 n_13 c_14),(11,.slice A_5 t_2.length c_6),(12,.int .i64 (t_2.length : Int)),(13,.int .i64 x_10)] ++ r_) ∧ Hp w (row k53 53 w.heap.size (.slice A_12 n_13 c_14) x_9 F_15 :: row k53 53 w.heap.size (.slice A_5 t_2.length c_6) t_2 F_7 :: cs) W ∧ (spec_tiPick.l0 k_11 l1 a2 x_9 t_2 (t_2.length : Int) x_10 = some r) ∧ (k_11 ≤ k)) _ ⟨_,k,0,([] : List (S_Tile)),_,_,_,_,rfl,fr_front [(1,.slice A1 l1.length c1),(2,.bool a2),(7,.slice none 0 0),(11,.slice A_5 t_2.length c_6),(12,.int .i64 (t_2.length : Int)),(13,.int .i64 0)] ⟨rfl,rfl,rfl,rfl,rfl,rfl,trivial⟩,(hp.take [0,1] 2 (by decide) (by simp)),h,(Nat.le_refl _)⟩ ?_
  rintro _ _ W_17 ⟨r_,k_11,x_10,x_9,A_12,n_13,c_14,F_15,rfl,rfl,hp,h,hk_16⟩
  obtain ⟨rfl,-⟩:=row_len (hp.at_ 0 _ (by rfl))
  rcases k_11 with _|k_11
  · simp [spec_tiPick.l0] at h
  simp only [spec_tiPick.l0] at h
  refine wp_seq ?_
  refine sx_region ?_
  refine sx_rd 14 (.bool (decide (x_10 < (t_2.length : Int)))) (by rfl) (by kernel_rfl) ?_
  refine sx_nil ?_
  refine ex_then_n ?_
  refine wp_seq ?_
  by_cases hc_18 : x_10 < (t_2.length : Int)
  ·
    rw [if_pos hc_18] at h
    by_cases hc_19 : 0 ≤ x_10
    case neg => rw [if_neg hc_19] at h;cases h
    rw [if_pos hc_19] at h
    by_cases hc_20 : x_10 < (t_2.length : Int)
    case neg => rw [if_neg hc_20] at h;cases h
    rw [if_pos hc_20] at h
    obtain ⟨t_22,hv_21,h⟩:=Option.bind_eq_some_iff.mp h
    try dsimp only at h
    refine sx_then (decide (x_10 < (t_2.length : Int))) (by rfl) (decide_eq_true hc_18) ?_
    refine wp_skip ?_
    refine ex_then_n ?_
    refine wp_seq ?_
    refine wp_block ?_
    refine wp_seq ?_
    refine sx_region ?_
    refine sx_rd 15 (.pointer (some (adr A_5 x_10 2))) (by rfl) (ix_run (d:=k53) (row_C (hp.at_ 1 _ (by rfl))) (t:=29) (by rfl) (by rfl) (by rfl) Tryz.underlying29 (by kernel_rfl) (by omega) (by omega)) ?_
    refine sx_rd 16 (.agg #[.int .i64 ((rd_Tile t_2 x_10).f0),.int .i64 ((rd_Tile t_2 x_10).f1)]) (by rfl) (el_run (d:=k53) (row_C (hp.at_ 1 _ (by rfl))) z53 x_10 (by omega) (by omega) (cells:=[.int .i64 ((rd_Tile t_2 x_10).f0),.int .i64 ((rd_Tile t_2 x_10).f1)]) (fun cs h => k53_open h) 0 [.int .i64 ((rd_Tile t_2 x_10).f0),.int .i64 ((rd_Tile t_2 x_10).f1)] (by rfl) (t:=53) (p:=(.tmp 15)) (by rfl) (by rfl) (by kernel_rfl) (by kernel_rfl)) ?_
    refine sx_box 9 hp #[.int .i64 0,.int .i64 0] 53 (by rfl) (fun W => by kernel_rfl) ?_
    intro g_23 W_24 hp
    refine sx_store (t:=53) (p:=(.tmp 9)) (x:=(.tmp 16)) (by rfl) (by rfl) 0 (by rfl) 0 [.int .i64 ((rd_Tile t_2 x_10).f0),.int .i64 ((rd_Tile t_2 x_10).f1)] (by rfl) (by rfl) (by kernel_rfl) (by simp [Value.oneCell']) (by show 2 ≤ 2;omega) #[.int .i64 ((rd_Tile t_2 x_10).f0),.int .i64 ((rd_Tile t_2 x_10).f1)] (by rfl) hp ?_
    intro W_25 hp;simp only [List.set_cons_succ,List.set_cons_zero] at hp
    refine sx_nil ?_
    refine ex_then_n ?_
    refine wp_seq ?_
    refine sx_region ?_
    refine sx_rd 17 (.slice A1 l1.length c1) (by rfl) (by kernel_rfl) ?_
    refine sx_rd 18 (.agg #[.int .i64 ((rd_Tile t_2 x_10).f0),.int .i64 ((rd_Tile t_2 x_10).f1)]) (by rfl) (ldn (t:=53) (p:=(.tmp 9)) (by rfl) (by rfl) (by kernel_rfl) (by kernel_rfl) (by kernel_rfl) (hp.at_ 0 _ (by rfl))) ?_
    refine sx_call 19 (by rfl) (by kernel_rfl) ((spec_tiPlace.calls _ A1 c1 l1 ((rd_Tile t_2 x_10).f0) ((rd_Tile t_2 x_10).f1) _ _ (hC1 _ hp.tail.tail.tail) hc1 hv_21).mono ?_)
    rintro _ W_26 ⟨rfl,hb⟩
    refine ⟨_,rfl,?_⟩
    replace hp:=hp.below hb
    clear hb
    refine sx_rd 20 (.bool (decide (t_22 ≥ 0))) (by rfl) (by kernel_rfl) ?_
    refine sx_rd 21 (.bool a2) (by rfl) (by kernel_rfl) ?_
    refine sx_rd 22 (.bool ((decide (t_22 ≥ 0)) == a2)) (by rfl) (by kernel_rfl) ?_
    refine sx_nil ?_
    refine ex_then_n ?_
    by_cases hc_27 : ((decide (t_22 ≥ 0)) == a2) = true
    ·
      rw [if_pos hc_27] at h
      by_cases hc_28 : x_9.length < 8796093022208
      case neg => rw [if_neg hc_28] at h;cases h
      rw [if_pos hc_28] at h
      refine sx_then ((decide (t_22 ≥ 0)) == a2) (by rfl) hc_27 ?_
      refine sx_region ?_
      refine sx_rd 23 (.slice A_12 x_9.length c_14) (by rfl) (by kernel_rfl) ?_
      refine sx_rd 24 (.agg #[.int .i64 ((rd_Tile t_2 x_10).f0),.int .i64 ((rd_Tile t_2 x_10).f1)]) (by rfl) (ldn (t:=53) (p:=(.tmp 9)) (by rfl) (by rfl) (by kernel_rfl) (by kernel_rfl) (by kernel_rfl) (hp.at_ 0 _ (by rfl))) ?_
      refine sx_lit 25 (by rfl) k53 w.heap.size 53 ([(rd_Tile t_2 x_10)]) [.int .i64 ((rd_Tile t_2 x_10).f0),.int .i64 ((rd_Tile t_2 x_10).f1)] (fun W => by kernel_rfl) (tile_reps _ _ _) (by simp) hp.size hp ?_
      intro g_29 F_30 W_31 hp hz;clear hz
      refine sx_append 26 (by rfl) k53 2 (by rfl) (.agg #[.int .i64 0,.int .i64 0]) 16 (by rfl) Tryz.underlying29 (by kernel_rfl) rfl (by decide) (by decide) ([(rd_Tile t_2 x_10)]) (by rfl) (by rfl) (row_C (hp.at_ 0 _ (by rfl))) tile_kp hp.size (by first|omega|(simp;omega)) hp ?_
      intro A_32 c_33 F_34 W_35 hp hz;clear hz;simp only [List.set_cons_succ,List.set_cons_zero] at hp
      refine sx_rd 7 (.slice A_32 ((x_9 ++ [(rd_Tile t_2 x_10)]).length) c_33) (by rfl) (by kernel_rfl) ?_
      refine sx_nil ?_
      refine ex_blk_n ?_
      refine ex_then_n ?_
      refine sx_region ?_
      refine sx_rd 27 (.int .i64 (wrap64 (x_10 + 1))) (by rfl) (wr_w (by kernel_rfl)) ?_
      refine sx_rd 13 (.int .i64 (wrap64 (x_10 + 1))) (by rfl) (by kernel_rfl) ?_
      refine sx_nil ?_
      refine ex_then_n ?_
      exact ⟨_,(by omega),_,k_11,(wrap64 (x_10 + 1)),(x_9 ++ [(⟨(rd_Tile t_2 x_10).f0,(rd_Tile t_2 x_10).f1⟩ : S_Tile)]),_,_,_,_,rfl,fr_front [(1,.slice A1 l1.length c1),(2,.bool a2),(7,.slice A_32 ((x_9 ++ [(rd_Tile t_2 x_10)]).length) c_33),(11,.slice A_5 t_2.length c_6),(12,.int .i64 (t_2.length : Int)),(13,.int .i64 (wrap64 (x_10 + 1)))] ⟨rfl,rfl,rfl,rfl,rfl,rfl,trivial⟩,(hp.take [2,3] 4 (by decide) (by simp)),h,(by omega)⟩
    ·
      rw [if_neg hc_27] at h
      refine sx_else ((decide (t_22 ≥ 0)) == a2) (by rfl) (Bool.eq_false_iff.mpr hc_27) ?_
      refine wp_skip ?_
      refine ex_blk_n ?_
      refine ex_then_n ?_
      refine sx_region ?_
      refine sx_rd 27 (.int .i64 (wrap64 (x_10 + 1))) (by rfl) (wr_w (by kernel_rfl)) ?_
      refine sx_rd 13 (.int .i64 (wrap64 (x_10 + 1))) (by rfl) (by kernel_rfl) ?_
      refine sx_nil ?_
      refine ex_then_n ?_
      exact ⟨_,(by omega),_,k_11,(wrap64 (x_10 + 1)),x_9,_,_,_,_,rfl,fr_front [(1,.slice A1 l1.length c1),(2,.bool a2),(7,.slice A_12 x_9.length c_14),(11,.slice A_5 t_2.length c_6),(12,.int .i64 (t_2.length : Int)),(13,.int .i64 (wrap64 (x_10 + 1)))] ⟨rfl,rfl,rfl,rfl,rfl,rfl,trivial⟩,(hp.take [1,2] 3 (by decide) (by simp)),h,(by omega)⟩
  ·
    rw [if_neg hc_18] at h
    refine sx_else (decide (x_10 < (t_2.length : Int))) (by rfl) (decide_eq_false hc_18) ?_
    refine wp_exit ?_
    refine ex_then_e (ex_then_e (ex_blk_here ?_))
    refine ex_then_n ?_
    refine wp_seq ?_
    refine sx_region ?_
    refine sx_rd 28 (.slice A_12 x_9.length c_14) (by rfl) (by kernel_rfl) ?_
    refine sx_rd 6 (.slice A_12 x_9.length c_14) (by rfl) (by kernel_rfl) ?_
    refine sx_nil ?_
    refine ex_then_n ?_
    refine wp_ret ?_
    refine sx_end (.slice A_12 x_9.length c_14) (res1 6 (by rfl)) ?_
    obtain rfl:=Option.some.inj h
    exact ⟨_,rfl,Kd.R_mono (row_R (hp.at_ 0 _ (by rfl))) (fun _ _ => trivial),hc2 _ (hp.tail.tail)⟩
end
section
open Go.RowKit Go.Proofs.YtjaojemmbeddfaaGreatW.PrintWords Go.Proofs.YtjaojemmbeddfaaGreatW.PrintLast Go.Proofs.YtjaojemmbeddfaaGreatW.PrintMore
attribute [local go_sem] max2_int min2_int max_two min_two max_three min_three max_four min_four   -- for this text's walks alone
set_option linter.unusedVariables false
set_option linter.unusedSimpArgs false

def spec_tiSort.f (k : Nat) (l0 : List (S_Tile)) : Option ((List (S_Tile))):=(spec_tiPick.f k 9 l0 true).bind fun t149 => (some t149)
set_option maxRecDepth 100000 in
set_option maxHeartbeats 40000000 in
theorem spec_tiSort.calls (k : Nat) (A0 : Option Addr) (c0 : Nat) (l0 : List (S_Tile)) (r : List (S_Tile)) (w : World) (hr0 : Kd.C k53 w A0 l0.length l0) (hc0 : l0.length ≤ c0) (h : spec_tiSort.f k l0 = some r) :
    Calls Tryz.prog 44 #[.slice A0 l0.length c0] w fun e w' => ∃ v0_ : Value,e = .returned (v0_) ∧ Kd.R k53 53 w' w.heap.size (fun _ => True) v0_ r ∧ Below w.heap.size w w':=by
  obtain ⟨cs,hcs⟩ : ∃ cs,cs = [old w w.heap.size]:=⟨_,rfl⟩
  have hp : Hp w cs w:=by rw [hcs];exact Hp.old_start w
  have hc2 : ∀ W,Hp w cs W → Below w.heap.size w W:=fun W h => by rw [hcs] at h;exact h.since 0 _ rfl
  have hC0 : ∀ W,Hp w cs W → Kd.C k53 W A0 l0.length l0:=fun W h => Kd.C_below hr0 (hc2 W h)
  clear hcs
  unfold spec_tiSort.f at h
  obtain ⟨t_2,hv_1,h⟩:=Option.bind_eq_some_iff.mp h
  try dsimp only at h
  refine sx_enter (N:=5) (l:=[.slice A0 l0.length c0]) Tryz.func44 rfl rfl rfl ?_
  refine wp_seq ?_
  refine sx_region ?_
  refine sx_rd 2 (.slice none 0 0) (by rfl) (by kernel_rfl) ?_
  refine sx_nil ?_
  refine ex_then_n ?_
  refine wp_seq ?_
  refine sx_region ?_
  refine sx_rd 3 (.slice A0 l0.length c0) (by rfl) (by kernel_rfl) ?_
  refine sx_call 4 (by rfl) (by kernel_rfl) ((spec_tiPick.calls _ 9 A0 c0 l0 true _ _ (hC0 _ hp) hc0 hv_1).mono ?_)
  rintro _ W_8 ⟨v_4,rfl,hR_3,hb⟩
  refine ⟨_,rfl,?_⟩
  obtain ⟨A_5,c_6,rfl,hcc_c_6,_⟩:=Kd.R_reads hR_3
  obtain ⟨F_7,hp⟩ : ∃ F,Hp w (row k53 53 w.heap.size (.slice A_5 t_2.length c_6) t_2 F :: cs) _:=⟨_,Hp.made hp hb hR_3⟩
  refine sx_rd 2 (.slice A_5 t_2.length c_6) (by rfl) (by kernel_rfl) ?_
  refine sx_nil ?_
  refine ex_then_n ?_
  refine wp_ret ?_
  refine sx_end (.slice A_5 t_2.length c_6) (res1 2 (by rfl)) ?_
  obtain rfl:=Option.some.inj h
  exact ⟨_,rfl,Kd.R_mono (row_R (hp.at_ 0 _ (by rfl))) (fun _ _ => trivial),hc2 _ (hp.tail)⟩
end
section
open Go.RowKit Go.Proofs.YtjaojemmbeddfaaGreatW.PrintWords Go.Proofs.YtjaojemmbeddfaaGreatW.PrintLast Go.Proofs.YtjaojemmbeddfaaGreatW.PrintMore
attribute [local go_sem] max2_int min2_int max_two min_two max_three min_three max_four min_four   -- for this text's walks alone
set_option linter.unusedVariables false
set_option linter.unusedSimpArgs false

def spec_tiThose.l0 : Nat → List (S_Tile) → Bool → List (S_Tile) → List (S_Tile) → Int → Int → Option ((List (S_Tile)))
  | 0,_,_,_,_,_,_ => none
  | k + 1,x1,x2,x7,x11,x12,x13 => if x13 < x12 then (if 0 ≤ x13 then (if x13 < (x11.length : Int) then ((spec_tiPlace.f k x1 ((rd_Tile x11 x13).f0) ((rd_Tile x11 x13).f1)).bind fun t157 => (if ((decide (t157 ≥ 0)) == x2) = true then (if x7.length < 8796093022208 then (spec_tiThose.l0 k x1 x2 (x7 ++ [(⟨(rd_Tile x11 x13).f0,(rd_Tile x11 x13).f1⟩ : S_Tile)]) x11 x12 (wrap64 (x13 + 1))) else (none)) else (spec_tiThose.l0 k x1 x2 x7 x11 x12 (wrap64 (x13 + 1))))) else (none)) else (none)) else (some x7)
def spec_tiThose.f (k : Nat) (l0 : List (S_Tile)) (l1 : List (S_Tile)) (a2 : Bool) : Option ((List (S_Tile))):=(spec_tiSort.f k l0).bind fun t152 => (spec_tiThose.l0 k l1 a2 ([] : List (S_Tile)) t152 (t152.length : Int) 0)
set_option maxRecDepth 100000 in
set_option maxHeartbeats 40000000 in
theorem spec_tiThose.calls (k : Nat) (A0 : Option Addr) (c0 : Nat) (l0 : List (S_Tile)) (A1 : Option Addr) (c1 : Nat) (l1 : List (S_Tile)) (a2 : Bool) (r : List (S_Tile)) (w : World) (hr0 : Kd.C k53 w A0 l0.length l0) (hc0 : l0.length ≤ c0) (hr1 : Kd.C k53 w A1 l1.length l1) (hc1 : l1.length ≤ c1) (h : spec_tiThose.f k l0 l1 a2 = some r) :
    Calls Tryz.prog 43 #[.slice A0 l0.length c0,.slice A1 l1.length c1,.bool a2] w fun e w' => ∃ v0_ : Value,e = .returned (v0_) ∧ Kd.R k53 53 w' w.heap.size (fun _ => True) v0_ r ∧ Below w.heap.size w w':=by
  obtain ⟨cs,hcs⟩ : ∃ cs,cs = [old w w.heap.size]:=⟨_,rfl⟩
  have hp : Hp w cs w:=by rw [hcs];exact Hp.old_start w
  have hc2 : ∀ W,Hp w cs W → Below w.heap.size w W:=fun W h => by rw [hcs] at h;exact h.since 0 _ rfl
  have hC0 : ∀ W,Hp w cs W → Kd.C k53 W A0 l0.length l0:=fun W h => Kd.C_below hr0 (hc2 W h)
  have hC1 : ∀ W,Hp w cs W → Kd.C k53 W A1 l1.length l1:=fun W h => Kd.C_below hr1 (hc2 W h)
  clear hcs
  unfold spec_tiThose.f at h
  obtain ⟨t_2,hv_1,h⟩:=Option.bind_eq_some_iff.mp h
  try dsimp only at h
  refine sx_enter (N:=29) (l:=[.slice A0 l0.length c0,.slice A1 l1.length c1,.bool a2]) Tryz.func43 rfl rfl rfl ?_
  refine wp_seq ?_
  refine sx_region ?_
  refine sx_rd 6 (.slice none 0 0) (by rfl) (by kernel_rfl) ?_
  refine sx_nil ?_
  refine ex_then_n ?_
  refine wp_seq ?_
  refine sx_region ?_
  refine sx_rd 7 (.slice none 0 0) (by rfl) (by kernel_rfl) ?_
  refine sx_nil ?_
  refine ex_then_n ?_
  refine wp_seq ?_
  refine wp_seq ?_
  refine sx_region ?_
  refine sx_rd 10 (.slice A0 l0.length c0) (by rfl) (by kernel_rfl) ?_
  refine sx_call 11 (by rfl) (by kernel_rfl) ((spec_tiSort.calls _ A0 c0 l0 _ _ (hC0 _ hp) hc0 hv_1).mono ?_)
  rintro _ W_8 ⟨v_4,rfl,hR_3,hb⟩
  refine ⟨_,rfl,?_⟩
  obtain ⟨A_5,c_6,rfl,hcc_c_6,_⟩:=Kd.R_reads hR_3
  obtain ⟨F_7,hp⟩ : ∃ F,Hp w (row k53 53 w.heap.size (.slice A_5 t_2.length c_6) t_2 F :: cs) _:=⟨_,Hp.made hp hb hR_3⟩
  refine sx_rd 12 (.int .i64 (t_2.length : Int)) (by rfl) (by kernel_rfl) ?_
  refine sx_rd 13 (.int .i64 0) (by rfl) (by kernel_rfl) ?_
  refine sx_nil ?_
  refine ex_then_n ?_
  refine wp_block ?_
  have hp:=hp.nilrow k53 53 w.heap.size
  refine wp_loop_ghost (fun n_ a_ W => ∃ (r_ : List (Nat × Value)) (k_11 : Nat) (x_10 : Int) (x_9 : List (S_Tile)) (A_12 : Option Addr) (n_13 c_14 : Nat) (F_15 : Nat → Prop),n_ = k_11 + 1 ∧ a_ = fr 29 ([(1,.slice A1 l1.length c1),(2,.bool a2),(7,.slice A_12 n_13 c_14),(11,.slice A_5 t_2.length c_6),(12,.int .i64 (t_2.length : Int)),(13,.int .i64 x_10)] ++ r_) ∧ Hp w (row k53 53 w.heap.size (.slice A_12 n_13 c_14) x_9 F_15 :: row k53 53 w.heap.size (.slice A_5 t_2.length c_6) t_2 F_7 :: cs) W ∧ (spec_tiThose.l0 k_11 l1 a2 x_9 t_2 (t_2.length : Int) x_10 = some r) ∧ (k_11 ≤ k)) _ ⟨_,k,0,([] : List (S_Tile)),_,_,_,_,rfl,fr_front [(1,.slice A1 l1.length c1),(2,.bool a2),(7,.slice none 0 0),(11,.slice A_5 t_2.length c_6),(12,.int .i64 (t_2.length : Int)),(13,.int .i64 0)] ⟨rfl,rfl,rfl,rfl,rfl,rfl,trivial⟩,(hp.take [0,1] 2 (by decide) (by simp)),h,(Nat.le_refl _)⟩ ?_
  rintro _ _ W_17 ⟨r_,k_11,x_10,x_9,A_12,n_13,c_14,F_15,rfl,rfl,hp,h,hk_16⟩
  obtain ⟨rfl,-⟩:=row_len (hp.at_ 0 _ (by rfl))
  rcases k_11 with _|k_11
  · simp [spec_tiThose.l0] at h
  simp only [spec_tiThose.l0] at h
  refine wp_seq ?_
  refine sx_region ?_
  refine sx_rd 14 (.bool (decide (x_10 < (t_2.length : Int)))) (by rfl) (by kernel_rfl) ?_
  refine sx_nil ?_
  refine ex_then_n ?_
  refine wp_seq ?_
  by_cases hc_18 : x_10 < (t_2.length : Int)
  ·
    rw [if_pos hc_18] at h
    by_cases hc_19 : 0 ≤ x_10
    case neg => rw [if_neg hc_19] at h;cases h
    rw [if_pos hc_19] at h
    by_cases hc_20 : x_10 < (t_2.length : Int)
    case neg => rw [if_neg hc_20] at h;cases h
    rw [if_pos hc_20] at h
    obtain ⟨t_22,hv_21,h⟩:=Option.bind_eq_some_iff.mp h
    try dsimp only at h
    refine sx_then (decide (x_10 < (t_2.length : Int))) (by rfl) (decide_eq_true hc_18) ?_
    refine wp_skip ?_
    refine ex_then_n ?_
    refine wp_seq ?_
    refine wp_block ?_
    refine wp_seq ?_
    refine sx_region ?_
    refine sx_rd 15 (.pointer (some (adr A_5 x_10 2))) (by rfl) (ix_run (d:=k53) (row_C (hp.at_ 1 _ (by rfl))) (t:=29) (by rfl) (by rfl) (by rfl) Tryz.underlying29 (by kernel_rfl) (by omega) (by omega)) ?_
    refine sx_rd 16 (.agg #[.int .i64 ((rd_Tile t_2 x_10).f0),.int .i64 ((rd_Tile t_2 x_10).f1)]) (by rfl) (el_run (d:=k53) (row_C (hp.at_ 1 _ (by rfl))) z53 x_10 (by omega) (by omega) (cells:=[.int .i64 ((rd_Tile t_2 x_10).f0),.int .i64 ((rd_Tile t_2 x_10).f1)]) (fun cs h => k53_open h) 0 [.int .i64 ((rd_Tile t_2 x_10).f0),.int .i64 ((rd_Tile t_2 x_10).f1)] (by rfl) (t:=53) (p:=(.tmp 15)) (by rfl) (by rfl) (by kernel_rfl) (by kernel_rfl)) ?_
    refine sx_box 9 hp #[.int .i64 0,.int .i64 0] 53 (by rfl) (fun W => by kernel_rfl) ?_
    intro g_23 W_24 hp
    refine sx_store (t:=53) (p:=(.tmp 9)) (x:=(.tmp 16)) (by rfl) (by rfl) 0 (by rfl) 0 [.int .i64 ((rd_Tile t_2 x_10).f0),.int .i64 ((rd_Tile t_2 x_10).f1)] (by rfl) (by rfl) (by kernel_rfl) (by simp [Value.oneCell']) (by show 2 ≤ 2;omega) #[.int .i64 ((rd_Tile t_2 x_10).f0),.int .i64 ((rd_Tile t_2 x_10).f1)] (by rfl) hp ?_
    intro W_25 hp;simp only [List.set_cons_succ,List.set_cons_zero] at hp
    refine sx_nil ?_
    refine ex_then_n ?_
    refine wp_seq ?_
    refine sx_region ?_
    refine sx_rd 17 (.slice A1 l1.length c1) (by rfl) (by kernel_rfl) ?_
    refine sx_rd 18 (.agg #[.int .i64 ((rd_Tile t_2 x_10).f0),.int .i64 ((rd_Tile t_2 x_10).f1)]) (by rfl) (ldn (t:=53) (p:=(.tmp 9)) (by rfl) (by rfl) (by kernel_rfl) (by kernel_rfl) (by kernel_rfl) (hp.at_ 0 _ (by rfl))) ?_
    refine sx_call 19 (by rfl) (by kernel_rfl) ((spec_tiPlace.calls _ A1 c1 l1 ((rd_Tile t_2 x_10).f0) ((rd_Tile t_2 x_10).f1) _ _ (hC1 _ hp.tail.tail.tail) hc1 hv_21).mono ?_)
    rintro _ W_26 ⟨rfl,hb⟩
    refine ⟨_,rfl,?_⟩
    replace hp:=hp.below hb
    clear hb
    refine sx_rd 20 (.bool (decide (t_22 ≥ 0))) (by rfl) (by kernel_rfl) ?_
    refine sx_rd 21 (.bool a2) (by rfl) (by kernel_rfl) ?_
    refine sx_rd 22 (.bool ((decide (t_22 ≥ 0)) == a2)) (by rfl) (by kernel_rfl) ?_
    refine sx_nil ?_
    refine ex_then_n ?_
    by_cases hc_27 : ((decide (t_22 ≥ 0)) == a2) = true
    ·
      rw [if_pos hc_27] at h
      by_cases hc_28 : x_9.length < 8796093022208
      case neg => rw [if_neg hc_28] at h;cases h
      rw [if_pos hc_28] at h
      refine sx_then ((decide (t_22 ≥ 0)) == a2) (by rfl) hc_27 ?_
      refine sx_region ?_
      refine sx_rd 23 (.slice A_12 x_9.length c_14) (by rfl) (by kernel_rfl) ?_
      refine sx_rd 24 (.agg #[.int .i64 ((rd_Tile t_2 x_10).f0),.int .i64 ((rd_Tile t_2 x_10).f1)]) (by rfl) (ldn (t:=53) (p:=(.tmp 9)) (by rfl) (by rfl) (by kernel_rfl) (by kernel_rfl) (by kernel_rfl) (hp.at_ 0 _ (by rfl))) ?_
      refine sx_lit 25 (by rfl) k53 w.heap.size 53 ([(rd_Tile t_2 x_10)]) [.int .i64 ((rd_Tile t_2 x_10).f0),.int .i64 ((rd_Tile t_2 x_10).f1)] (fun W => by kernel_rfl) (tile_reps _ _ _) (by simp) hp.size hp ?_
      intro g_29 F_30 W_31 hp hz;clear hz
      refine sx_append 26 (by rfl) k53 2 (by rfl) (.agg #[.int .i64 0,.int .i64 0]) 16 (by rfl) Tryz.underlying29 (by kernel_rfl) rfl (by decide) (by decide) ([(rd_Tile t_2 x_10)]) (by rfl) (by rfl) (row_C (hp.at_ 0 _ (by rfl))) tile_kp hp.size (by first|omega|(simp;omega)) hp ?_
      intro A_32 c_33 F_34 W_35 hp hz;clear hz;simp only [List.set_cons_succ,List.set_cons_zero] at hp
      refine sx_rd 7 (.slice A_32 ((x_9 ++ [(rd_Tile t_2 x_10)]).length) c_33) (by rfl) (by kernel_rfl) ?_
      refine sx_nil ?_
      refine ex_blk_n ?_
      refine ex_then_n ?_
      refine sx_region ?_
      refine sx_rd 27 (.int .i64 (wrap64 (x_10 + 1))) (by rfl) (wr_w (by kernel_rfl)) ?_
      refine sx_rd 13 (.int .i64 (wrap64 (x_10 + 1))) (by rfl) (by kernel_rfl) ?_
      refine sx_nil ?_
      refine ex_then_n ?_
      exact ⟨_,(by omega),_,k_11,(wrap64 (x_10 + 1)),(x_9 ++ [(⟨(rd_Tile t_2 x_10).f0,(rd_Tile t_2 x_10).f1⟩ : S_Tile)]),_,_,_,_,rfl,fr_front [(1,.slice A1 l1.length c1),(2,.bool a2),(7,.slice A_32 ((x_9 ++ [(rd_Tile t_2 x_10)]).length) c_33),(11,.slice A_5 t_2.length c_6),(12,.int .i64 (t_2.length : Int)),(13,.int .i64 (wrap64 (x_10 + 1)))] ⟨rfl,rfl,rfl,rfl,rfl,rfl,trivial⟩,(hp.take [2,3] 4 (by decide) (by simp)),h,(by omega)⟩
    ·
      rw [if_neg hc_27] at h
      refine sx_else ((decide (t_22 ≥ 0)) == a2) (by rfl) (Bool.eq_false_iff.mpr hc_27) ?_
      refine wp_skip ?_
      refine ex_blk_n ?_
      refine ex_then_n ?_
      refine sx_region ?_
      refine sx_rd 27 (.int .i64 (wrap64 (x_10 + 1))) (by rfl) (wr_w (by kernel_rfl)) ?_
      refine sx_rd 13 (.int .i64 (wrap64 (x_10 + 1))) (by rfl) (by kernel_rfl) ?_
      refine sx_nil ?_
      refine ex_then_n ?_
      exact ⟨_,(by omega),_,k_11,(wrap64 (x_10 + 1)),x_9,_,_,_,_,rfl,fr_front [(1,.slice A1 l1.length c1),(2,.bool a2),(7,.slice A_12 x_9.length c_14),(11,.slice A_5 t_2.length c_6),(12,.int .i64 (t_2.length : Int)),(13,.int .i64 (wrap64 (x_10 + 1)))] ⟨rfl,rfl,rfl,rfl,rfl,rfl,trivial⟩,(hp.take [1,2] 3 (by decide) (by simp)),h,(by omega)⟩
  ·
    rw [if_neg hc_18] at h
    refine sx_else (decide (x_10 < (t_2.length : Int))) (by rfl) (decide_eq_false hc_18) ?_
    refine wp_exit ?_
    refine ex_then_e (ex_then_e (ex_blk_here ?_))
    refine ex_then_n ?_
    refine wp_seq ?_
    refine sx_region ?_
    refine sx_rd 28 (.slice A_12 x_9.length c_14) (by rfl) (by kernel_rfl) ?_
    refine sx_rd 6 (.slice A_12 x_9.length c_14) (by rfl) (by kernel_rfl) ?_
    refine sx_nil ?_
    refine ex_then_n ?_
    refine wp_ret ?_
    refine sx_end (.slice A_12 x_9.length c_14) (res1 6 (by rfl)) ?_
    obtain rfl:=Option.some.inj h
    exact ⟨_,rfl,Kd.R_mono (row_R (hp.at_ 0 _ (by rfl))) (fun _ _ => trivial),hc2 _ (hp.tail.tail)⟩
end
section
open Go.RowKit Go.Proofs.YtjaojemmbeddfaaGreatW.PrintWords Go.Proofs.YtjaojemmbeddfaaGreatW.PrintLast Go.Proofs.YtjaojemmbeddfaaGreatW.PrintMore
attribute [local go_sem] max2_int min2_int max_two min_two max_three min_three max_four min_four   -- for this text's walks alone
set_option linter.unusedVariables false
set_option linter.unusedSimpArgs false

def spec_plGood.j0 : Nat → List (S_Tile) → Bool → List (S_Tile) → List (S_Tile) → List Int → Int → Int → Option (Bool)
  | 0,_,_,_,_,_,_,_ => none
  | k + 1,x3,x36,x162000,x162001,x162002,x162003,x162004 => if x36 = true then (some false) else ((spec_tiThose.f k x162000 x162001 true).bind fun t170 => (if (t170.length : Int) = 0 then ((spec_tiThose.f k x162000 x3 true).bind fun t173 => (if (t173.length : Int) = 0 then ((spec_tiThose.f k x162001 x3 true).bind fun t176 => (some ((t176.length : Int) == 0))) else (some false))) else (some false)))
def spec_plGood.f (k : Nat) (l0_0 : List (S_Tile)) (l0_1 : List (S_Tile)) (l0_2 : List Int) (a0_3 : Int) (a0_4 : Int) : Option (Bool):=(spec_plRow.f k l0_2).bind fun bt162 => (if bt162.2 = true then ((spec_tiHand.f k l0_0).bind fun t166 => (if t166 = true then ((spec_tiHand.f k l0_1).bind fun t167 => (if t167 = true then ((spec_l1In.f a0_3 0 1).bind fun t168 => (if t168 = true then ((spec_l1In.f a0_4 0 2).bind fun t169 => (spec_plGood.j0 k bt162.1 (!t169) l0_0 l0_1 l0_2 a0_3 a0_4)) else (spec_plGood.j0 k bt162.1 true l0_0 l0_1 l0_2 a0_3 a0_4))) else (spec_plGood.j0 k bt162.1 true l0_0 l0_1 l0_2 a0_3 a0_4))) else (spec_plGood.j0 k bt162.1 true l0_0 l0_1 l0_2 a0_3 a0_4))) else (spec_plGood.j0 k bt162.1 true l0_0 l0_1 l0_2 a0_3 a0_4))
set_option maxRecDepth 100000 in
set_option maxHeartbeats 40000000 in
theorem spec_plGood.calls (k : Nat) (A0_0 : Option Addr) (c0_0 : Nat) (l0_0 : List (S_Tile)) (A0_1 : Option Addr) (c0_1 : Nat) (l0_1 : List (S_Tile)) (A0_2 : Option Addr) (c0_2 : Nat) (l0_2 : List Int) (a0_3 : Int) (a0_4 : Int) (r : Bool) (w : World) (hr0_0 : Kd.C k53 w A0_0 l0_0.length l0_0) (hc0_0 : l0_0.length ≤ c0_0) (hr0_1 : Kd.C k53 w A0_1 l0_1.length l0_1) (hc0_1 : l0_1.length ≤ c0_1) (hr0_2 : Kd.C (Kd.int .i64) w A0_2 l0_2.length l0_2) (hc0_2 : l0_2.length ≤ c0_2) (h : spec_plGood.f k l0_0 l0_1 l0_2 a0_3 a0_4 = some r) :
    Calls Tryz.prog 26 #[.agg #[.slice A0_0 l0_0.length c0_0,.slice A0_1 l0_1.length c0_1,.slice A0_2 l0_2.length c0_2,.int .i64 a0_3,.int .i64 a0_4]] w fun e w' => e = .returned (.bool r) ∧ Below w.heap.size w w':=by
  obtain ⟨cs,hcs⟩ : ∃ cs,cs = [old w w.heap.size]:=⟨_,rfl⟩
  have hp : Hp w cs w:=by rw [hcs];exact Hp.old_start w
  have hc2 : ∀ W,Hp w cs W → Below w.heap.size w W:=fun W h => by rw [hcs] at h;exact h.since 0 _ rfl
  have hC0_0 : ∀ W,Hp w cs W → Kd.C k53 W A0_0 l0_0.length l0_0:=fun W h => Kd.C_below hr0_0 (hc2 W h)
  have hC0_1 : ∀ W,Hp w cs W → Kd.C k53 W A0_1 l0_1.length l0_1:=fun W h => Kd.C_below hr0_1 (hc2 W h)
  have hC0_2 : ∀ W,Hp w cs W → Kd.C (Kd.int .i64) W A0_2 l0_2.length l0_2:=fun W h => Kd.C_below hr0_2 (hc2 W h)
  clear hcs
  unfold spec_plGood.f at h
  obtain ⟨⟨t_2,t_3⟩,hv_1,h⟩:=Option.bind_eq_some_iff.mp h
  try dsimp only at h
  refine sx_enter (N:=60) (l:=[.agg #[.slice A0_0 l0_0.length c0_0,.slice A0_1 l0_1.length c0_1,.slice A0_2 l0_2.length c0_2,.int .i64 a0_3,.int .i64 a0_4]]) Tryz.func26 rfl rfl rfl ?_
  refine wp_seq ?_
  refine sx_region ?_
  refine sx_box 1 hp #[.slice A0_0 l0_0.length c0_0,.slice A0_1 l0_1.length c0_1,.slice A0_2 l0_2.length c0_2,.int .i64 a0_3,.int .i64 a0_4] 31 (by rfl) (fun W => by kernel_rfl) ?_
  intro g_4 W_5 hp
  refine sx_rd 2 (.bool false) (by rfl) (by kernel_rfl) ?_
  refine sx_nil ?_
  refine ex_then_n ?_
  refine wp_seq ?_
  refine sx_region ?_
  refine sx_rd 6 (.pointer (some ⟨g_4,2,none⟩)) (by rfl) (by kernel_rfl) ?_
  refine sx_rd 7 (.slice A0_2 l0_2.length c0_2) (by rfl) (ld1 (t:=23) (p:=(.tmp 6)) (by rfl) (by rfl) (by kernel_rfl) (hp.cell 0 (by rfl) 2 _ (by rfl))) ?_
  refine sx_call 8 (by rfl) (by kernel_rfl) ((spec_plRow.calls _ A0_2 c0_2 l0_2 _ _ _ (hC0_2 _ hp.tail) hc0_2 hv_1).mono ?_)
  rintro _ W_11 ⟨v_7,rfl,hR_6,hb⟩
  refine ⟨_,rfl,?_⟩
  obtain ⟨A_8,c_9,rfl,hcc_c_9,_⟩:=Kd.R_reads hR_6
  obtain ⟨F_10,hp⟩ : ∃ F,Hp w (row k53 53 w.heap.size (.slice A_8 t_2.length c_9) t_2 F :: blk g_4 #[.slice A0_0 l0_0.length c0_0,.slice A0_1 l0_1.length c0_1,.slice A0_2 l0_2.length c0_2,.int .i64 a0_3,.int .i64 a0_4] 31 :: cs) _:=⟨_,Hp.made hp hb hR_6⟩
  refine sx_rd 5 (.tuple #[.slice A_8 t_2.length c_9,.bool t_3]) (by rfl) (by kernel_rfl) ?_
  refine sx_rd 9 (.slice A_8 t_2.length c_9) (by rfl) (by kernel_rfl) ?_
  refine sx_rd 10 (.bool t_3) (by rfl) (by kernel_rfl) ?_
  refine sx_rd 3 (.slice A_8 t_2.length c_9) (by rfl) (by kernel_rfl) ?_
  refine sx_rd 4 (.bool t_3) (by rfl) (by kernel_rfl) ?_
  refine sx_nil ?_
  refine ex_then_n ?_
  refine wp_seq ?_
  refine wp_seq ?_
  by_cases hc_12 : t_3 = true
  ·
    rw [if_pos hc_12] at h
    obtain ⟨t_14,hv_13,h⟩:=Option.bind_eq_some_iff.mp h
    try dsimp only at h
    by_cases hc_15 : t_14 = true
    ·
      rw [if_pos hc_15] at h
      obtain ⟨t_17,hv_16,h⟩:=Option.bind_eq_some_iff.mp h
      try dsimp only at h
      by_cases hc_18 : t_17 = true
      ·
        rw [if_pos hc_18] at h
        obtain ⟨t_20,hv_19,h⟩:=Option.bind_eq_some_iff.mp h
        try dsimp only at h
        by_cases hc_21 : t_20 = true
        ·
          rw [if_pos hc_21] at h
          obtain ⟨t_23,hv_22,h⟩:=Option.bind_eq_some_iff.mp h
          try dsimp only at h
          rcases k with _|k
          · simp [spec_plGood.j0] at h
          simp only [spec_plGood.j0] at h
          refine sx_region ?_
          refine sx_rd 11 (.bool t_3) (by rfl) (by kernel_rfl) ?_
          refine sx_rd 12 (.bool false) (by rfl) (bv (show (!t_3) = false from by rw [hc_12];rfl) (by kernel_rfl)) ?_
          refine sx_rd 13 (.bool false) (by rfl) (by kernel_rfl) ?_
          refine sx_want (by rfl) ?_
          refine sx_rd 14 (.pointer (some ⟨g_4,0,none⟩)) (by rfl) (by kernel_rfl) ?_
          refine sx_want (by rfl) ?_
          refine sx_rd 15 (.slice A0_0 l0_0.length c0_0) (by rfl) (ld1 (t:=29) (p:=(.tmp 14)) (by rfl) (by rfl) (by kernel_rfl) (hp.cell 1 (by rfl) 0 _ (by rfl))) ?_
          refine sx_want (by rfl) ?_
          refine sx_call 16 (by rfl) (by kernel_rfl) ((spec_tiHand.calls _ A0_0 c0_0 l0_0 _ _ (hC0_0 _ hp.tail.tail) hc0_0 hv_13).mono ?_)
          rintro _ W_24 ⟨rfl,hb⟩
          refine ⟨_,rfl,?_⟩
          replace hp:=hp.below hb
          clear hb
          refine sx_want (by rfl) ?_
          refine sx_rd 17 (.bool false) (by rfl) (bv (show (!t_14) = false from by rw [hc_15];rfl) (by kernel_rfl)) ?_
          refine sx_rd 18 (.bool false) (by rfl) (by kernel_rfl) ?_
          refine sx_rd 19 (.bool false) (by rfl) (by kernel_rfl) ?_
          refine sx_want (by rfl) ?_
          refine sx_rd 20 (.pointer (some ⟨g_4,1,none⟩)) (by rfl) (by kernel_rfl) ?_
          refine sx_want (by rfl) ?_
          refine sx_rd 21 (.slice A0_1 l0_1.length c0_1) (by rfl) (ld1 (t:=29) (p:=(.tmp 20)) (by rfl) (by rfl) (by kernel_rfl) (hp.cell 1 (by rfl) 1 _ (by rfl))) ?_
          refine sx_want (by rfl) ?_
          refine sx_call 22 (by rfl) (by kernel_rfl) ((spec_tiHand.calls _ A0_1 c0_1 l0_1 _ _ (hC0_1 _ hp.tail.tail) hc0_1 hv_16).mono ?_)
          rintro _ W_25 ⟨rfl,hb⟩
          refine ⟨_,rfl,?_⟩
          replace hp:=hp.below hb
          clear hb
          refine sx_want (by rfl) ?_
          refine sx_rd 23 (.bool false) (by rfl) (bv (show (!t_17) = false from by rw [hc_18];rfl) (by kernel_rfl)) ?_
          refine sx_rd 24 (.bool false) (by rfl) (by kernel_rfl) ?_
          refine sx_rd 25 (.bool false) (by rfl) (by kernel_rfl) ?_
          refine sx_want (by rfl) ?_
          refine sx_rd 26 (.pointer (some ⟨g_4,3,none⟩)) (by rfl) (by kernel_rfl) ?_
          refine sx_want (by rfl) ?_
          refine sx_rd 27 (.int .i64 a0_3) (by rfl) (ld1 (t:=3) (p:=(.tmp 26)) (by rfl) (by rfl) (by kernel_rfl) (hp.cell 1 (by rfl) 3 _ (by rfl))) ?_
          refine sx_want (by rfl) ?_
          refine sx_call 28 (by rfl) (by kernel_rfl) ((spec_l1In.calls a0_3 0 1 _ _ hv_19).mono ?_)
          rintro _ W_26 ⟨rfl,hb⟩
          refine ⟨_,rfl,?_⟩
          replace hp:=hp.below hb.below
          clear hb
          refine sx_want (by rfl) ?_
          refine sx_rd 29 (.bool false) (by rfl) (bv (show (!t_20) = false from by rw [hc_21];rfl) (by kernel_rfl)) ?_
          refine sx_rd 30 (.bool false) (by rfl) (by kernel_rfl) ?_
          refine sx_rd 31 (.bool false) (by rfl) (by kernel_rfl) ?_
          refine sx_want (by rfl) ?_
          refine sx_rd 32 (.pointer (some ⟨g_4,4,none⟩)) (by rfl) (by kernel_rfl) ?_
          refine sx_want (by rfl) ?_
          refine sx_rd 33 (.int .i64 a0_4) (by rfl) (ld1 (t:=3) (p:=(.tmp 32)) (by rfl) (by rfl) (by kernel_rfl) (hp.cell 1 (by rfl) 4 _ (by rfl))) ?_
          refine sx_want (by rfl) ?_
          refine sx_call 34 (by rfl) (by kernel_rfl) ((spec_l1In.calls a0_4 0 2 _ _ hv_22).mono ?_)
          rintro _ W_27 ⟨rfl,hb⟩
          refine ⟨_,rfl,?_⟩
          replace hp:=hp.below hb.below
          clear hb
          refine sx_want (by rfl) ?_
          refine sx_rd 35 (.bool (!t_23)) (by rfl) (by kernel_rfl) ?_
          refine sx_rd 36 (.bool (!t_23)) (by rfl) (by kernel_rfl) ?_
          refine sx_nil ?_
          refine ex_then_n ?_
          by_cases hc_28 : (!t_23) = true
          ·
            rw [if_pos hc_28] at h
            refine sx_then (!t_23) (by rfl) hc_28 ?_
            refine wp_seq ?_
            refine sx_region ?_
            refine sx_rd 2 (.bool false) (by rfl) (by kernel_rfl) ?_
            refine sx_nil ?_
            refine ex_then_n ?_
            refine wp_ret ?_
            refine ex_then_r ?_
            refine sx_end (.bool false) (res1 2 (by rfl)) ?_
            obtain rfl:=Option.some.inj h
            exact ⟨rfl,hc2 _ (hp.tail.tail)⟩
          ·
            rw [if_neg hc_28] at h
            obtain ⟨t_30,hv_29,h⟩:=Option.bind_eq_some_iff.mp h
            try dsimp only at h
            refine sx_else (!t_23) (by rfl) (Bool.eq_false_iff.mpr hc_28) ?_
            refine wp_skip ?_
            refine ex_then_n ?_
            refine wp_seq ?_
            by_cases hc_31 : (t_30.length : Int) = 0
            ·
              rw [if_pos hc_31] at h
              obtain ⟨t_33,hv_32,h⟩:=Option.bind_eq_some_iff.mp h
              try dsimp only at h
              by_cases hc_34 : (t_33.length : Int) = 0
              ·
                rw [if_pos hc_34] at h
                obtain ⟨t_36,hv_35,h⟩:=Option.bind_eq_some_iff.mp h
                try dsimp only at h
                refine sx_region ?_
                refine sx_rd 37 (.pointer (some ⟨g_4,0,none⟩)) (by rfl) (by kernel_rfl) ?_
                refine sx_rd 38 (.slice A0_0 l0_0.length c0_0) (by rfl) (ld1 (t:=29) (p:=(.tmp 37)) (by rfl) (by rfl) (by kernel_rfl) (hp.cell 1 (by rfl) 0 _ (by rfl))) ?_
                refine sx_rd 39 (.pointer (some ⟨g_4,1,none⟩)) (by rfl) (by kernel_rfl) ?_
                refine sx_rd 40 (.slice A0_1 l0_1.length c0_1) (by rfl) (ld1 (t:=29) (p:=(.tmp 39)) (by rfl) (by rfl) (by kernel_rfl) (hp.cell 1 (by rfl) 1 _ (by rfl))) ?_
                refine sx_call 41 (by rfl) (by kernel_rfl) ((spec_tiThose.calls _ A0_0 c0_0 l0_0 A0_1 c0_1 l0_1 true _ _ (hC0_0 _ hp.tail.tail) hc0_0 (hC0_1 _ hp.tail.tail) hc0_1 hv_29).mono ?_)
                rintro _ W_42 ⟨v_38,rfl,hR_37,hb⟩
                refine ⟨_,rfl,?_⟩
                obtain ⟨A_39,c_40,rfl,hcc_c_40,_⟩:=Kd.R_reads hR_37
                obtain ⟨F_41,hp⟩ : ∃ F,Hp w (row k53 53 w.heap.size (.slice A_39 t_30.length c_40) t_30 F :: row k53 53 w.heap.size (.slice A_8 t_2.length c_9) t_2 F_10 :: blk g_4 #[.slice A0_0 l0_0.length c0_0,.slice A0_1 l0_1.length c0_1,.slice A0_2 l0_2.length c0_2,.int .i64 a0_3,.int .i64 a0_4] 31 :: cs) _:=⟨_,Hp.made hp hb hR_37⟩
                refine sx_rd 42 (.int .i64 (t_30.length : Int)) (by rfl) (by kernel_rfl) ?_
                refine sx_rd 43 (.bool true) (by rfl) (bv (beq_iff_eq.mpr hc_31) (by kernel_rfl)) ?_
                refine sx_rd 44 (.bool true) (by rfl) (by kernel_rfl) ?_
                refine sx_want (by rfl) ?_
                refine sx_rd 45 (.pointer (some ⟨g_4,0,none⟩)) (by rfl) (by kernel_rfl) ?_
                refine sx_want (by rfl) ?_
                refine sx_rd 46 (.slice A0_0 l0_0.length c0_0) (by rfl) (ld1 (t:=29) (p:=(.tmp 45)) (by rfl) (by rfl) (by kernel_rfl) (hp.cell 2 (by rfl) 0 _ (by rfl))) ?_
                refine sx_want (by rfl) ?_
                refine sx_rd 47 (.slice A_8 t_2.length c_9) (by rfl) (by kernel_rfl) ?_
                refine sx_want (by rfl) ?_
                refine sx_call 48 (by rfl) (by kernel_rfl) ((spec_tiThose.calls _ A0_0 c0_0 l0_0 A_8 c_9 t_2 true _ _ (hC0_0 _ hp.tail.tail.tail) hc0_0 (row_C (hp.at_ 1 _ (by rfl))) (row_len (hp.at_ 1 _ (by rfl))).2 hv_32).mono ?_)
                rintro _ W_48 ⟨v_44,rfl,hR_43,hb⟩
                refine ⟨_,rfl,?_⟩
                obtain ⟨A_45,c_46,rfl,hcc_c_46,_⟩:=Kd.R_reads hR_43
                obtain ⟨F_47,hp⟩ : ∃ F,Hp w (row k53 53 w.heap.size (.slice A_45 t_33.length c_46) t_33 F :: row k53 53 w.heap.size (.slice A_39 t_30.length c_40) t_30 F_41 :: row k53 53 w.heap.size (.slice A_8 t_2.length c_9) t_2 F_10 :: blk g_4 #[.slice A0_0 l0_0.length c0_0,.slice A0_1 l0_1.length c0_1,.slice A0_2 l0_2.length c0_2,.int .i64 a0_3,.int .i64 a0_4] 31 :: cs) _:=⟨_,Hp.made hp hb hR_43⟩
                refine sx_want (by rfl) ?_
                refine sx_rd 49 (.int .i64 (t_33.length : Int)) (by rfl) (by kernel_rfl) ?_
                refine sx_want (by rfl) ?_
                refine sx_rd 50 (.bool true) (by rfl) (bv (beq_iff_eq.mpr hc_34) (by kernel_rfl)) ?_
                refine sx_rd 51 (.bool true) (by rfl) (by kernel_rfl) ?_
                refine sx_rd 52 (.bool true) (by rfl) (by kernel_rfl) ?_
                refine sx_want (by rfl) ?_
                refine sx_rd 53 (.pointer (some ⟨g_4,1,none⟩)) (by rfl) (by kernel_rfl) ?_
                refine sx_want (by rfl) ?_
                refine sx_rd 54 (.slice A0_1 l0_1.length c0_1) (by rfl) (ld1 (t:=29) (p:=(.tmp 53)) (by rfl) (by rfl) (by kernel_rfl) (hp.cell 3 (by rfl) 1 _ (by rfl))) ?_
                refine sx_want (by rfl) ?_
                refine sx_rd 55 (.slice A_8 t_2.length c_9) (by rfl) (by kernel_rfl) ?_
                refine sx_want (by rfl) ?_
                refine sx_call 56 (by rfl) (by kernel_rfl) ((spec_tiThose.calls _ A0_1 c0_1 l0_1 A_8 c_9 t_2 true _ _ (hC0_1 _ hp.tail.tail.tail.tail) hc0_1 (row_C (hp.at_ 2 _ (by rfl))) (row_len (hp.at_ 2 _ (by rfl))).2 hv_35).mono ?_)
                rintro _ W_54 ⟨v_50,rfl,hR_49,hb⟩
                refine ⟨_,rfl,?_⟩
                obtain ⟨A_51,c_52,rfl,hcc_c_52,_⟩:=Kd.R_reads hR_49
                obtain ⟨F_53,hp⟩ : ∃ F,Hp w (row k53 53 w.heap.size (.slice A_51 t_36.length c_52) t_36 F :: row k53 53 w.heap.size (.slice A_45 t_33.length c_46) t_33 F_47 :: row k53 53 w.heap.size (.slice A_39 t_30.length c_40) t_30 F_41 :: row k53 53 w.heap.size (.slice A_8 t_2.length c_9) t_2 F_10 :: blk g_4 #[.slice A0_0 l0_0.length c0_0,.slice A0_1 l0_1.length c0_1,.slice A0_2 l0_2.length c0_2,.int .i64 a0_3,.int .i64 a0_4] 31 :: cs) _:=⟨_,Hp.made hp hb hR_49⟩
                refine sx_want (by rfl) ?_
                refine sx_rd 57 (.int .i64 (t_36.length : Int)) (by rfl) (by kernel_rfl) ?_
                refine sx_want (by rfl) ?_
                refine sx_rd 58 (.bool ((t_36.length : Int) == 0)) (by rfl) (by kernel_rfl) ?_
                refine sx_rd 59 (.bool ((t_36.length : Int) == 0)) (by rfl) (by kernel_rfl) ?_
                refine sx_rd 2 (.bool ((t_36.length : Int) == 0)) (by rfl) (by kernel_rfl) ?_
                refine sx_nil ?_
                refine ex_then_n ?_
                refine wp_ret ?_
                refine sx_end (.bool ((t_36.length : Int) == 0)) (res1 2 (by rfl)) ?_
                obtain rfl:=Option.some.inj h
                exact ⟨rfl,hc2 _ (hp.tail.tail.tail.tail.tail)⟩
              ·
                rw [if_neg hc_34] at h
                refine sx_region ?_
                refine sx_rd 37 (.pointer (some ⟨g_4,0,none⟩)) (by rfl) (by kernel_rfl) ?_
                refine sx_rd 38 (.slice A0_0 l0_0.length c0_0) (by rfl) (ld1 (t:=29) (p:=(.tmp 37)) (by rfl) (by rfl) (by kernel_rfl) (hp.cell 1 (by rfl) 0 _ (by rfl))) ?_
                refine sx_rd 39 (.pointer (some ⟨g_4,1,none⟩)) (by rfl) (by kernel_rfl) ?_
                refine sx_rd 40 (.slice A0_1 l0_1.length c0_1) (by rfl) (ld1 (t:=29) (p:=(.tmp 39)) (by rfl) (by rfl) (by kernel_rfl) (hp.cell 1 (by rfl) 1 _ (by rfl))) ?_
                refine sx_call 41 (by rfl) (by kernel_rfl) ((spec_tiThose.calls _ A0_0 c0_0 l0_0 A0_1 c0_1 l0_1 true _ _ (hC0_0 _ hp.tail.tail) hc0_0 (hC0_1 _ hp.tail.tail) hc0_1 hv_29).mono ?_)
                rintro _ W_60 ⟨v_56,rfl,hR_55,hb⟩
                refine ⟨_,rfl,?_⟩
                obtain ⟨A_57,c_58,rfl,hcc_c_58,_⟩:=Kd.R_reads hR_55
                obtain ⟨F_59,hp⟩ : ∃ F,Hp w (row k53 53 w.heap.size (.slice A_57 t_30.length c_58) t_30 F :: row k53 53 w.heap.size (.slice A_8 t_2.length c_9) t_2 F_10 :: blk g_4 #[.slice A0_0 l0_0.length c0_0,.slice A0_1 l0_1.length c0_1,.slice A0_2 l0_2.length c0_2,.int .i64 a0_3,.int .i64 a0_4] 31 :: cs) _:=⟨_,Hp.made hp hb hR_55⟩
                refine sx_rd 42 (.int .i64 (t_30.length : Int)) (by rfl) (by kernel_rfl) ?_
                refine sx_rd 43 (.bool true) (by rfl) (bv (beq_iff_eq.mpr hc_31) (by kernel_rfl)) ?_
                refine sx_rd 44 (.bool true) (by rfl) (by kernel_rfl) ?_
                refine sx_want (by rfl) ?_
                refine sx_rd 45 (.pointer (some ⟨g_4,0,none⟩)) (by rfl) (by kernel_rfl) ?_
                refine sx_want (by rfl) ?_
                refine sx_rd 46 (.slice A0_0 l0_0.length c0_0) (by rfl) (ld1 (t:=29) (p:=(.tmp 45)) (by rfl) (by rfl) (by kernel_rfl) (hp.cell 2 (by rfl) 0 _ (by rfl))) ?_
                refine sx_want (by rfl) ?_
                refine sx_rd 47 (.slice A_8 t_2.length c_9) (by rfl) (by kernel_rfl) ?_
                refine sx_want (by rfl) ?_
                refine sx_call 48 (by rfl) (by kernel_rfl) ((spec_tiThose.calls _ A0_0 c0_0 l0_0 A_8 c_9 t_2 true _ _ (hC0_0 _ hp.tail.tail.tail) hc0_0 (row_C (hp.at_ 1 _ (by rfl))) (row_len (hp.at_ 1 _ (by rfl))).2 hv_32).mono ?_)
                rintro _ W_66 ⟨v_62,rfl,hR_61,hb⟩
                refine ⟨_,rfl,?_⟩
                obtain ⟨A_63,c_64,rfl,hcc_c_64,_⟩:=Kd.R_reads hR_61
                obtain ⟨F_65,hp⟩ : ∃ F,Hp w (row k53 53 w.heap.size (.slice A_63 t_33.length c_64) t_33 F :: row k53 53 w.heap.size (.slice A_57 t_30.length c_58) t_30 F_59 :: row k53 53 w.heap.size (.slice A_8 t_2.length c_9) t_2 F_10 :: blk g_4 #[.slice A0_0 l0_0.length c0_0,.slice A0_1 l0_1.length c0_1,.slice A0_2 l0_2.length c0_2,.int .i64 a0_3,.int .i64 a0_4] 31 :: cs) _:=⟨_,Hp.made hp hb hR_61⟩
                refine sx_want (by rfl) ?_
                refine sx_rd 49 (.int .i64 (t_33.length : Int)) (by rfl) (by kernel_rfl) ?_
                refine sx_want (by rfl) ?_
                refine sx_rd 50 (.bool false) (by rfl) (bv (beq_eq_false_iff_ne.mpr hc_34) (by kernel_rfl)) ?_
                refine sx_rd 51 (.bool false) (by rfl) (by kernel_rfl) ?_
                refine sx_rd 52 (.bool false) (by rfl) (by kernel_rfl) ?_
                refine sx_skip 53 (by rfl) (by rfl) (by rfl) ?_
                refine sx_skip 54 (by rfl) (by rfl) (by rfl) ?_
                refine sx_skip 55 (by rfl) (by rfl) (by rfl) ?_
                refine sx_skip 56 (by rfl) (by rfl) (by rfl) ?_
                refine sx_skip 57 (by rfl) (by rfl) (by rfl) ?_
                refine sx_skip 58 (by rfl) (by rfl) (by rfl) ?_
                refine sx_rd 59 (.bool false) (by rfl) (by kernel_rfl) ?_
                refine sx_rd 2 (.bool false) (by rfl) (by kernel_rfl) ?_
                refine sx_nil ?_
                refine ex_then_n ?_
                refine wp_ret ?_
                refine sx_end (.bool false) (res1 2 (by rfl)) ?_
                obtain rfl:=Option.some.inj h
                exact ⟨rfl,hc2 _ (hp.tail.tail.tail.tail)⟩
            ·
              rw [if_neg hc_31] at h
              refine sx_region ?_
              refine sx_rd 37 (.pointer (some ⟨g_4,0,none⟩)) (by rfl) (by kernel_rfl) ?_
              refine sx_rd 38 (.slice A0_0 l0_0.length c0_0) (by rfl) (ld1 (t:=29) (p:=(.tmp 37)) (by rfl) (by rfl) (by kernel_rfl) (hp.cell 1 (by rfl) 0 _ (by rfl))) ?_
              refine sx_rd 39 (.pointer (some ⟨g_4,1,none⟩)) (by rfl) (by kernel_rfl) ?_
              refine sx_rd 40 (.slice A0_1 l0_1.length c0_1) (by rfl) (ld1 (t:=29) (p:=(.tmp 39)) (by rfl) (by rfl) (by kernel_rfl) (hp.cell 1 (by rfl) 1 _ (by rfl))) ?_
              refine sx_call 41 (by rfl) (by kernel_rfl) ((spec_tiThose.calls _ A0_0 c0_0 l0_0 A0_1 c0_1 l0_1 true _ _ (hC0_0 _ hp.tail.tail) hc0_0 (hC0_1 _ hp.tail.tail) hc0_1 hv_29).mono ?_)
              rintro _ W_72 ⟨v_68,rfl,hR_67,hb⟩
              refine ⟨_,rfl,?_⟩
              obtain ⟨A_69,c_70,rfl,hcc_c_70,_⟩:=Kd.R_reads hR_67
              obtain ⟨F_71,hp⟩ : ∃ F,Hp w (row k53 53 w.heap.size (.slice A_69 t_30.length c_70) t_30 F :: row k53 53 w.heap.size (.slice A_8 t_2.length c_9) t_2 F_10 :: blk g_4 #[.slice A0_0 l0_0.length c0_0,.slice A0_1 l0_1.length c0_1,.slice A0_2 l0_2.length c0_2,.int .i64 a0_3,.int .i64 a0_4] 31 :: cs) _:=⟨_,Hp.made hp hb hR_67⟩
              refine sx_rd 42 (.int .i64 (t_30.length : Int)) (by rfl) (by kernel_rfl) ?_
              refine sx_rd 43 (.bool false) (by rfl) (bv (beq_eq_false_iff_ne.mpr hc_31) (by kernel_rfl)) ?_
              refine sx_rd 44 (.bool false) (by rfl) (by kernel_rfl) ?_
              refine sx_skip 45 (by rfl) (by rfl) (by rfl) ?_
              refine sx_skip 46 (by rfl) (by rfl) (by rfl) ?_
              refine sx_skip 47 (by rfl) (by rfl) (by rfl) ?_
              refine sx_skip 48 (by rfl) (by rfl) (by rfl) ?_
              refine sx_skip 49 (by rfl) (by rfl) (by rfl) ?_
              refine sx_skip 50 (by rfl) (by rfl) (by rfl) ?_
              refine sx_rd 51 (.bool false) (by rfl) (by kernel_rfl) ?_
              refine sx_rd 52 (.bool false) (by rfl) (by kernel_rfl) ?_
              refine sx_skip 53 (by rfl) (by rfl) (by rfl) ?_
              refine sx_skip 54 (by rfl) (by rfl) (by rfl) ?_
              refine sx_skip 55 (by rfl) (by rfl) (by rfl) ?_
              refine sx_skip 56 (by rfl) (by rfl) (by rfl) ?_
              refine sx_skip 57 (by rfl) (by rfl) (by rfl) ?_
              refine sx_skip 58 (by rfl) (by rfl) (by rfl) ?_
              refine sx_rd 59 (.bool false) (by rfl) (by kernel_rfl) ?_
              refine sx_rd 2 (.bool false) (by rfl) (by kernel_rfl) ?_
              refine sx_nil ?_
              refine ex_then_n ?_
              refine wp_ret ?_
              refine sx_end (.bool false) (res1 2 (by rfl)) ?_
              obtain rfl:=Option.some.inj h
              exact ⟨rfl,hc2 _ (hp.tail.tail.tail)⟩
        ·
          rw [if_neg hc_21] at h
          rcases k with _|k
          · simp [spec_plGood.j0] at h
          simp only [spec_plGood.j0] at h
          rw [if_pos (by simp)] at h
          refine sx_region ?_
          refine sx_rd 11 (.bool t_3) (by rfl) (by kernel_rfl) ?_
          refine sx_rd 12 (.bool false) (by rfl) (bv (show (!t_3) = false from by rw [hc_12];rfl) (by kernel_rfl)) ?_
          refine sx_rd 13 (.bool false) (by rfl) (by kernel_rfl) ?_
          refine sx_want (by rfl) ?_
          refine sx_rd 14 (.pointer (some ⟨g_4,0,none⟩)) (by rfl) (by kernel_rfl) ?_
          refine sx_want (by rfl) ?_
          refine sx_rd 15 (.slice A0_0 l0_0.length c0_0) (by rfl) (ld1 (t:=29) (p:=(.tmp 14)) (by rfl) (by rfl) (by kernel_rfl) (hp.cell 1 (by rfl) 0 _ (by rfl))) ?_
          refine sx_want (by rfl) ?_
          refine sx_call 16 (by rfl) (by kernel_rfl) ((spec_tiHand.calls _ A0_0 c0_0 l0_0 _ _ (hC0_0 _ hp.tail.tail) hc0_0 hv_13).mono ?_)
          rintro _ W_73 ⟨rfl,hb⟩
          refine ⟨_,rfl,?_⟩
          replace hp:=hp.below hb
          clear hb
          refine sx_want (by rfl) ?_
          refine sx_rd 17 (.bool false) (by rfl) (bv (show (!t_14) = false from by rw [hc_15];rfl) (by kernel_rfl)) ?_
          refine sx_rd 18 (.bool false) (by rfl) (by kernel_rfl) ?_
          refine sx_rd 19 (.bool false) (by rfl) (by kernel_rfl) ?_
          refine sx_want (by rfl) ?_
          refine sx_rd 20 (.pointer (some ⟨g_4,1,none⟩)) (by rfl) (by kernel_rfl) ?_
          refine sx_want (by rfl) ?_
          refine sx_rd 21 (.slice A0_1 l0_1.length c0_1) (by rfl) (ld1 (t:=29) (p:=(.tmp 20)) (by rfl) (by rfl) (by kernel_rfl) (hp.cell 1 (by rfl) 1 _ (by rfl))) ?_
          refine sx_want (by rfl) ?_
          refine sx_call 22 (by rfl) (by kernel_rfl) ((spec_tiHand.calls _ A0_1 c0_1 l0_1 _ _ (hC0_1 _ hp.tail.tail) hc0_1 hv_16).mono ?_)
          rintro _ W_74 ⟨rfl,hb⟩
          refine ⟨_,rfl,?_⟩
          replace hp:=hp.below hb
          clear hb
          refine sx_want (by rfl) ?_
          refine sx_rd 23 (.bool false) (by rfl) (bv (show (!t_17) = false from by rw [hc_18];rfl) (by kernel_rfl)) ?_
          refine sx_rd 24 (.bool false) (by rfl) (by kernel_rfl) ?_
          refine sx_rd 25 (.bool false) (by rfl) (by kernel_rfl) ?_
          refine sx_want (by rfl) ?_
          refine sx_rd 26 (.pointer (some ⟨g_4,3,none⟩)) (by rfl) (by kernel_rfl) ?_
          refine sx_want (by rfl) ?_
          refine sx_rd 27 (.int .i64 a0_3) (by rfl) (ld1 (t:=3) (p:=(.tmp 26)) (by rfl) (by rfl) (by kernel_rfl) (hp.cell 1 (by rfl) 3 _ (by rfl))) ?_
          refine sx_want (by rfl) ?_
          refine sx_call 28 (by rfl) (by kernel_rfl) ((spec_l1In.calls a0_3 0 1 _ _ hv_19).mono ?_)
          rintro _ W_75 ⟨rfl,hb⟩
          refine ⟨_,rfl,?_⟩
          replace hp:=hp.below hb.below
          clear hb
          refine sx_want (by rfl) ?_
          refine sx_rd 29 (.bool true) (by rfl) (bv (show (!t_20) = true from by rw [(Bool.eq_false_iff.mpr hc_21)];rfl) (by kernel_rfl)) ?_
          refine sx_rd 30 (.bool true) (by rfl) (by kernel_rfl) ?_
          refine sx_rd 31 (.bool true) (by rfl) (by kernel_rfl) ?_
          refine sx_skip 32 (by rfl) (by rfl) (by rfl) ?_
          refine sx_skip 33 (by rfl) (by rfl) (by rfl) ?_
          refine sx_skip 34 (by rfl) (by rfl) (by rfl) ?_
          refine sx_skip 35 (by rfl) (by rfl) (by rfl) ?_
          refine sx_rd 36 (.bool true) (by rfl) (by kernel_rfl) ?_
          refine sx_nil ?_
          refine ex_then_n ?_
          refine sx_then true (by rfl) rfl ?_
          refine wp_seq ?_
          refine sx_region ?_
          refine sx_rd 2 (.bool false) (by rfl) (by kernel_rfl) ?_
          refine sx_nil ?_
          refine ex_then_n ?_
          refine wp_ret ?_
          refine ex_then_r ?_
          refine sx_end (.bool false) (res1 2 (by rfl)) ?_
          obtain rfl:=Option.some.inj h
          exact ⟨rfl,hc2 _ (hp.tail.tail)⟩
      ·
        rw [if_neg hc_18] at h
        rcases k with _|k
        · simp [spec_plGood.j0] at h
        simp only [spec_plGood.j0] at h
        rw [if_pos (by simp)] at h
        refine sx_region ?_
        refine sx_rd 11 (.bool t_3) (by rfl) (by kernel_rfl) ?_
        refine sx_rd 12 (.bool false) (by rfl) (bv (show (!t_3) = false from by rw [hc_12];rfl) (by kernel_rfl)) ?_
        refine sx_rd 13 (.bool false) (by rfl) (by kernel_rfl) ?_
        refine sx_want (by rfl) ?_
        refine sx_rd 14 (.pointer (some ⟨g_4,0,none⟩)) (by rfl) (by kernel_rfl) ?_
        refine sx_want (by rfl) ?_
        refine sx_rd 15 (.slice A0_0 l0_0.length c0_0) (by rfl) (ld1 (t:=29) (p:=(.tmp 14)) (by rfl) (by rfl) (by kernel_rfl) (hp.cell 1 (by rfl) 0 _ (by rfl))) ?_
        refine sx_want (by rfl) ?_
        refine sx_call 16 (by rfl) (by kernel_rfl) ((spec_tiHand.calls _ A0_0 c0_0 l0_0 _ _ (hC0_0 _ hp.tail.tail) hc0_0 hv_13).mono ?_)
        rintro _ W_76 ⟨rfl,hb⟩
        refine ⟨_,rfl,?_⟩
        replace hp:=hp.below hb
        clear hb
        refine sx_want (by rfl) ?_
        refine sx_rd 17 (.bool false) (by rfl) (bv (show (!t_14) = false from by rw [hc_15];rfl) (by kernel_rfl)) ?_
        refine sx_rd 18 (.bool false) (by rfl) (by kernel_rfl) ?_
        refine sx_rd 19 (.bool false) (by rfl) (by kernel_rfl) ?_
        refine sx_want (by rfl) ?_
        refine sx_rd 20 (.pointer (some ⟨g_4,1,none⟩)) (by rfl) (by kernel_rfl) ?_
        refine sx_want (by rfl) ?_
        refine sx_rd 21 (.slice A0_1 l0_1.length c0_1) (by rfl) (ld1 (t:=29) (p:=(.tmp 20)) (by rfl) (by rfl) (by kernel_rfl) (hp.cell 1 (by rfl) 1 _ (by rfl))) ?_
        refine sx_want (by rfl) ?_
        refine sx_call 22 (by rfl) (by kernel_rfl) ((spec_tiHand.calls _ A0_1 c0_1 l0_1 _ _ (hC0_1 _ hp.tail.tail) hc0_1 hv_16).mono ?_)
        rintro _ W_77 ⟨rfl,hb⟩
        refine ⟨_,rfl,?_⟩
        replace hp:=hp.below hb
        clear hb
        refine sx_want (by rfl) ?_
        refine sx_rd 23 (.bool true) (by rfl) (bv (show (!t_17) = true from by rw [(Bool.eq_false_iff.mpr hc_18)];rfl) (by kernel_rfl)) ?_
        refine sx_rd 24 (.bool true) (by rfl) (by kernel_rfl) ?_
        refine sx_rd 25 (.bool true) (by rfl) (by kernel_rfl) ?_
        refine sx_skip 26 (by rfl) (by rfl) (by rfl) ?_
        refine sx_skip 27 (by rfl) (by rfl) (by rfl) ?_
        refine sx_skip 28 (by rfl) (by rfl) (by rfl) ?_
        refine sx_skip 29 (by rfl) (by rfl) (by rfl) ?_
        refine sx_rd 30 (.bool true) (by rfl) (by kernel_rfl) ?_
        refine sx_rd 31 (.bool true) (by rfl) (by kernel_rfl) ?_
        refine sx_skip 32 (by rfl) (by rfl) (by rfl) ?_
        refine sx_skip 33 (by rfl) (by rfl) (by rfl) ?_
        refine sx_skip 34 (by rfl) (by rfl) (by rfl) ?_
        refine sx_skip 35 (by rfl) (by rfl) (by rfl) ?_
        refine sx_rd 36 (.bool true) (by rfl) (by kernel_rfl) ?_
        refine sx_nil ?_
        refine ex_then_n ?_
        refine sx_then true (by rfl) rfl ?_
        refine wp_seq ?_
        refine sx_region ?_
        refine sx_rd 2 (.bool false) (by rfl) (by kernel_rfl) ?_
        refine sx_nil ?_
        refine ex_then_n ?_
        refine wp_ret ?_
        refine ex_then_r ?_
        refine sx_end (.bool false) (res1 2 (by rfl)) ?_
        obtain rfl:=Option.some.inj h
        exact ⟨rfl,hc2 _ (hp.tail.tail)⟩
    ·
      rw [if_neg hc_15] at h
      rcases k with _|k
      · simp [spec_plGood.j0] at h
      simp only [spec_plGood.j0] at h
      rw [if_pos (by simp)] at h
      refine sx_region ?_
      refine sx_rd 11 (.bool t_3) (by rfl) (by kernel_rfl) ?_
      refine sx_rd 12 (.bool false) (by rfl) (bv (show (!t_3) = false from by rw [hc_12];rfl) (by kernel_rfl)) ?_
      refine sx_rd 13 (.bool false) (by rfl) (by kernel_rfl) ?_
      refine sx_want (by rfl) ?_
      refine sx_rd 14 (.pointer (some ⟨g_4,0,none⟩)) (by rfl) (by kernel_rfl) ?_
      refine sx_want (by rfl) ?_
      refine sx_rd 15 (.slice A0_0 l0_0.length c0_0) (by rfl) (ld1 (t:=29) (p:=(.tmp 14)) (by rfl) (by rfl) (by kernel_rfl) (hp.cell 1 (by rfl) 0 _ (by rfl))) ?_
      refine sx_want (by rfl) ?_
      refine sx_call 16 (by rfl) (by kernel_rfl) ((spec_tiHand.calls _ A0_0 c0_0 l0_0 _ _ (hC0_0 _ hp.tail.tail) hc0_0 hv_13).mono ?_)
      rintro _ W_78 ⟨rfl,hb⟩
      refine ⟨_,rfl,?_⟩
      replace hp:=hp.below hb
      clear hb
      refine sx_want (by rfl) ?_
      refine sx_rd 17 (.bool true) (by rfl) (bv (show (!t_14) = true from by rw [(Bool.eq_false_iff.mpr hc_15)];rfl) (by kernel_rfl)) ?_
      refine sx_rd 18 (.bool true) (by rfl) (by kernel_rfl) ?_
      refine sx_rd 19 (.bool true) (by rfl) (by kernel_rfl) ?_
      refine sx_skip 20 (by rfl) (by rfl) (by rfl) ?_
      refine sx_skip 21 (by rfl) (by rfl) (by rfl) ?_
      refine sx_skip 22 (by rfl) (by rfl) (by rfl) ?_
      refine sx_skip 23 (by rfl) (by rfl) (by rfl) ?_
      refine sx_rd 24 (.bool true) (by rfl) (by kernel_rfl) ?_
      refine sx_rd 25 (.bool true) (by rfl) (by kernel_rfl) ?_
      refine sx_skip 26 (by rfl) (by rfl) (by rfl) ?_
      refine sx_skip 27 (by rfl) (by rfl) (by rfl) ?_
      refine sx_skip 28 (by rfl) (by rfl) (by rfl) ?_
      refine sx_skip 29 (by rfl) (by rfl) (by rfl) ?_
      refine sx_rd 30 (.bool true) (by rfl) (by kernel_rfl) ?_
      refine sx_rd 31 (.bool true) (by rfl) (by kernel_rfl) ?_
      refine sx_skip 32 (by rfl) (by rfl) (by rfl) ?_
      refine sx_skip 33 (by rfl) (by rfl) (by rfl) ?_
      refine sx_skip 34 (by rfl) (by rfl) (by rfl) ?_
      refine sx_skip 35 (by rfl) (by rfl) (by rfl) ?_
      refine sx_rd 36 (.bool true) (by rfl) (by kernel_rfl) ?_
      refine sx_nil ?_
      refine ex_then_n ?_
      refine sx_then true (by rfl) rfl ?_
      refine wp_seq ?_
      refine sx_region ?_
      refine sx_rd 2 (.bool false) (by rfl) (by kernel_rfl) ?_
      refine sx_nil ?_
      refine ex_then_n ?_
      refine wp_ret ?_
      refine ex_then_r ?_
      refine sx_end (.bool false) (res1 2 (by rfl)) ?_
      obtain rfl:=Option.some.inj h
      exact ⟨rfl,hc2 _ (hp.tail.tail)⟩
  ·
    rw [if_neg hc_12] at h
    rcases k with _|k
    · simp [spec_plGood.j0] at h
    simp only [spec_plGood.j0] at h
    rw [if_pos (by simp)] at h
    refine sx_region ?_
    refine sx_rd 11 (.bool t_3) (by rfl) (by kernel_rfl) ?_
    refine sx_rd 12 (.bool true) (by rfl) (bv (show (!t_3) = true from by rw [(Bool.eq_false_iff.mpr hc_12)];rfl) (by kernel_rfl)) ?_
    refine sx_rd 13 (.bool true) (by rfl) (by kernel_rfl) ?_
    refine sx_skip 14 (by rfl) (by rfl) (by rfl) ?_
    refine sx_skip 15 (by rfl) (by rfl) (by rfl) ?_
    refine sx_skip 16 (by rfl) (by rfl) (by rfl) ?_
    refine sx_skip 17 (by rfl) (by rfl) (by rfl) ?_
    refine sx_rd 18 (.bool true) (by rfl) (by kernel_rfl) ?_
    refine sx_rd 19 (.bool true) (by rfl) (by kernel_rfl) ?_
    refine sx_skip 20 (by rfl) (by rfl) (by rfl) ?_
    refine sx_skip 21 (by rfl) (by rfl) (by rfl) ?_
    refine sx_skip 22 (by rfl) (by rfl) (by rfl) ?_
    refine sx_skip 23 (by rfl) (by rfl) (by rfl) ?_
    refine sx_rd 24 (.bool true) (by rfl) (by kernel_rfl) ?_
    refine sx_rd 25 (.bool true) (by rfl) (by kernel_rfl) ?_
    refine sx_skip 26 (by rfl) (by rfl) (by rfl) ?_
    refine sx_skip 27 (by rfl) (by rfl) (by rfl) ?_
    refine sx_skip 28 (by rfl) (by rfl) (by rfl) ?_
    refine sx_skip 29 (by rfl) (by rfl) (by rfl) ?_
    refine sx_rd 30 (.bool true) (by rfl) (by kernel_rfl) ?_
    refine sx_rd 31 (.bool true) (by rfl) (by kernel_rfl) ?_
    refine sx_skip 32 (by rfl) (by rfl) (by rfl) ?_
    refine sx_skip 33 (by rfl) (by rfl) (by rfl) ?_
    refine sx_skip 34 (by rfl) (by rfl) (by rfl) ?_
    refine sx_skip 35 (by rfl) (by rfl) (by rfl) ?_
    refine sx_rd 36 (.bool true) (by rfl) (by kernel_rfl) ?_
    refine sx_nil ?_
    refine ex_then_n ?_
    refine sx_then true (by rfl) rfl ?_
    refine wp_seq ?_
    refine sx_region ?_
    refine sx_rd 2 (.bool false) (by rfl) (by kernel_rfl) ?_
    refine sx_nil ?_
    refine ex_then_n ?_
    refine wp_ret ?_
    refine ex_then_r ?_
    refine sx_end (.bool false) (res1 2 (by rfl)) ?_
    obtain rfl:=Option.some.inj h
    exact ⟨rfl,hc2 _ (hp.tail.tail)⟩
end
section
open Go.RowKit Go.Proofs.YtjaojemmbeddfaaGreatW.PrintWords Go.Proofs.YtjaojemmbeddfaaGreatW.PrintLast Go.Proofs.YtjaojemmbeddfaaGreatW.PrintMore
attribute [local go_sem] max2_int min2_int max_two min_two max_three min_three max_four min_four   -- for this text's walks alone
set_option linter.unusedVariables false
set_option linter.unusedSimpArgs false

def spec_plSmall.f (k : Nat) (l0_0 : List (S_Tile)) (l0_1 : List (S_Tile)) (l0_2 : List Int) (a0_3 : Int) (a0_4 : Int) : Option (Bool):=(spec_plGood.f k l0_0 l0_1 l0_2 a0_3 a0_4).bind fun t180 => (if t180 = true then (some (decide ((wrap64 ((l0_0.length : Int) + (l0_1.length : Int))) ≤ 8))) else (some false))
set_option maxRecDepth 100000 in
set_option maxHeartbeats 40000000 in
theorem spec_plSmall.calls (k : Nat) (A0_0 : Option Addr) (c0_0 : Nat) (l0_0 : List (S_Tile)) (A0_1 : Option Addr) (c0_1 : Nat) (l0_1 : List (S_Tile)) (A0_2 : Option Addr) (c0_2 : Nat) (l0_2 : List Int) (a0_3 : Int) (a0_4 : Int) (r : Bool) (w : World) (hr0_0 : Kd.C k53 w A0_0 l0_0.length l0_0) (hc0_0 : l0_0.length ≤ c0_0) (hr0_1 : Kd.C k53 w A0_1 l0_1.length l0_1) (hc0_1 : l0_1.length ≤ c0_1) (hr0_2 : Kd.C (Kd.int .i64) w A0_2 l0_2.length l0_2) (hc0_2 : l0_2.length ≤ c0_2) (h : spec_plSmall.f k l0_0 l0_1 l0_2 a0_3 a0_4 = some r) :
    Calls Tryz.prog 17 #[.agg #[.slice A0_0 l0_0.length c0_0,.slice A0_1 l0_1.length c0_1,.slice A0_2 l0_2.length c0_2,.int .i64 a0_3,.int .i64 a0_4]] w fun e w' => e = .returned (.bool r) ∧ Below w.heap.size w w':=by
  obtain ⟨cs,hcs⟩ : ∃ cs,cs = [old w w.heap.size]:=⟨_,rfl⟩
  have hp : Hp w cs w:=by rw [hcs];exact Hp.old_start w
  have hc2 : ∀ W,Hp w cs W → Below w.heap.size w W:=fun W h => by rw [hcs] at h;exact h.since 0 _ rfl
  have hC0_0 : ∀ W,Hp w cs W → Kd.C k53 W A0_0 l0_0.length l0_0:=fun W h => Kd.C_below hr0_0 (hc2 W h)
  have hC0_1 : ∀ W,Hp w cs W → Kd.C k53 W A0_1 l0_1.length l0_1:=fun W h => Kd.C_below hr0_1 (hc2 W h)
  have hC0_2 : ∀ W,Hp w cs W → Kd.C (Kd.int .i64) W A0_2 l0_2.length l0_2:=fun W h => Kd.C_below hr0_2 (hc2 W h)
  clear hcs
  unfold spec_plSmall.f at h
  obtain ⟨t_2,hv_1,h⟩:=Option.bind_eq_some_iff.mp h
  try dsimp only at h
  refine sx_enter (N:=15) (l:=[.agg #[.slice A0_0 l0_0.length c0_0,.slice A0_1 l0_1.length c0_1,.slice A0_2 l0_2.length c0_2,.int .i64 a0_3,.int .i64 a0_4]]) Tryz.func17 rfl rfl rfl ?_
  refine wp_seq ?_
  refine sx_region ?_
  refine sx_box 1 hp #[.slice A0_0 l0_0.length c0_0,.slice A0_1 l0_1.length c0_1,.slice A0_2 l0_2.length c0_2,.int .i64 a0_3,.int .i64 a0_4] 31 (by rfl) (fun W => by kernel_rfl) ?_
  intro g_3 W_4 hp
  refine sx_rd 2 (.bool false) (by rfl) (by kernel_rfl) ?_
  refine sx_nil ?_
  refine ex_then_n ?_
  refine wp_seq ?_
  by_cases hc_5 : t_2 = true
  ·
    rw [if_pos hc_5] at h
    refine sx_region ?_
    refine sx_rd 3 (.agg #[.slice A0_0 l0_0.length c0_0,.slice A0_1 l0_1.length c0_1,.slice A0_2 l0_2.length c0_2,.int .i64 a0_3,.int .i64 a0_4]) (by rfl) (ldn (t:=31) (p:=(.tmp 1)) (by rfl) (by rfl) (by kernel_rfl) (by kernel_rfl) (by kernel_rfl) (hp.at_ 0 _ (by rfl))) ?_
    refine sx_call 4 (by rfl) (by kernel_rfl) ((spec_plGood.calls _ A0_0 c0_0 l0_0 A0_1 c0_1 l0_1 A0_2 c0_2 l0_2 a0_3 a0_4 _ _ (hC0_0 _ hp.tail) hc0_0 (hC0_1 _ hp.tail) hc0_1 (hC0_2 _ hp.tail) hc0_2 hv_1).mono ?_)
    rintro _ W_6 ⟨rfl,hb⟩
    refine ⟨.bool true,congrArg (fun b => Ending.returned (.bool b)) hc_5,?_⟩
    replace hp:=hp.below hb
    clear hb
    refine sx_rd 5 (.bool true) (by rfl) (by kernel_rfl) ?_
    refine sx_want (by rfl) ?_
    refine sx_rd 6 (.pointer (some ⟨g_3,0,none⟩)) (by rfl) (by kernel_rfl) ?_
    refine sx_want (by rfl) ?_
    refine sx_rd 7 (.slice A0_0 l0_0.length c0_0) (by rfl) (ld1 (t:=29) (p:=(.tmp 6)) (by rfl) (by rfl) (by kernel_rfl) (hp.cell 0 (by rfl) 0 _ (by rfl))) ?_
    refine sx_want (by rfl) ?_
    refine sx_rd 8 (.int .i64 (l0_0.length : Int)) (by rfl) (by kernel_rfl) ?_
    refine sx_want (by rfl) ?_
    refine sx_rd 9 (.pointer (some ⟨g_3,1,none⟩)) (by rfl) (by kernel_rfl) ?_
    refine sx_want (by rfl) ?_
    refine sx_rd 10 (.slice A0_1 l0_1.length c0_1) (by rfl) (ld1 (t:=29) (p:=(.tmp 9)) (by rfl) (by rfl) (by kernel_rfl) (hp.cell 0 (by rfl) 1 _ (by rfl))) ?_
    refine sx_want (by rfl) ?_
    refine sx_rd 11 (.int .i64 (l0_1.length : Int)) (by rfl) (by kernel_rfl) ?_
    refine sx_want (by rfl) ?_
    refine sx_rd 12 (.int .i64 (wrap64 ((l0_0.length : Int) + (l0_1.length : Int)))) (by rfl) (wr_w (by kernel_rfl)) ?_
    refine sx_want (by rfl) ?_
    refine sx_rd 13 (.bool (decide ((wrap64 ((l0_0.length : Int) + (l0_1.length : Int))) ≤ 8))) (by rfl) (by kernel_rfl) ?_
    refine sx_rd 14 (.bool (decide ((wrap64 ((l0_0.length : Int) + (l0_1.length : Int))) ≤ 8))) (by rfl) (by kernel_rfl) ?_
    refine sx_rd 2 (.bool (decide ((wrap64 ((l0_0.length : Int) + (l0_1.length : Int))) ≤ 8))) (by rfl) (by kernel_rfl) ?_
    refine sx_nil ?_
    refine ex_then_n ?_
    refine wp_ret ?_
    refine sx_end (.bool (decide ((wrap64 ((l0_0.length : Int) + (l0_1.length : Int))) ≤ 8))) (res1 2 (by rfl)) ?_
    obtain rfl:=Option.some.inj h
    exact ⟨rfl,hc2 _ (hp.tail)⟩
  ·
    rw [if_neg hc_5] at h
    refine sx_region ?_
    refine sx_rd 3 (.agg #[.slice A0_0 l0_0.length c0_0,.slice A0_1 l0_1.length c0_1,.slice A0_2 l0_2.length c0_2,.int .i64 a0_3,.int .i64 a0_4]) (by rfl) (ldn (t:=31) (p:=(.tmp 1)) (by rfl) (by rfl) (by kernel_rfl) (by kernel_rfl) (by kernel_rfl) (hp.at_ 0 _ (by rfl))) ?_
    refine sx_call 4 (by rfl) (by kernel_rfl) ((spec_plGood.calls _ A0_0 c0_0 l0_0 A0_1 c0_1 l0_1 A0_2 c0_2 l0_2 a0_3 a0_4 _ _ (hC0_0 _ hp.tail) hc0_0 (hC0_1 _ hp.tail) hc0_1 (hC0_2 _ hp.tail) hc0_2 hv_1).mono ?_)
    rintro _ W_7 ⟨rfl,hb⟩
    refine ⟨.bool false,congrArg (fun b => Ending.returned (.bool b)) (Bool.eq_false_iff.mpr hc_5),?_⟩
    replace hp:=hp.below hb
    clear hb
    refine sx_rd 5 (.bool false) (by rfl) (by kernel_rfl) ?_
    refine sx_skip 6 (by rfl) (by rfl) (by rfl) ?_
    refine sx_skip 7 (by rfl) (by rfl) (by rfl) ?_
    refine sx_skip 8 (by rfl) (by rfl) (by rfl) ?_
    refine sx_skip 9 (by rfl) (by rfl) (by rfl) ?_
    refine sx_skip 10 (by rfl) (by rfl) (by rfl) ?_
    refine sx_skip 11 (by rfl) (by rfl) (by rfl) ?_
    refine sx_skip 12 (by rfl) (by rfl) (by rfl) ?_
    refine sx_skip 13 (by rfl) (by rfl) (by rfl) ?_
    refine sx_rd 14 (.bool false) (by rfl) (by kernel_rfl) ?_
    refine sx_rd 2 (.bool false) (by rfl) (by kernel_rfl) ?_
    refine sx_nil ?_
    refine ex_then_n ?_
    refine wp_ret ?_
    refine sx_end (.bool false) (res1 2 (by rfl)) ?_
    obtain rfl:=Option.some.inj h
    exact ⟨rfl,hc2 _ (hp.tail)⟩
end
section
open Go.RowKit Go.Proofs.YtjaojemmbeddfaaGreatW.PrintWords Go.Proofs.YtjaojemmbeddfaaGreatW.PrintLast Go.Proofs.YtjaojemmbeddfaaGreatW.PrintMore
attribute [local go_sem] max2_int min2_int max_two min_two max_three min_three max_four min_four   -- for this text's walks alone
set_option linter.unusedVariables false
set_option linter.unusedSimpArgs false

def spec_plOver.f (l0_0 : List (S_Tile)) (l0_1 : List (S_Tile)) (l0_2 : List Int) (a0_3 : Int) (a0_4 : Int) : Option (Bool):=if (l0_0.length : Int) = 0 then (some true) else (if (l0_1.length : Int) = 0 then (some true) else (some (a0_4 == 2)))
set_option maxRecDepth 100000 in
set_option maxHeartbeats 40000000 in
theorem spec_plOver.calls (A0_0 : Option Addr) (c0_0 : Nat) (l0_0 : List (S_Tile)) (A0_1 : Option Addr) (c0_1 : Nat) (l0_1 : List (S_Tile)) (A0_2 : Option Addr) (c0_2 : Nat) (l0_2 : List Int) (a0_3 : Int) (a0_4 : Int) (r : Bool) (w : World) (hr0_0 : Kd.C k53 w A0_0 l0_0.length l0_0) (hc0_0 : l0_0.length ≤ c0_0) (hr0_1 : Kd.C k53 w A0_1 l0_1.length l0_1) (hc0_1 : l0_1.length ≤ c0_1) (hr0_2 : Kd.C (Kd.int .i64) w A0_2 l0_2.length l0_2) (hc0_2 : l0_2.length ≤ c0_2) (h : spec_plOver.f l0_0 l0_1 l0_2 a0_3 a0_4 = some r) :
    Calls Tryz.prog 27 #[.agg #[.slice A0_0 l0_0.length c0_0,.slice A0_1 l0_1.length c0_1,.slice A0_2 l0_2.length c0_2,.int .i64 a0_3,.int .i64 a0_4]] w fun e w' => e = .returned (.bool r) ∧ Below w.heap.size w w':=by
  obtain ⟨cs,hcs⟩ : ∃ cs,cs = [old w w.heap.size]:=⟨_,rfl⟩
  have hp : Hp w cs w:=by rw [hcs];exact Hp.old_start w
  have hc2 : ∀ W,Hp w cs W → Below w.heap.size w W:=fun W h => by rw [hcs] at h;exact h.since 0 _ rfl
  have hC0_0 : ∀ W,Hp w cs W → Kd.C k53 W A0_0 l0_0.length l0_0:=fun W h => Kd.C_below hr0_0 (hc2 W h)
  have hC0_1 : ∀ W,Hp w cs W → Kd.C k53 W A0_1 l0_1.length l0_1:=fun W h => Kd.C_below hr0_1 (hc2 W h)
  have hC0_2 : ∀ W,Hp w cs W → Kd.C (Kd.int .i64) W A0_2 l0_2.length l0_2:=fun W h => Kd.C_below hr0_2 (hc2 W h)
  clear hcs
  unfold spec_plOver.f at h
  refine sx_enter (N:=18) (l:=[.agg #[.slice A0_0 l0_0.length c0_0,.slice A0_1 l0_1.length c0_1,.slice A0_2 l0_2.length c0_2,.int .i64 a0_3,.int .i64 a0_4]]) Tryz.func27 rfl rfl rfl ?_
  refine wp_seq ?_
  refine sx_region ?_
  refine sx_box 1 hp #[.slice A0_0 l0_0.length c0_0,.slice A0_1 l0_1.length c0_1,.slice A0_2 l0_2.length c0_2,.int .i64 a0_3,.int .i64 a0_4] 31 (by rfl) (fun W => by kernel_rfl) ?_
  intro g_1 W_2 hp
  refine sx_rd 2 (.bool false) (by rfl) (by kernel_rfl) ?_
  refine sx_nil ?_
  refine ex_then_n ?_
  refine wp_seq ?_
  by_cases hc_3 : (l0_0.length : Int) = 0
  ·
    rw [if_pos hc_3] at h
    refine sx_region ?_
    refine sx_rd 3 (.pointer (some ⟨g_1,0,none⟩)) (by rfl) (by kernel_rfl) ?_
    refine sx_rd 4 (.slice A0_0 l0_0.length c0_0) (by rfl) (ld1 (t:=29) (p:=(.tmp 3)) (by rfl) (by rfl) (by kernel_rfl) (hp.cell 0 (by rfl) 0 _ (by rfl))) ?_
    refine sx_rd 5 (.int .i64 (l0_0.length : Int)) (by rfl) (by kernel_rfl) ?_
    refine sx_rd 6 (.bool true) (by rfl) (bv (beq_iff_eq.mpr hc_3) (by kernel_rfl)) ?_
    refine sx_rd 7 (.bool true) (by rfl) (by kernel_rfl) ?_
    refine sx_skip 8 (by rfl) (by rfl) (by rfl) ?_
    refine sx_skip 9 (by rfl) (by rfl) (by rfl) ?_
    refine sx_skip 10 (by rfl) (by rfl) (by rfl) ?_
    refine sx_skip 11 (by rfl) (by rfl) (by rfl) ?_
    refine sx_rd 12 (.bool true) (by rfl) (by kernel_rfl) ?_
    refine sx_rd 13 (.bool true) (by rfl) (by kernel_rfl) ?_
    refine sx_skip 14 (by rfl) (by rfl) (by rfl) ?_
    refine sx_skip 15 (by rfl) (by rfl) (by rfl) ?_
    refine sx_skip 16 (by rfl) (by rfl) (by rfl) ?_
    refine sx_rd 17 (.bool true) (by rfl) (by kernel_rfl) ?_
    refine sx_rd 2 (.bool true) (by rfl) (by kernel_rfl) ?_
    refine sx_nil ?_
    refine ex_then_n ?_
    refine wp_ret ?_
    refine sx_end (.bool true) (res1 2 (by rfl)) ?_
    obtain rfl:=Option.some.inj h
    exact ⟨rfl,hc2 _ (hp.tail)⟩
  ·
    rw [if_neg hc_3] at h
    by_cases hc_4 : (l0_1.length : Int) = 0
    ·
      rw [if_pos hc_4] at h
      refine sx_region ?_
      refine sx_rd 3 (.pointer (some ⟨g_1,0,none⟩)) (by rfl) (by kernel_rfl) ?_
      refine sx_rd 4 (.slice A0_0 l0_0.length c0_0) (by rfl) (ld1 (t:=29) (p:=(.tmp 3)) (by rfl) (by rfl) (by kernel_rfl) (hp.cell 0 (by rfl) 0 _ (by rfl))) ?_
      refine sx_rd 5 (.int .i64 (l0_0.length : Int)) (by rfl) (by kernel_rfl) ?_
      refine sx_rd 6 (.bool false) (by rfl) (bv (beq_eq_false_iff_ne.mpr hc_3) (by kernel_rfl)) ?_
      refine sx_rd 7 (.bool false) (by rfl) (by kernel_rfl) ?_
      refine sx_want (by rfl) ?_
      refine sx_rd 8 (.pointer (some ⟨g_1,1,none⟩)) (by rfl) (by kernel_rfl) ?_
      refine sx_want (by rfl) ?_
      refine sx_rd 9 (.slice A0_1 l0_1.length c0_1) (by rfl) (ld1 (t:=29) (p:=(.tmp 8)) (by rfl) (by rfl) (by kernel_rfl) (hp.cell 0 (by rfl) 1 _ (by rfl))) ?_
      refine sx_want (by rfl) ?_
      refine sx_rd 10 (.int .i64 (l0_1.length : Int)) (by rfl) (by kernel_rfl) ?_
      refine sx_want (by rfl) ?_
      refine sx_rd 11 (.bool true) (by rfl) (bv (beq_iff_eq.mpr hc_4) (by kernel_rfl)) ?_
      refine sx_rd 12 (.bool true) (by rfl) (by kernel_rfl) ?_
      refine sx_rd 13 (.bool true) (by rfl) (by kernel_rfl) ?_
      refine sx_skip 14 (by rfl) (by rfl) (by rfl) ?_
      refine sx_skip 15 (by rfl) (by rfl) (by rfl) ?_
      refine sx_skip 16 (by rfl) (by rfl) (by rfl) ?_
      refine sx_rd 17 (.bool true) (by rfl) (by kernel_rfl) ?_
      refine sx_rd 2 (.bool true) (by rfl) (by kernel_rfl) ?_
      refine sx_nil ?_
      refine ex_then_n ?_
      refine wp_ret ?_
      refine sx_end (.bool true) (res1 2 (by rfl)) ?_
      obtain rfl:=Option.some.inj h
      exact ⟨rfl,hc2 _ (hp.tail)⟩
    ·
      rw [if_neg hc_4] at h
      refine sx_region ?_
      refine sx_rd 3 (.pointer (some ⟨g_1,0,none⟩)) (by rfl) (by kernel_rfl) ?_
      refine sx_rd 4 (.slice A0_0 l0_0.length c0_0) (by rfl) (ld1 (t:=29) (p:=(.tmp 3)) (by rfl) (by rfl) (by kernel_rfl) (hp.cell 0 (by rfl) 0 _ (by rfl))) ?_
      refine sx_rd 5 (.int .i64 (l0_0.length : Int)) (by rfl) (by kernel_rfl) ?_
      refine sx_rd 6 (.bool false) (by rfl) (bv (beq_eq_false_iff_ne.mpr hc_3) (by kernel_rfl)) ?_
      refine sx_rd 7 (.bool false) (by rfl) (by kernel_rfl) ?_
      refine sx_want (by rfl) ?_
      refine sx_rd 8 (.pointer (some ⟨g_1,1,none⟩)) (by rfl) (by kernel_rfl) ?_
      refine sx_want (by rfl) ?_
      refine sx_rd 9 (.slice A0_1 l0_1.length c0_1) (by rfl) (ld1 (t:=29) (p:=(.tmp 8)) (by rfl) (by rfl) (by kernel_rfl) (hp.cell 0 (by rfl) 1 _ (by rfl))) ?_
      refine sx_want (by rfl) ?_
      refine sx_rd 10 (.int .i64 (l0_1.length : Int)) (by rfl) (by kernel_rfl) ?_
      refine sx_want (by rfl) ?_
      refine sx_rd 11 (.bool false) (by rfl) (bv (beq_eq_false_iff_ne.mpr hc_4) (by kernel_rfl)) ?_
      refine sx_rd 12 (.bool false) (by rfl) (by kernel_rfl) ?_
      refine sx_rd 13 (.bool false) (by rfl) (by kernel_rfl) ?_
      refine sx_want (by rfl) ?_
      refine sx_rd 14 (.pointer (some ⟨g_1,4,none⟩)) (by rfl) (by kernel_rfl) ?_
      refine sx_want (by rfl) ?_
      refine sx_rd 15 (.int .i64 a0_4) (by rfl) (ld1 (t:=3) (p:=(.tmp 14)) (by rfl) (by rfl) (by kernel_rfl) (hp.cell 0 (by rfl) 4 _ (by rfl))) ?_
      refine sx_want (by rfl) ?_
      refine sx_rd 16 (.bool (a0_4 == 2)) (by rfl) (by kernel_rfl) ?_
      refine sx_rd 17 (.bool (a0_4 == 2)) (by rfl) (by kernel_rfl) ?_
      refine sx_rd 2 (.bool (a0_4 == 2)) (by rfl) (by kernel_rfl) ?_
      refine sx_nil ?_
      refine ex_then_n ?_
      refine wp_ret ?_
      refine sx_end (.bool (a0_4 == 2)) (res1 2 (by rfl)) ?_
      obtain rfl:=Option.some.inj h
      exact ⟨rfl,hc2 _ (hp.tail)⟩
end
section
open Go.RowKit Go.Proofs.YtjaojemmbeddfaaGreatW.PrintWords Go.Proofs.YtjaojemmbeddfaaGreatW.PrintLast Go.Proofs.YtjaojemmbeddfaaGreatW.PrintMore
attribute [local go_sem] max2_int min2_int max_two min_two max_three min_three max_four min_four   -- for this text's walks alone
set_option linter.unusedVariables false
set_option linter.unusedSimpArgs false

def spec_l1Own.f (l0 : List Int) : Option (List Int):=(some (([] : List Int) : List Int)).bind fun y182 => (if y182.length + l0.length < 17592186044416 then (some (y182 ++ l0)) else (none))
set_option maxRecDepth 100000 in
set_option maxHeartbeats 40000000 in
theorem spec_l1Own.calls (A0 : Option Addr) (c0 : Nat) (l0 : List Int) (r : List Int) (w : World) (hr0 : Kd.C (Kd.int .i64) w A0 l0.length l0) (hc0 : l0.length ≤ c0) (h : spec_l1Own.f l0 = some r) :
    Calls Tryz.prog 47 #[.slice A0 l0.length c0] w fun e w' => ∃ v0_ : Value,e = .returned (v0_) ∧ Kd.R (Kd.int .i64) 3 w' w.heap.size (fun _ => True) v0_ r ∧ Below w.heap.size w w':=by
  obtain ⟨cs,hcs⟩ : ∃ cs,cs = [old w w.heap.size]:=⟨_,rfl⟩
  have hp : Hp w cs w:=by rw [hcs];exact Hp.old_start w
  have hc2 : ∀ W,Hp w cs W → Below w.heap.size w W:=fun W h => by rw [hcs] at h;exact h.since 0 _ rfl
  have hC0 : ∀ W,Hp w cs W → Kd.C (Kd.int .i64) W A0 l0.length l0:=fun W h => Kd.C_below hr0 (hc2 W h)
  clear hcs
  unfold spec_l1Own.f at h
  try simp only [Option.bind_some] at h
  by_cases hc_1 : (([] : List Int) : List Int).length + l0.length < 17592186044416
  case neg => rw [if_neg hc_1] at h;cases h
  rw [if_pos hc_1] at h
  refine sx_enter (N:=6) (l:=[.slice A0 l0.length c0]) Tryz.func47 rfl rfl rfl ?_
  refine wp_seq ?_
  refine sx_region ?_
  refine sx_rd 2 (.slice none 0 0) (by rfl) (by kernel_rfl) ?_
  refine sx_nil ?_
  refine ex_then_n ?_
  refine wp_seq ?_
  refine sx_region ?_
  refine sx_lit 3 (by rfl) (Kd.int .i64) w.heap.size 3 ([] : List Int) [] (fun W => by kernel_rfl) (Reps.none _ _) (by simp) hp.size hp ?_
  intro g_2 F_3 W_4 hp hz;clear hz
  refine sx_rd 4 (.slice A0 l0.length c0) (by rfl) (by kernel_rfl) ?_
  refine sx_append 5 (by rfl) (Kd.int .i64) 0 (by rfl) (.int .i64 0) 8 (by rfl) Tryz.underlying23 (by kernel_rfl) rfl (by decide) (by decide) l0 (by rfl) (by rfl) (hC0 _ hp.tail) (fun x cs h => h) hp.size (by first|omega|(simp;omega)) hp ?_
  intro A_5 c_6 F_7 W_8 hp hz;clear hz;simp only [List.set_cons_succ,List.set_cons_zero] at hp
  refine sx_rd 2 (.slice A_5 l0.length c_6) (by rfl) (by kernel_rfl) ?_
  refine sx_nil ?_
  refine ex_then_n ?_
  refine wp_ret ?_
  refine sx_end (.slice A_5 l0.length c_6) (res1 2 (by rfl)) ?_
  obtain rfl:=Option.some.inj h
  exact ⟨_,rfl,Kd.R_mono (row_R (hp.at_ 0 _ (by rfl))) (fun _ _ => trivial),hc2 _ (hp.tail)⟩
end
section
open Go.RowKit Go.Proofs.YtjaojemmbeddfaaGreatW.PrintWords Go.Proofs.YtjaojemmbeddfaaGreatW.PrintLast Go.Proofs.YtjaojemmbeddfaaGreatW.PrintMore
attribute [local go_sem] max2_int min2_int max_two min_two max_three min_three max_four min_four   -- for this text's walks alone
set_option linter.unusedVariables false
set_option linter.unusedSimpArgs false

def spec_plOwn.f (l0_0 : List (S_Tile)) (l0_1 : List (S_Tile)) (l0_2 : List Int) (a0_3 : Int) (a0_4 : Int) : Option ((List (S_Tile)) × (List (S_Tile)) × List Int × Int × Int):=(some (([] : List (S_Tile)) : List (S_Tile))).bind fun y190 => (if y190.length + l0_0.length < 8796093022208 then ((some (([] : List (S_Tile)) : List (S_Tile))).bind fun y196 => (if y196.length + l0_1.length < 8796093022208 then ((spec_l1Own.f l0_2).bind fun t202 => (some ((y190 ++ l0_0),(y196 ++ l0_1),t202,a0_3,a0_4))) else (none))) else (none))
set_option maxRecDepth 100000 in
set_option maxHeartbeats 40000000 in
theorem spec_plOwn.calls (A0_0 : Option Addr) (c0_0 : Nat) (l0_0 : List (S_Tile)) (A0_1 : Option Addr) (c0_1 : Nat) (l0_1 : List (S_Tile)) (A0_2 : Option Addr) (c0_2 : Nat) (l0_2 : List Int) (a0_3 : Int) (a0_4 : Int) (r1 : List (S_Tile)) (r2 : List (S_Tile)) (r3 : List Int) (r4 : Int) (r5 : Int) (w : World) (hr0_0 : Kd.C k53 w A0_0 l0_0.length l0_0) (hc0_0 : l0_0.length ≤ c0_0) (hr0_1 : Kd.C k53 w A0_1 l0_1.length l0_1) (hc0_1 : l0_1.length ≤ c0_1) (hr0_2 : Kd.C (Kd.int .i64) w A0_2 l0_2.length l0_2) (hc0_2 : l0_2.length ≤ c0_2) (h : spec_plOwn.f l0_0 l0_1 l0_2 a0_3 a0_4 = some (r1,r2,r3,r4,r5)) :
    Calls Tryz.prog 45 #[.agg #[.slice A0_0 l0_0.length c0_0,.slice A0_1 l0_1.length c0_1,.slice A0_2 l0_2.length c0_2,.int .i64 a0_3,.int .i64 a0_4]] w fun e w' => ∃ v0_ v1_ v2_ : Value,e = .returned (.agg #[v0_,v1_,v2_,.int .i64 r4,.int .i64 r5]) ∧ Kd.R k53 53 w' w.heap.size (fun k_ => some k_ ≠ (v1_ : Value).ownBlock) v0_ r1 ∧ Kd.R k53 53 w' w.heap.size (fun k_ => some k_ ≠ (v0_ : Value).ownBlock) v1_ r2 ∧ Kd.R (Kd.int .i64) 3 w' w.heap.size (fun _ => True) v2_ r3 ∧ Below w.heap.size w w':=by
  obtain ⟨cs,hcs⟩ : ∃ cs,cs = [old w w.heap.size]:=⟨_,rfl⟩
  have hp : Hp w cs w:=by rw [hcs];exact Hp.old_start w
  have hc2 : ∀ W,Hp w cs W → Below w.heap.size w W:=fun W h => by rw [hcs] at h;exact h.since 0 _ rfl
  have hC0_0 : ∀ W,Hp w cs W → Kd.C k53 W A0_0 l0_0.length l0_0:=fun W h => Kd.C_below hr0_0 (hc2 W h)
  have hC0_1 : ∀ W,Hp w cs W → Kd.C k53 W A0_1 l0_1.length l0_1:=fun W h => Kd.C_below hr0_1 (hc2 W h)
  have hC0_2 : ∀ W,Hp w cs W → Kd.C (Kd.int .i64) W A0_2 l0_2.length l0_2:=fun W h => Kd.C_below hr0_2 (hc2 W h)
  clear hcs
  unfold spec_plOwn.f at h
  try simp only [Option.bind_some] at h
  by_cases hc_1 : (([] : List (S_Tile)) : List (S_Tile)).length + l0_0.length < 8796093022208
  case neg => rw [if_neg hc_1] at h;cases h
  rw [if_pos hc_1] at h
  try simp only [Option.bind_some] at h
  by_cases hc_2 : (([] : List (S_Tile)) : List (S_Tile)).length + l0_1.length < 8796093022208
  case neg => rw [if_neg hc_2] at h;cases h
  rw [if_pos hc_2] at h
  obtain ⟨t_4,hv_3,h⟩:=Option.bind_eq_some_iff.mp h
  try dsimp only at h
  refine sx_enter (N:=18) (l:=[.agg #[.slice A0_0 l0_0.length c0_0,.slice A0_1 l0_1.length c0_1,.slice A0_2 l0_2.length c0_2,.int .i64 a0_3,.int .i64 a0_4]]) Tryz.func45 rfl rfl rfl ?_
  refine wp_seq ?_
  refine sx_region ?_
  refine sx_box 1 hp #[.slice A0_0 l0_0.length c0_0,.slice A0_1 l0_1.length c0_1,.slice A0_2 l0_2.length c0_2,.int .i64 a0_3,.int .i64 a0_4] 31 (by rfl) (fun W => by kernel_rfl) ?_
  intro g_5 W_6 hp
  refine sx_box 2 hp #[.slice none 0 0,.slice none 0 0,.slice none 0 0,.int .i64 0,.int .i64 0] 31 (by rfl) (fun W => by kernel_rfl) ?_
  intro g_7 W_8 hp
  refine sx_nil ?_
  refine ex_then_n ?_
  refine wp_seq ?_
  refine sx_region ?_
  refine sx_lit 3 (by rfl) k53 w.heap.size 53 ([] : List S_Tile) [] (fun W => by kernel_rfl) (Reps.none _ _) (by simp) hp.size hp ?_
  intro g_9 F_10 W_11 hp hz;clear hz
  refine sx_rd 4 (.pointer (some ⟨g_5,0,none⟩)) (by rfl) (by kernel_rfl) ?_
  refine sx_rd 5 (.slice A0_0 l0_0.length c0_0) (by rfl) (ld1 (t:=29) (p:=(.tmp 4)) (by rfl) (by rfl) (by kernel_rfl) (hp.cell 2 (by rfl) 0 _ (by rfl))) ?_
  refine sx_append 6 (by rfl) k53 0 (by rfl) (.agg #[.int .i64 0,.int .i64 0]) 16 (by rfl) Tryz.underlying29 (by kernel_rfl) rfl (by decide) (by decide) l0_0 (by rfl) (by rfl) (hC0_0 _ hp.tail.tail.tail) tile_kp hp.size (by first|omega|(simp;omega)) hp ?_
  intro A_12 c_13 F_14 W_15 hp hz;clear hz;simp only [List.set_cons_succ,List.set_cons_zero] at hp
  refine sx_rd 7 (.pointer (some ⟨g_5,0,none⟩)) (by rfl) (by kernel_rfl) ?_
  refine sx_store (t:=29) (p:=(.tmp 7)) (x:=(.tmp 6)) (by rfl) (by rfl) 2 (by rfl) 0 [.slice A_12 l0_0.length c_13] (by rfl) (by rfl) (by kernel_rfl) (by simp [Value.oneCell']) (by show 1 ≤ 5;omega) #[.slice A_12 l0_0.length c_13,.slice A0_1 l0_1.length c0_1,.slice A0_2 l0_2.length c0_2,.int .i64 a0_3,.int .i64 a0_4] (by rfl) hp ?_
  intro W_16 hp;simp only [List.set_cons_succ,List.set_cons_zero] at hp
  refine sx_nil ?_
  refine ex_then_n ?_
  refine wp_seq ?_
  refine sx_region ?_
  refine sx_lit 8 (by rfl) k53 w.heap.size 53 ([] : List S_Tile) [] (fun W => by kernel_rfl) (Reps.none _ _) (by simp) hp.size hp ?_
  intro g_17 F_18 W_19 hp hz;clear hz
  refine sx_rd 9 (.pointer (some ⟨g_5,1,none⟩)) (by rfl) (by kernel_rfl) ?_
  refine sx_rd 10 (.slice A0_1 l0_1.length c0_1) (by rfl) (ld1 (t:=29) (p:=(.tmp 9)) (by rfl) (by rfl) (by kernel_rfl) (hp.cell 3 (by rfl) 1 _ (by rfl))) ?_
  refine sx_append 11 (by rfl) k53 0 (by rfl) (.agg #[.int .i64 0,.int .i64 0]) 16 (by rfl) Tryz.underlying29 (by kernel_rfl) rfl (by decide) (by decide) l0_1 (by rfl) (by rfl) (hC0_1 _ hp.tail.tail.tail.tail) tile_kp hp.size (by first|omega|(simp;omega)) hp ?_
  intro A_20 c_21 F_22 W_23 hp hz;clear hz;simp only [List.set_cons_succ,List.set_cons_zero] at hp
  refine sx_rd 12 (.pointer (some ⟨g_5,1,none⟩)) (by rfl) (by kernel_rfl) ?_
  refine sx_store (t:=29) (p:=(.tmp 12)) (x:=(.tmp 11)) (by rfl) (by rfl) 3 (by rfl) 1 [.slice A_20 l0_1.length c_21] (by rfl) (by rfl) (by kernel_rfl) (by simp [Value.oneCell']) (by show 2 ≤ 5;omega) #[.slice A_12 l0_0.length c_13,.slice A_20 l0_1.length c_21,.slice A0_2 l0_2.length c0_2,.int .i64 a0_3,.int .i64 a0_4] (by rfl) hp ?_
  intro W_24 hp;simp only [List.set_cons_succ,List.set_cons_zero] at hp
  refine sx_nil ?_
  refine ex_then_n ?_
  refine wp_seq ?_
  refine sx_region ?_
  refine sx_rd 13 (.pointer (some ⟨g_5,2,none⟩)) (by rfl) (by kernel_rfl) ?_
  refine sx_rd 14 (.slice A0_2 l0_2.length c0_2) (by rfl) (ld1 (t:=23) (p:=(.tmp 13)) (by rfl) (by rfl) (by kernel_rfl) (hp.cell 3 (by rfl) 2 _ (by rfl))) ?_
  refine sx_call 15 (by rfl) (by kernel_rfl) ((spec_l1Own.calls A0_2 c0_2 l0_2 _ _ (hC0_2 _ hp.tail.tail.tail.tail) hc0_2 hv_3).mono ?_)
  rintro _ W_30 ⟨v_26,rfl,hR_25,hb⟩
  refine ⟨_,rfl,?_⟩
  obtain ⟨A_27,c_28,rfl,hcc_c_28,_⟩:=Kd.R_reads hR_25
  obtain ⟨F_29,hp⟩ : ∃ F,Hp w (row (Kd.int .i64) 3 w.heap.size (.slice A_27 t_4.length c_28) t_4 F :: row k53 53 w.heap.size (.slice A_20 l0_1.length c_21) l0_1 F_22 :: row k53 53 w.heap.size (.slice A_12 l0_0.length c_13) l0_0 F_14 :: blk g_7 #[.slice none 0 0,.slice none 0 0,.slice none 0 0,.int .i64 0,.int .i64 0] 31 :: blk g_5 #[.slice A_12 l0_0.length c_13,.slice A_20 l0_1.length c_21,.slice A0_2 l0_2.length c0_2,.int .i64 a0_3,.int .i64 a0_4] 31 :: cs) _:=⟨_,Hp.made hp hb hR_25⟩
  refine sx_rd 16 (.pointer (some ⟨g_5,2,none⟩)) (by rfl) (by kernel_rfl) ?_
  refine sx_store (t:=23) (p:=(.tmp 16)) (x:=(.tmp 15)) (by rfl) (by rfl) 4 (by rfl) 2 [.slice A_27 t_4.length c_28] (by rfl) (by rfl) (by kernel_rfl) (by simp [Value.oneCell']) (by show 3 ≤ 5;omega) #[.slice A_12 l0_0.length c_13,.slice A_20 l0_1.length c_21,.slice A_27 t_4.length c_28,.int .i64 a0_3,.int .i64 a0_4] (by rfl) hp ?_
  intro W_31 hp;simp only [List.set_cons_succ,List.set_cons_zero] at hp
  refine sx_nil ?_
  refine ex_then_n ?_
  refine wp_seq ?_
  refine sx_region ?_
  refine sx_rd 17 (.agg #[.slice A_12 l0_0.length c_13,.slice A_20 l0_1.length c_21,.slice A_27 t_4.length c_28,.int .i64 a0_3,.int .i64 a0_4]) (by rfl) (ldn (t:=31) (p:=(.tmp 1)) (by rfl) (by rfl) (by kernel_rfl) (by kernel_rfl) (by kernel_rfl) (hp.at_ 4 _ (by rfl))) ?_
  refine sx_store (t:=31) (p:=(.tmp 2)) (x:=(.tmp 17)) (by rfl) (by rfl) 3 (by rfl) 0 [.slice A_12 l0_0.length c_13,.slice A_20 l0_1.length c_21,.slice A_27 t_4.length c_28,.int .i64 a0_3,.int .i64 a0_4] (by rfl) (by rfl) (by kernel_rfl) (by simp [Value.oneCell']) (by show 5 ≤ 5;omega) #[.slice A_12 l0_0.length c_13,.slice A_20 l0_1.length c_21,.slice A_27 t_4.length c_28,.int .i64 a0_3,.int .i64 a0_4] (by rfl) hp ?_
  intro W_32 hp;simp only [List.set_cons_succ,List.set_cons_zero] at hp
  refine sx_nil ?_
  refine ex_then_n ?_
  refine wp_ret ?_
  refine sx_end (.agg #[.slice A_12 l0_0.length c_13,.slice A_20 l0_1.length c_21,.slice A_27 t_4.length c_28,.int .i64 a0_3,.int .i64 a0_4]) (resc (by rfl) (by rfl) (by kernel_rfl) (by kernel_rfl) (hp.at_ 3 _ (by rfl))) ?_
  simp only [Option.some.injEq,Prod.mk.injEq] at h;obtain ⟨rfl,rfl,rfl,rfl,rfl⟩:=h
  exact ⟨_,_,_,rfl,Kd.R_mono (row_R (hp.at_ 2 _ (by rfl))) (fun k_ hk_ => Hp.apart_rows hp 2 1 (by decide) (by rfl) (by rfl) k_ hk_),Kd.R_mono (row_R (hp.at_ 1 _ (by rfl))) (fun k_ hk_ => Hp.apart_rows hp 1 2 (by decide) (by rfl) (by rfl) k_ hk_),Kd.R_mono (row_R (hp.at_ 0 _ (by rfl))) (fun _ _ => trivial),hc2 _ (hp.tail.tail.tail.tail.tail)⟩
end
section
open Go.RowKit Go.Proofs.YtjaojemmbeddfaaGreatW.PrintWords Go.Proofs.YtjaojemmbeddfaaGreatW.PrintLast Go.Proofs.YtjaojemmbeddfaaGreatW.PrintMore
attribute [local go_sem] max2_int min2_int max_two min_two max_three min_three max_four min_four   -- for this text's walks alone
set_option linter.unusedVariables false
set_option linter.unusedSimpArgs false

attribute [local go_sem high] eqA53
def spec_plWithout.l0 : Nat → List (S_Tile) → List (S_Tile) → Int → Int → Int → Int → Option ((List (S_Tile)))
  | 0,_,_,_,_,_,_ => none
  | k + 1,x5,x8,x9,x10,x206000,x206001 => if x10 < x9 then (if 0 ≤ x10 then (if x10 < (x8.length : Int) then (if (!(((rd_Tile x8 x10).f0) == x206000) || (!(((rd_Tile x8 x10).f1) == x206001))) = true then (if x5.length < 8796093022208 then (spec_plWithout.l0 k (x5 ++ [(⟨(rd_Tile x8 x10).f0,(rd_Tile x8 x10).f1⟩ : S_Tile)]) x8 x9 (wrap64 (x10 + 1)) x206000 x206001) else (none)) else (spec_plWithout.l0 k x5 x8 x9 (wrap64 (x10 + 1)) x206000 x206001)) else (none)) else (none)) else (some x5)
def spec_plWithout.f (k : Nat) (l0 : List (S_Tile)) (a1_0 : Int) (a1_1 : Int) : Option ((List (S_Tile))):=spec_plWithout.l0 k ([] : List (S_Tile)) l0 (l0.length : Int) 0 a1_0 a1_1
set_option maxRecDepth 100000 in
set_option maxHeartbeats 40000000 in
theorem spec_plWithout.calls (k : Nat) (A0 : Option Addr) (c0 : Nat) (l0 : List (S_Tile)) (a1_0 : Int) (a1_1 : Int) (r : List (S_Tile)) (w : World) (hr0 : Kd.C k53 w A0 l0.length l0) (hc0 : l0.length ≤ c0) (h : spec_plWithout.f k l0 a1_0 a1_1 = some r) :
    Calls Tryz.prog 46 #[.slice A0 l0.length c0,.agg #[.int .i64 a1_0,.int .i64 a1_1]] w fun e w' => ∃ v0_ : Value,e = .returned (v0_) ∧ Kd.R k53 53 w' w.heap.size (fun _ => True) v0_ r ∧ Below w.heap.size w w':=by
  obtain ⟨cs,hcs⟩ : ∃ cs,cs = [old w w.heap.size]:=⟨_,rfl⟩
  have hp : Hp w cs w:=by rw [hcs];exact Hp.old_start w
  have hc2 : ∀ W,Hp w cs W → Below w.heap.size w W:=fun W h => by rw [hcs] at h;exact h.since 0 _ rfl
  have hC0 : ∀ W,Hp w cs W → Kd.C k53 W A0 l0.length l0:=fun W h => Kd.C_below hr0 (hc2 W h)
  clear hcs
  unfold spec_plWithout.f at h
  refine sx_enter (N:=23) (l:=[.slice A0 l0.length c0,.agg #[.int .i64 a1_0,.int .i64 a1_1]]) Tryz.func46 rfl rfl rfl ?_
  refine wp_seq ?_
  refine sx_region ?_
  refine sx_box 3 hp #[.int .i64 a1_0,.int .i64 a1_1] 53 (by rfl) (fun W => by kernel_rfl) ?_
  intro g_1 W_2 hp
  refine sx_rd 4 (.slice none 0 0) (by rfl) (by kernel_rfl) ?_
  refine sx_nil ?_
  refine ex_then_n ?_
  refine wp_seq ?_
  refine sx_region ?_
  refine sx_rd 5 (.slice none 0 0) (by rfl) (by kernel_rfl) ?_
  refine sx_nil ?_
  refine ex_then_n ?_
  refine wp_seq ?_
  refine wp_seq ?_
  refine sx_region ?_
  refine sx_rd 8 (.slice A0 l0.length c0) (by rfl) (by kernel_rfl) ?_
  refine sx_rd 9 (.int .i64 (l0.length : Int)) (by rfl) (by kernel_rfl) ?_
  refine sx_rd 10 (.int .i64 0) (by rfl) (by kernel_rfl) ?_
  refine sx_nil ?_
  refine ex_then_n ?_
  refine wp_block ?_
  have hp:=hp.nilrow k53 53 w.heap.size
  refine wp_loop_ghost (fun n_ a_ W => ∃ (r_ : List (Nat × Value)) (k_5 : Nat) (x_4 : Int) (x_3 : List (S_Tile)) (A_6 : Option Addr) (n_7 c_8 : Nat) (F_9 : Nat → Prop),n_ = k_5 + 1 ∧ a_ = fr 23 ([(3,.pointer (some ⟨g_1,0,none⟩)),(5,.slice A_6 n_7 c_8),(8,.slice A0 l0.length c0),(9,.int .i64 (l0.length : Int)),(10,.int .i64 x_4)] ++ r_) ∧ Hp w (row k53 53 w.heap.size (.slice A_6 n_7 c_8) x_3 F_9 :: blk g_1 #[.int .i64 a1_0,.int .i64 a1_1] 53 :: cs) W ∧ (spec_plWithout.l0 k_5 x_3 l0 (l0.length : Int) x_4 a1_0 a1_1 = some r) ∧ (k_5 ≤ k)) _ ⟨_,k,0,([] : List (S_Tile)),_,_,_,_,rfl,fr_front [(3,.pointer (some ⟨g_1,0,none⟩)),(5,.slice none 0 0),(8,.slice A0 l0.length c0),(9,.int .i64 (l0.length : Int)),(10,.int .i64 0)] ⟨rfl,rfl,rfl,rfl,rfl,trivial⟩,(hp.take [0,1] 2 (by decide) (by simp)),h,(Nat.le_refl _)⟩ ?_
  rintro _ _ W_11 ⟨r_,k_5,x_4,x_3,A_6,n_7,c_8,F_9,rfl,rfl,hp,h,hk_10⟩
  obtain ⟨rfl,-⟩:=row_len (hp.at_ 0 _ (by rfl))
  rcases k_5 with _|k_5
  · simp [spec_plWithout.l0] at h
  simp only [spec_plWithout.l0] at h
  refine wp_seq ?_
  refine sx_region ?_
  refine sx_rd 11 (.bool (decide (x_4 < (l0.length : Int)))) (by rfl) (by kernel_rfl) ?_
  refine sx_nil ?_
  refine ex_then_n ?_
  refine wp_seq ?_
  by_cases hc_12 : x_4 < (l0.length : Int)
  ·
    rw [if_pos hc_12] at h
    by_cases hc_13 : 0 ≤ x_4
    case neg => rw [if_neg hc_13] at h;cases h
    rw [if_pos hc_13] at h
    by_cases hc_14 : x_4 < (l0.length : Int)
    case neg => rw [if_neg hc_14] at h;cases h
    rw [if_pos hc_14] at h
    refine sx_then (decide (x_4 < (l0.length : Int))) (by rfl) (decide_eq_true hc_12) ?_
    refine wp_skip ?_
    refine ex_then_n ?_
    refine wp_seq ?_
    refine wp_block ?_
    refine wp_seq ?_
    refine sx_region ?_
    refine sx_rd 12 (.pointer (some (adr A0 x_4 2))) (by rfl) (ix_run (d:=k53) (hC0 _ hp.tail.tail) (t:=29) (by rfl) (by rfl) (by rfl) Tryz.underlying29 (by kernel_rfl) (by omega) (by omega)) ?_
    refine sx_rd 13 (.agg #[.int .i64 ((rd_Tile l0 x_4).f0),.int .i64 ((rd_Tile l0 x_4).f1)]) (by rfl) (el_run (d:=k53) (hC0 _ hp.tail.tail) z53 x_4 (by omega) (by omega) (cells:=[.int .i64 ((rd_Tile l0 x_4).f0),.int .i64 ((rd_Tile l0 x_4).f1)]) (fun cs h => k53_open h) 0 [.int .i64 ((rd_Tile l0 x_4).f0),.int .i64 ((rd_Tile l0 x_4).f1)] (by rfl) (t:=53) (p:=(.tmp 12)) (by rfl) (by rfl) (by kernel_rfl) (by kernel_rfl)) ?_
    refine sx_box 7 hp #[.int .i64 0,.int .i64 0] 53 (by rfl) (fun W => by kernel_rfl) ?_
    intro g_15 W_16 hp
    refine sx_store (t:=53) (p:=(.tmp 7)) (x:=(.tmp 13)) (by rfl) (by rfl) 0 (by rfl) 0 [.int .i64 ((rd_Tile l0 x_4).f0),.int .i64 ((rd_Tile l0 x_4).f1)] (by rfl) (by rfl) (by kernel_rfl) (by simp [Value.oneCell']) (by show 2 ≤ 2;omega) #[.int .i64 ((rd_Tile l0 x_4).f0),.int .i64 ((rd_Tile l0 x_4).f1)] (by rfl) hp ?_
    intro W_17 hp;simp only [List.set_cons_succ,List.set_cons_zero] at hp
    refine sx_nil ?_
    refine ex_then_n ?_
    refine wp_seq ?_
    refine sx_region ?_
    refine sx_rd 14 (.agg #[.int .i64 ((rd_Tile l0 x_4).f0),.int .i64 ((rd_Tile l0 x_4).f1)]) (by rfl) (ldn (t:=53) (p:=(.tmp 7)) (by rfl) (by rfl) (by kernel_rfl) (by kernel_rfl) (by kernel_rfl) (hp.at_ 0 _ (by rfl))) ?_
    refine sx_rd 15 (.agg #[.int .i64 a1_0,.int .i64 a1_1]) (by rfl) (ldn (t:=53) (p:=(.tmp 3)) (by rfl) (by rfl) (by kernel_rfl) (by kernel_rfl) (by kernel_rfl) (hp.at_ 2 _ (by rfl))) ?_
    refine sx_rd 16 (.bool (!((rd_Tile l0 x_4).f0 == a1_0) || !((rd_Tile l0 x_4).f1 == a1_1))) (by rfl) (neagg_run (by rfl) (by rfl) (by rfl) (fun d w => eqA53 d w _ _ _ _) (by kernel_rfl) (by simp)) ?_
    refine sx_nil ?_
    refine ex_then_n ?_
    by_cases hc_18 : (!(((rd_Tile l0 x_4).f0) == a1_0) || (!(((rd_Tile l0 x_4).f1) == a1_1))) = true
    ·
      rw [if_pos hc_18] at h
      by_cases hc_19 : x_3.length < 8796093022208
      case neg => rw [if_neg hc_19] at h;cases h
      rw [if_pos hc_19] at h
      refine sx_then (!((rd_Tile l0 x_4).f0 == a1_0) || !((rd_Tile l0 x_4).f1 == a1_1)) (by rfl) hc_18 ?_
      refine sx_region ?_
      refine sx_rd 17 (.slice A_6 x_3.length c_8) (by rfl) (by kernel_rfl) ?_
      refine sx_rd 18 (.agg #[.int .i64 ((rd_Tile l0 x_4).f0),.int .i64 ((rd_Tile l0 x_4).f1)]) (by rfl) (ldn (t:=53) (p:=(.tmp 7)) (by rfl) (by rfl) (by kernel_rfl) (by kernel_rfl) (by kernel_rfl) (hp.at_ 0 _ (by rfl))) ?_
      refine sx_lit 19 (by rfl) k53 w.heap.size 53 ([(rd_Tile l0 x_4)]) [.int .i64 ((rd_Tile l0 x_4).f0),.int .i64 ((rd_Tile l0 x_4).f1)] (fun W => by kernel_rfl) (tile_reps _ _ _) (by simp) hp.size hp ?_
      intro g_20 F_21 W_22 hp hz;clear hz
      refine sx_append 20 (by rfl) k53 2 (by rfl) (.agg #[.int .i64 0,.int .i64 0]) 16 (by rfl) Tryz.underlying29 (by kernel_rfl) rfl (by decide) (by decide) ([(rd_Tile l0 x_4)]) (by rfl) (by rfl) (row_C (hp.at_ 0 _ (by rfl))) tile_kp hp.size (by first|omega|(simp;omega)) hp ?_
      intro A_23 c_24 F_25 W_26 hp hz;clear hz;simp only [List.set_cons_succ,List.set_cons_zero] at hp
      refine sx_rd 5 (.slice A_23 ((x_3 ++ [(rd_Tile l0 x_4)]).length) c_24) (by rfl) (by kernel_rfl) ?_
      refine sx_nil ?_
      refine ex_blk_n ?_
      refine ex_then_n ?_
      refine sx_region ?_
      refine sx_rd 21 (.int .i64 (wrap64 (x_4 + 1))) (by rfl) (wr_w (by kernel_rfl)) ?_
      refine sx_rd 10 (.int .i64 (wrap64 (x_4 + 1))) (by rfl) (by kernel_rfl) ?_
      refine sx_nil ?_
      refine ex_then_n ?_
      exact ⟨_,(by omega),_,k_5,(wrap64 (x_4 + 1)),(x_3 ++ [(⟨(rd_Tile l0 x_4).f0,(rd_Tile l0 x_4).f1⟩ : S_Tile)]),_,_,_,_,rfl,fr_front [(3,.pointer (some ⟨g_1,0,none⟩)),(5,.slice A_23 ((x_3 ++ [(rd_Tile l0 x_4)]).length) c_24),(8,.slice A0 l0.length c0),(9,.int .i64 (l0.length : Int)),(10,.int .i64 (wrap64 (x_4 + 1)))] ⟨rfl,rfl,rfl,rfl,rfl,trivial⟩,(hp.take [2,3] 4 (by decide) (by simp)),h,(by omega)⟩
    ·
      rw [if_neg hc_18] at h
      refine sx_else (!((rd_Tile l0 x_4).f0 == a1_0) || !((rd_Tile l0 x_4).f1 == a1_1)) (by rfl) (Bool.eq_false_iff.mpr hc_18) ?_
      refine wp_skip ?_
      refine ex_blk_n ?_
      refine ex_then_n ?_
      refine sx_region ?_
      refine sx_rd 21 (.int .i64 (wrap64 (x_4 + 1))) (by rfl) (wr_w (by kernel_rfl)) ?_
      refine sx_rd 10 (.int .i64 (wrap64 (x_4 + 1))) (by rfl) (by kernel_rfl) ?_
      refine sx_nil ?_
      refine ex_then_n ?_
      exact ⟨_,(by omega),_,k_5,(wrap64 (x_4 + 1)),x_3,_,_,_,_,rfl,fr_front [(3,.pointer (some ⟨g_1,0,none⟩)),(5,.slice A_6 x_3.length c_8),(8,.slice A0 l0.length c0),(9,.int .i64 (l0.length : Int)),(10,.int .i64 (wrap64 (x_4 + 1)))] ⟨rfl,rfl,rfl,rfl,rfl,trivial⟩,(hp.take [1,2] 3 (by decide) (by simp)),h,(by omega)⟩
  ·
    rw [if_neg hc_12] at h
    refine sx_else (decide (x_4 < (l0.length : Int))) (by rfl) (decide_eq_false hc_12) ?_
    refine wp_exit ?_
    refine ex_then_e (ex_then_e (ex_blk_here ?_))
    refine ex_then_n ?_
    refine wp_seq ?_
    refine sx_region ?_
    refine sx_rd 22 (.slice A_6 x_3.length c_8) (by rfl) (by kernel_rfl) ?_
    refine sx_rd 4 (.slice A_6 x_3.length c_8) (by rfl) (by kernel_rfl) ?_
    refine sx_nil ?_
    refine ex_then_n ?_
    refine wp_ret ?_
    refine sx_end (.slice A_6 x_3.length c_8) (res1 4 (by rfl)) ?_
    obtain rfl:=Option.some.inj h
    exact ⟨_,rfl,Kd.R_mono (row_R (hp.at_ 0 _ (by rfl))) (fun _ _ => trivial),hc2 _ (hp.tail.tail)⟩
end
section
open Go.RowKit Go.Proofs.YtjaojemmbeddfaaGreatW.PrintWords Go.Proofs.YtjaojemmbeddfaaGreatW.PrintLast Go.Proofs.YtjaojemmbeddfaaGreatW.PrintMore
attribute [local go_sem] max2_int min2_int max_two min_two max_three min_three max_four min_four   -- for this text's walks alone
set_option linter.unusedVariables false
set_option linter.unusedSimpArgs false

def laws_toTile.f (a0_0 : Int) (a0_1 : Int) : Option (Int × Int):=some (a0_0,a0_1)
set_option maxRecDepth 100000 in
set_option maxHeartbeats 40000000 in
theorem laws_toTile.calls (a0_0 : Int) (a0_1 : Int) (r1 : Int) (r2 : Int) (w : World) (h : laws_toTile.f a0_0 a0_1 = some (r1,r2)) :
    Calls Tryz.prog 31 #[.agg #[.int .i64 a0_0,.int .i64 a0_1]] w fun e w' => e = .returned (.agg #[.int .i64 r1,.int .i64 r2]) ∧ Below w.heap.size w w':=by
  obtain ⟨cs,hcs⟩ : ∃ cs,cs = [old w w.heap.size]:=⟨_,rfl⟩
  have hp : Hp w cs w:=by rw [hcs];exact Hp.old_start w
  have hc2 : ∀ W,Hp w cs W → Below w.heap.size w W:=fun W h => by rw [hcs] at h;exact h.since 0 _ rfl
  clear hcs
  unfold laws_toTile.f at h
  refine sx_enter (N:=11) (l:=[.agg #[.int .i64 a0_0,.int .i64 a0_1]]) Tryz.func31 rfl rfl rfl ?_
  refine wp_seq ?_
  refine sx_region ?_
  refine sx_box 1 hp #[.int .i64 a0_0,.int .i64 a0_1] 59 (by rfl) (fun W => by kernel_rfl) ?_
  intro g_1 W_2 hp
  refine sx_box 2 hp #[.int .i64 0,.int .i64 0] 53 (by rfl) (fun W => by kernel_rfl) ?_
  intro g_3 W_4 hp
  refine sx_nil ?_
  refine ex_then_n ?_
  refine wp_seq ?_
  refine sx_region ?_
  refine sx_box 3 hp #[.int .i64 0,.int .i64 0] 53 (by rfl) (fun W => by kernel_rfl) ?_
  intro g_5 W_6 hp
  refine sx_nil ?_
  refine ex_then_n ?_
  refine wp_seq ?_
  refine sx_region ?_
  refine sx_rd 4 (.pointer (some ⟨g_1,0,none⟩)) (by rfl) (by kernel_rfl) ?_
  refine sx_rd 5 (.int .i64 a0_0) (by rfl) (ld1 (t:=3) (p:=(.tmp 4)) (by rfl) (by rfl) (by kernel_rfl) (hp.cell 2 (by rfl) 0 _ (by rfl))) ?_
  refine sx_rd 6 (.pointer (some ⟨g_5,0,none⟩)) (by rfl) (by kernel_rfl) ?_
  refine sx_store (t:=3) (p:=(.tmp 6)) (x:=(.tmp 5)) (by rfl) (by rfl) 0 (by rfl) 0 [.int .i64 a0_0] (by rfl) (by rfl) (by kernel_rfl) (by simp [Value.oneCell']) (by show 1 ≤ 2;omega) #[.int .i64 a0_0,.int .i64 0] (by rfl) hp ?_
  intro W_7 hp;simp only [List.set_cons_succ,List.set_cons_zero] at hp
  refine sx_nil ?_
  refine ex_then_n ?_
  refine wp_seq ?_
  refine sx_region ?_
  refine sx_rd 7 (.pointer (some ⟨g_1,1,none⟩)) (by rfl) (by kernel_rfl) ?_
  refine sx_rd 8 (.int .i64 a0_1) (by rfl) (ld1 (t:=3) (p:=(.tmp 7)) (by rfl) (by rfl) (by kernel_rfl) (hp.cell 2 (by rfl) 1 _ (by rfl))) ?_
  refine sx_rd 9 (.pointer (some ⟨g_5,1,none⟩)) (by rfl) (by kernel_rfl) ?_
  refine sx_store (t:=3) (p:=(.tmp 9)) (x:=(.tmp 8)) (by rfl) (by rfl) 0 (by rfl) 1 [.int .i64 a0_1] (by rfl) (by rfl) (by kernel_rfl) (by simp [Value.oneCell']) (by show 2 ≤ 2;omega) #[.int .i64 a0_0,.int .i64 a0_1] (by rfl) hp ?_
  intro W_8 hp;simp only [List.set_cons_succ,List.set_cons_zero] at hp
  refine sx_nil ?_
  refine ex_then_n ?_
  refine wp_seq ?_
  refine sx_region ?_
  refine sx_rd 10 (.agg #[.int .i64 a0_0,.int .i64 a0_1]) (by rfl) (ldn (t:=53) (p:=(.tmp 3)) (by rfl) (by rfl) (by kernel_rfl) (by kernel_rfl) (by kernel_rfl) (hp.at_ 0 _ (by rfl))) ?_
  refine sx_store (t:=53) (p:=(.tmp 2)) (x:=(.tmp 10)) (by rfl) (by rfl) 1 (by rfl) 0 [.int .i64 a0_0,.int .i64 a0_1] (by rfl) (by rfl) (by kernel_rfl) (by simp [Value.oneCell']) (by show 2 ≤ 2;omega) #[.int .i64 a0_0,.int .i64 a0_1] (by rfl) hp ?_
  intro W_9 hp;simp only [List.set_cons_succ,List.set_cons_zero] at hp
  refine sx_nil ?_
  refine ex_then_n ?_
  refine wp_ret ?_
  refine sx_end (.agg #[.int .i64 a0_0,.int .i64 a0_1]) (resc (by rfl) (by rfl) (by kernel_rfl) (by kernel_rfl) (hp.at_ 1 _ (by rfl))) ?_
  simp only [Option.some.injEq,Prod.mk.injEq] at h;obtain ⟨rfl,rfl⟩:=h
  exact ⟨rfl,hc2 _ (hp.tail.tail.tail)⟩
end
section
open Go.RowKit Go.Proofs.YtjaojemmbeddfaaGreatW.PrintWords Go.Proofs.YtjaojemmbeddfaaGreatW.PrintLast Go.Proofs.YtjaojemmbeddfaaGreatW.PrintMore
attribute [local go_sem] max2_int min2_int max_two min_two max_three min_three max_four min_four   -- for this text's walks alone
set_option linter.unusedVariables false
set_option linter.unusedSimpArgs false

def laws_toTileS.l0 : Nat → List (S_LTile) → List (S_Tile) → Int → Option ((List (S_Tile)))
  | 0,_,_,_ => none
  | k + 1,x0,x3,x4 => if x4 < (x0.length : Int) then (if 0 ≤ x4 then ((laws_toTile.f ((rd_LTile x0 x4).f0) ((rd_LTile x0 x4).f1)).bind fun bt243 => (if x4 < (x3.length : Int) then (laws_toTileS.l0 k x0 (x3.set (x4 : Int).toNat (⟨bt243.1,bt243.2⟩ : S_Tile)) (wrap64 (x4 + 1))) else (none))) else (none)) else (some x3)
def laws_toTileS.f (k : Nat) (l0 : List (S_LTile)) : Option ((List (S_Tile))):=if 0 ≤ (l0.length : Int) then (if ((l0.length : Int) : Int).toNat ≤ 17592186044416 then (laws_toTileS.l0 k l0 (List.replicate ((l0.length : Int) : Int).toNat z53) 0) else (none)) else (none)
set_option maxHeartbeats 8000000 in
set_option maxRecDepth 100000 in
theorem laws_toTileS.calls (k : Nat) (A0 : Option Addr) (c0 : Nat) (l0 : List (S_LTile)) (r : List (S_Tile)) (w : World) (hr0 : Kd.C k59 w A0 l0.length l0) (hc0 : l0.length ≤ c0) (h : laws_toTileS.f k l0 = some r) :
    Calls Tryz.prog 19 #[.slice A0 l0.length c0] w fun e w' => ∃ v0_ : Value,e = .returned (v0_) ∧ Kd.R k53 53 w' w.heap.size (fun _ => True) v0_ r ∧ Below w.heap.size w w':=by
  have hu59:=Tryz.underlying59
  have hu53:=Tryz.underlying53
  have HR0:=Aside0.mk hr0
  have HC0:=Aside0.mk hc0
  clear hr0 hc0
  have HB:=Aside0.mk (Below.refl w.heap.size w)
  have H : (if 0 ≤ (l0.length : Int) then (if ((l0.length : Int) : Int).toNat ≤ 17592186044416 then (laws_toTileS.l0 k l0 (List.replicate ((l0.length : Int) : Int).toNat z53) 0) else (none)) else (none)) = some r:=h
  clear h
  by_cases c2 : 0 ≤ (l0.length : Int)
  · rw [if_pos c2] at H
    have c2b0:=eq_true c2
    have c2b1 : decide (0 ≤ (l0.length : Int)) = true:=decide_eq_true c2
    clear c2
    by_cases c3 : ((l0.length : Int) : Int).toNat ≤ 17592186044416
    · rw [if_pos c3] at H
      have c3b0:=eq_true c3
      have c3b1 : decide (((l0.length : Int) : Int).toNat ≤ 17592186044416) = true:=decide_eq_true c3
      clear c3
      obtain ⟨y239,hy239⟩ : ∃ y_ : List (S_Tile),y_ = (List.replicate ((l0.length : Int) : Int).toNat z53):=⟨_,rfl⟩
      replace H : (laws_toTileS.l0 k l0 y239 0) = some r:=by first|(rw [hy239];with_reducible exact H)|(have H2_:=(Option.bind_some _ _).symm.trans H;rw [hy239];with_reducible exact H2_)|(have H2_:=(Option.bind_some _ _).symm.trans H;with_reducible exact H2_)|with_reducible exact H|(rw [hy239];exact H)|exact H
      have Ny239:=Aside0.mk hy239
      clear hy239
      have H':=Aside0.mk H
      clear H
      go_enter Tryz.func19,Tryz.ntmps19
      go_wp2_with (first|((with_reducible refine gate_dst (N:=7) rfl ?_);refine Kd.R_make k53 _ 53 rfl (N:=7) rfl 29 _ _ rfl (l0.length : Int) rfl rfl Tryz.underlying29 (.agg #[(.int .i64 0),(.int .i64 0)]) 16 info53 rfl (by decide) (by omega) z53 (ok:=fun _ => True) (okp:=fun _ => True) (k53_mkM _ _ _ z53 ) (fun _ hk => hk) trivial (of_decide_eq_true (by first|(with_reducible assumption)|assumption)) (Nat.le_trans (Nat.mul_le_mul_right _ (of_decide_eq_true (by first|(with_reducible assumption)|assumption) : (l0.length : Int).toNat ≤ 17592186044416)) (by omega)) (Below.refl _ _) (Nat.le_refl _) ?_;intro v240 w4 ho5 hb hg_ hnew_;clear hg_ hnew_;(first|rw [← Ny239.out] at ho5|(simp only [Int.reduceToNat] at ho5;rw [← Ny239.out] at ho5));have n0_:=Aside0.mk (Kd.R_lower ho5 (below_size (by repeat (first|(with_reducible first|exact HB.out|apply below_alloc|apply pw_below_drewN|apply below_drew1)|exact HB.out))));have n1_:=Aside0.mk (below_step (by repeat (first|(with_reducible first|exact HB.out|apply below_alloc|apply pw_below_drewN|apply below_drew1)|exact HB.out)) hb);clear HB;have HO241:=n0_;have HB:=n1_;clear n0_ n1_;clear hb ho5))
      go_loopg [4] k (fun kq v4 w' => ∃ (x3_1 : List (S_Tile)) (x4_1 : Int),v4 = .int .i64 x4_1 ∧ Aside0 (laws_toTileS.l0 kq l0 x3_1 x4_1 = some r) ∧ Aside0 (kq ≤ k) ∧ Aside0 (Kd.R k53 53 w' w.heap.size (fun _ => True) v240 x3_1) ∧ Aside0 (Below w.heap.size w w'))
      case atStart => exact ⟨(y239),(0),(by first|rfl|(simp;done)|(simp [*];done)),H',⟨Nat.le_refl _⟩,⟨by (with_reducible repeat (first|apply Kd.R_alloc|apply Kd.R_drewN|apply Kd.R_drew));exact HO241.out⟩,⟨by repeat (first|(with_reducible first|exact HB.out|apply below_alloc|apply pw_below_drewN|apply below_drew1)|exact HB.out)⟩⟩
      case round =>
        clear H'
        try clear c1
        try clear c2
        try clear c2b0
        try clear c2b1
        try clear p2
        try clear c3
        try clear c3b0
        try clear c3b1
        obtain ⟨x3_1,x4_1,rfl,HA,HK1,HO_3,HB⟩:=hrel
        cases gk with
        | zero => exact absurd HA.out (by simp [laws_toTileS.l0])
        | succ k1 =>
          have H:=HA.out
          clear HA
          simp only [laws_toTileS.l0] at H
          by_cases c6 : x4_1 < (l0.length : Int)
          · rw [if_pos c6] at H
            have c6b0 : decide (x4_1 < (l0.length : Int)) = true:=decide_eq_true c6
            clear c6
            by_cases c7 : 0 ≤ x4_1
            · rw [if_pos c7] at H
              have c7b0 : decide (0 ≤ x4_1) = true:=decide_eq_true c7
              clear c7
              replace H:=Option.bind_eq_some_iff.mp H
              obtain ⟨⟨t243,t244⟩,A80,H⟩:=H
              replace H : (if x4_1 < (x3_1.length : Int) then (laws_toTileS.l0 k1 l0 (x3_1.set (x4_1 : Int).toNat (⟨t243,t244⟩ : S_Tile)) (wrap64 (x4_1 + 1))) else (none)) = some r:=H
              have A8:=Aside0.mk A80
              clear A80
              by_cases c9 : x4_1 < (x3_1.length : Int)
              · rw [if_pos c9] at H
                have c9b0 : decide (x4_1 < (x3_1.length : Int)) = true:=decide_eq_true c9
                clear c9
                obtain ⟨y245,hy245⟩ : ∃ y_ : List (S_Tile),y_ = (x3_1.set (x4_1 : Int).toNat (⟨t243,t244⟩ : S_Tile)):=⟨_,rfl⟩
                replace H : (laws_toTileS.l0 k1 l0 y245 (wrap64 (x4_1 + 1))) = some r:=by first|(rw [hy245];with_reducible exact H)|(have H2_:=(Option.bind_some _ _).symm.trans H;rw [hy245];with_reducible exact H2_)|(have H2_:=(Option.bind_some _ _).symm.trans H;with_reducible exact H2_)|with_reducible exact H|(rw [hy245];exact H)|exact H
                have Ny245:=Aside0.mk hy245
                clear hy245
                have H':=Aside0.mk H
                clear H
                have p242 : 0 ≤ (x4_1 : Int):=of_decide_eq_true (by first|(with_reducible assumption)|assumption)
                have q242 : x4_1 < (l0.length : Int):=of_decide_eq_true (by first|(with_reducible assumption)|assumption)
                obtain ⟨ad242,e242,hx242_0,hx242_1⟩:=at_T59 HR0.out x4_1 p242 q242
                cases e242
                replace hx242_0:=(HB.out.cell (World.block_lt_of_cell? w _ hx242_0)).trans hx242_0
                replace hx242_1:=(HB.out.cell (World.block_lt_of_cell? w _ hx242_1)).trans hx242_1
                replace p242:=eq_true p242
                replace q242:=eq_true q242
                go_wp2_with (first|((with_reducible refine gate_callee (f:=31) rfl ?_);refine goesL_ (some 20) rfl rfl Tryz.func31 (by kernel_rfl) rfl #[.agg #[.int .i64 ((rd_LTile l0 x4_1).f0),.int .i64 ((rd_LTile l0 x4_1).f1)]] rfl (by (try simp only [List.map_toArray,List.map_cons,List.map_nil]);first|done|rfl|(simp only [List.length_drop,List.length_take];rfl)) ?_;(with_reducible refine (laws_toTile.calls ((rd_LTile l0 x4_1).f0) ((rd_LTile l0 x4_1).f1) t243 t244 _ A8.out).mono ?_);rintro e w11 ⟨rfl,hb⟩;refine ⟨_,rfl,?_⟩;have n0_:=Aside0.mk (Kd.R_below (by (with_reducible repeat (first|apply Kd.R_alloc|apply Kd.R_drewN|apply Kd.R_drew));exact HO_3.out) hb);have n1_:=Aside0.mk (below_step (by repeat (first|(with_reducible first|exact HB.out|apply below_alloc|apply pw_below_drewN|apply below_drew1)|exact HB.out)) hb);clear HO_3;clear HB;have HO_3:=n0_;have HB:=n1_;clear n0_ n1_;(try clear hb);(try clear hb2);(try clear hk);(try clear hi);have p10 : 0 ≤ (x4_1 : Int):=of_decide_eq_true (by first|(with_reducible assumption)|assumption);have q10 : (x4_1 : Int) < ((x3_1.length : Int) : Int):=of_decide_eq_true (by first|(with_reducible assumption)|assumption);obtain ⟨go10,co10,eo10,gb10,gl10,cl10,HG10⟩:=Kd.R_form HO_3.out (by omega);(first|cases eo10|(injection eo10 with ea_ en_ ec_;(first|subst ea_|(injection ea_ with ea_;subst ea_));subst ec_;clear en_));have GB10:=Aside0.mk gb10;have GG10:=Aside0.mk HG10;clear gb10 gl10 HG10;obtain ⟨ce10,hcl10,hM10,hcc10,hfr10⟩:=Kd.R_elem HO_3.out z53 (x4_1 : Int) p10 q10;obtain rfl:=k53_openM hM10;have hx10_0 : w11.cell? ⟨go10,(x4_1 : Int).toNat * 2,none⟩ = some (.int .i64 ((rd_Tile x3_1 x4_1).f0)):=hcc10 0 _ rfl;have hx10_1 : w11.cell? ⟨go10,(x4_1 : Int).toNat * 2 + 1,none⟩ = some (.int .i64 ((rd_Tile x3_1 x4_1).f1)):=hcc10 1 _ rfl;have hf10_0 : w11.frozen? ⟨go10,(x4_1 : Int).toNat * 2,none⟩ = false:=hfr10 0;have hf10_1 : w11.frozen? ⟨go10,(x4_1 : Int).toNat * 2 + 1,none⟩ = false:=hfr10 1;clear hcl10 hcc10 hfr10 hM10;replace p10:=eq_true p10;replace q10:=eq_true q10;have HX12:=Aside0.mk (show Kd.R k53 53 w11 w.heap.size (fun _ => True) (.slice (some ⟨go10,0,none⟩) x3_1.length co10) x3_1 from (by (with_reducible repeat (first|apply Kd.R_alloc|apply Kd.R_drewN|apply Kd.R_drew));exact HO_3.out));obtain ⟨ce12,hcl12,hM12,hcc12,hfr12⟩:=Kd.R_elem HX12.out z53 (x4_1 : Int) (of_decide_eq_true (by first|(with_reducible assumption)|assumption)) (by have h_ : (x4_1 : Int) < ((x3_1.length : Int) : Int):=of_decide_eq_true (by first|(with_reducible assumption)|assumption);first|exact h_|(have e_:=(Kd.R_reads' HO_3.out).1;omega)|simpa using h_);obtain rfl:=k53_openM hM12;have HP12:=Kd.R_seg HX12.out (x4_1 : Int) (of_decide_eq_true (by first|(with_reducible assumption)|assumption)) (by have h_ : (x4_1 : Int) < ((x3_1.length : Int) : Int):=of_decide_eq_true (by first|(with_reducible assumption)|assumption);first|exact h_|(have e_:=(Kd.R_reads' HO_3.out).1;omega)|simpa using h_) (seg:=[.int .i64 t243,.int .i64 t244]) (j:=0) hcl12 hcc12 (show 2 ≤ 2 from by decide) (x':=(⟨t243,t244⟩ : S_Tile)) (k53_mkM _ _ _ (⟨t243,t244⟩ : S_Tile) ) (fun _ hk => hk);have hx12_0:=hcc12 0 _ rfl;(try simp only [show (k53).sz = 2 from rfl,Nat.mul_one,Nat.add_zero] at hx12_0);have hf12_0:=hfr12 0;(try simp only [show (k53).sz = 2 from rfl,Nat.mul_one,Nat.add_zero] at hf12_0);have hx12_1:=hcc12 1 _ rfl;(try simp only [show (k53).sz = 2 from rfl,Nat.mul_one,Nat.add_zero] at hx12_1);have hf12_1:=hfr12 1;(try simp only [show (k53).sz = 2 from rfl,Nat.mul_one,Nat.add_zero] at hf12_1);clear hcl12 hcc12 hfr12 hM12)|((with_reducible refine gate_store (t:=53) (p:=21) rfl ?_);refine store_event (t:=53) (p:=21) (v:=?vo_w13) (w1:=((w11.setCell ⟨go10,(x4_1 : Int).toNat * 2,none⟩ (.int .i64 t243)).setCell ⟨go10,(x4_1 : Int).toNat * 2 + 1,none⟩ (.int .i64 t244))) ?hg ?ho ?hn ?hr ?_;(case ho => rfl);(case hg => rfl);(case hn => rfl);(case hr => first|(go_simp;done)|(go_simp;rfl));intro w13 hw;have hg : w11.grownBy w13 (some go10):=(by rw [hw];exact HP12.2);have hp_ : Kd.R k53 53 w13 w.heap.size (fun _ => True) (.slice (some ⟨go10,0,none⟩) x3_1.length co10) y245:=(by rw [hw,Ny245.out];exact HP12.1);clear HP12;have n0_:=Aside0.mk (hp_);have n1_:=Aside0.mk ((by rw [hw];exact below_set (below_set (HB.out) GB10.out) GB10.out : Below w.heap.size w w13));clear HO_3;clear HB;have HO_3:=n0_;have HB:=n1_;clear n0_ n1_;clear hg hw hp_))
                go_roundg k1
                case measure => have:=HK1.out;omega
                case rel => exact ⟨(y245),(wrap64 (x4_1 + 1)),(by first|rfl|(simp;done)|(simp [*];done)),H',⟨by have:=HK1.out;omega⟩,⟨by (with_reducible repeat (first|apply Kd.R_alloc|apply Kd.R_drewN|apply Kd.R_drew));exact HO_3.out⟩,⟨by repeat (first|(with_reducible first|exact HB.out|apply below_alloc|apply pw_below_drewN|apply below_drew1)|exact HB.out)⟩⟩
              · rw [if_neg c9] at H
                exact absurd H (by simp)
            · rw [if_neg c7] at H
              exact absurd H (by simp)
          · rw [if_neg c6] at H
            have c6b0 : decide (x4_1 < (l0.length : Int)) = false:=decide_eq_false c6
            clear c6
            obtain rfl:=Option.some.inj H
            go_wp2
            go_ret
            exact ⟨_,by first|rfl|(simp [errW_none,errW_some] <;> rfl)|(simp [*,errW_none,errW_some] <;> rfl),by (with_reducible repeat (first|apply Kd.R_alloc|apply Kd.R_drewN|apply Kd.R_drew));exact HO_3.out,by repeat (first|(with_reducible first|exact HB.out|apply below_alloc|apply pw_below_drewN|apply below_drew1)|exact HB.out)⟩
    · rw [if_neg c3] at H
      exact absurd H (by simp)
  · rw [if_neg c2] at H
    exact absurd H (by simp)

end
section
open Go.RowKit Go.Proofs.YtjaojemmbeddfaaGreatW.PrintWords Go.Proofs.YtjaojemmbeddfaaGreatW.PrintLast Go.Proofs.YtjaojemmbeddfaaGreatW.PrintMore
attribute [local go_sem] max2_int min2_int max_two min_two max_three min_three max_four min_four   -- for this text's walks alone
set_option linter.unusedVariables false
set_option linter.unusedSimpArgs false

def laws_toGame.f (k : Nat) (l0_0 : List (S_LTile)) (l0_1 : List (S_LTile)) (l0_2 : List Int) (a0_3 : Int) (a0_4 : Int) : Option ((List (S_Tile)) × (List (S_Tile)) × List Int × Int × Int):=(laws_toTileS.f k l0_0).bind fun t254 => ((laws_toTileS.f k l0_1).bind fun t257 => ((laws_toIntS.f k l0_2).bind fun t260 => (some (t254,t257,t260,a0_3,a0_4))))
set_option maxRecDepth 100000 in
set_option maxHeartbeats 40000000 in
theorem laws_toGame.calls (k : Nat) (A0_0 : Option Addr) (c0_0 : Nat) (l0_0 : List (S_LTile)) (A0_1 : Option Addr) (c0_1 : Nat) (l0_1 : List (S_LTile)) (A0_2 : Option Addr) (c0_2 : Nat) (l0_2 : List Int) (a0_3 : Int) (a0_4 : Int) (r1 : List (S_Tile)) (r2 : List (S_Tile)) (r3 : List Int) (r4 : Int) (r5 : Int) (w : World) (hr0_0 : Kd.C k59 w A0_0 l0_0.length l0_0) (hc0_0 : l0_0.length ≤ c0_0) (hr0_1 : Kd.C k59 w A0_1 l0_1.length l0_1) (hc0_1 : l0_1.length ≤ c0_1) (hr0_2 : Kd.C (Kd.int .i64) w A0_2 l0_2.length l0_2) (hc0_2 : l0_2.length ≤ c0_2) (h : laws_toGame.f k l0_0 l0_1 l0_2 a0_3 a0_4 = some (r1,r2,r3,r4,r5)) :
    Calls Tryz.prog 8 #[.agg #[.slice A0_0 l0_0.length c0_0,.slice A0_1 l0_1.length c0_1,.slice A0_2 l0_2.length c0_2,.int .i64 a0_3,.int .i64 a0_4]] w fun e w' => ∃ v0_ v1_ v2_ : Value,e = .returned (.agg #[v0_,v1_,v2_,.int .i64 r4,.int .i64 r5]) ∧ Kd.R k53 53 w' w.heap.size (fun k_ => some k_ ≠ (v1_ : Value).ownBlock) v0_ r1 ∧ Kd.R k53 53 w' w.heap.size (fun k_ => some k_ ≠ (v0_ : Value).ownBlock) v1_ r2 ∧ Kd.R (Kd.int .i64) 3 w' w.heap.size (fun _ => True) v2_ r3 ∧ Below w.heap.size w w':=by
  obtain ⟨cs,hcs⟩ : ∃ cs,cs = [old w w.heap.size]:=⟨_,rfl⟩
  have hp : Hp w cs w:=by rw [hcs];exact Hp.old_start w
  have hc2 : ∀ W,Hp w cs W → Below w.heap.size w W:=fun W h => by rw [hcs] at h;exact h.since 0 _ rfl
  have hC0_0 : ∀ W,Hp w cs W → Kd.C k59 W A0_0 l0_0.length l0_0:=fun W h => Kd.C_below hr0_0 (hc2 W h)
  have hC0_1 : ∀ W,Hp w cs W → Kd.C k59 W A0_1 l0_1.length l0_1:=fun W h => Kd.C_below hr0_1 (hc2 W h)
  have hC0_2 : ∀ W,Hp w cs W → Kd.C (Kd.int .i64) W A0_2 l0_2.length l0_2:=fun W h => Kd.C_below hr0_2 (hc2 W h)
  clear hcs
  unfold laws_toGame.f at h
  obtain ⟨t_2,hv_1,h⟩:=Option.bind_eq_some_iff.mp h
  try dsimp only at h
  obtain ⟨t_4,hv_3,h⟩:=Option.bind_eq_some_iff.mp h
  try dsimp only at h
  obtain ⟨t_6,hv_5,h⟩:=Option.bind_eq_some_iff.mp h
  try dsimp only at h
  refine sx_enter (N:=23) (l:=[.agg #[.slice A0_0 l0_0.length c0_0,.slice A0_1 l0_1.length c0_1,.slice A0_2 l0_2.length c0_2,.int .i64 a0_3,.int .i64 a0_4]]) Tryz.func8 rfl rfl rfl ?_
  refine wp_seq ?_
  refine sx_region ?_
  refine sx_box 1 hp #[.slice A0_0 l0_0.length c0_0,.slice A0_1 l0_1.length c0_1,.slice A0_2 l0_2.length c0_2,.int .i64 a0_3,.int .i64 a0_4] 25 (by rfl) (fun W => by kernel_rfl) ?_
  intro g_7 W_8 hp
  refine sx_box 2 hp #[.slice none 0 0,.slice none 0 0,.slice none 0 0,.int .i64 0,.int .i64 0] 31 (by rfl) (fun W => by kernel_rfl) ?_
  intro g_9 W_10 hp
  refine sx_nil ?_
  refine ex_then_n ?_
  refine wp_seq ?_
  refine sx_region ?_
  refine sx_box 3 hp #[.slice none 0 0,.slice none 0 0,.slice none 0 0,.int .i64 0,.int .i64 0] 31 (by rfl) (fun W => by kernel_rfl) ?_
  intro g_11 W_12 hp
  refine sx_nil ?_
  refine ex_then_n ?_
  refine wp_seq ?_
  refine sx_region ?_
  refine sx_rd 4 (.pointer (some ⟨g_7,0,none⟩)) (by rfl) (by kernel_rfl) ?_
  refine sx_rd 5 (.slice A0_0 l0_0.length c0_0) (by rfl) (ld1 (t:=22) (p:=(.tmp 4)) (by rfl) (by rfl) (by kernel_rfl) (hp.cell 2 (by rfl) 0 _ (by rfl))) ?_
  refine sx_call 6 (by rfl) (by kernel_rfl) ((laws_toTileS.calls _ A0_0 c0_0 l0_0 _ _ (hC0_0 _ hp.tail.tail.tail) hc0_0 hv_1).mono ?_)
  rintro _ W_18 ⟨v_14,rfl,hR_13,hb⟩
  refine ⟨_,rfl,?_⟩
  obtain ⟨A_15,c_16,rfl,hcc_c_16,_⟩:=Kd.R_reads hR_13
  obtain ⟨F_17,hp⟩ : ∃ F,Hp w (row k53 53 w.heap.size (.slice A_15 t_2.length c_16) t_2 F :: blk g_11 #[.slice none 0 0,.slice none 0 0,.slice none 0 0,.int .i64 0,.int .i64 0] 31 :: blk g_9 #[.slice none 0 0,.slice none 0 0,.slice none 0 0,.int .i64 0,.int .i64 0] 31 :: blk g_7 #[.slice A0_0 l0_0.length c0_0,.slice A0_1 l0_1.length c0_1,.slice A0_2 l0_2.length c0_2,.int .i64 a0_3,.int .i64 a0_4] 25 :: cs) _:=⟨_,Hp.made hp hb hR_13⟩
  refine sx_rd 7 (.pointer (some ⟨g_11,0,none⟩)) (by rfl) (by kernel_rfl) ?_
  refine sx_store (t:=29) (p:=(.tmp 7)) (x:=(.tmp 6)) (by rfl) (by rfl) 1 (by rfl) 0 [.slice A_15 t_2.length c_16] (by rfl) (by rfl) (by kernel_rfl) (by simp [Value.oneCell']) (by show 1 ≤ 5;omega) #[.slice A_15 t_2.length c_16,.slice none 0 0,.slice none 0 0,.int .i64 0,.int .i64 0] (by rfl) hp ?_
  intro W_19 hp;simp only [List.set_cons_succ,List.set_cons_zero] at hp
  refine sx_nil ?_
  refine ex_then_n ?_
  refine wp_seq ?_
  refine sx_region ?_
  refine sx_rd 8 (.pointer (some ⟨g_7,1,none⟩)) (by rfl) (by kernel_rfl) ?_
  refine sx_rd 9 (.slice A0_1 l0_1.length c0_1) (by rfl) (ld1 (t:=22) (p:=(.tmp 8)) (by rfl) (by rfl) (by kernel_rfl) (hp.cell 3 (by rfl) 1 _ (by rfl))) ?_
  refine sx_call 10 (by rfl) (by kernel_rfl) ((laws_toTileS.calls _ A0_1 c0_1 l0_1 _ _ (hC0_1 _ hp.tail.tail.tail.tail) hc0_1 hv_3).mono ?_)
  rintro _ W_25 ⟨v_21,rfl,hR_20,hb⟩
  refine ⟨_,rfl,?_⟩
  obtain ⟨A_22,c_23,rfl,hcc_c_23,_⟩:=Kd.R_reads hR_20
  obtain ⟨F_24,hp⟩ : ∃ F,Hp w (row k53 53 w.heap.size (.slice A_22 t_4.length c_23) t_4 F :: row k53 53 w.heap.size (.slice A_15 t_2.length c_16) t_2 F_17 :: blk g_11 #[.slice A_15 t_2.length c_16,.slice none 0 0,.slice none 0 0,.int .i64 0,.int .i64 0] 31 :: blk g_9 #[.slice none 0 0,.slice none 0 0,.slice none 0 0,.int .i64 0,.int .i64 0] 31 :: blk g_7 #[.slice A0_0 l0_0.length c0_0,.slice A0_1 l0_1.length c0_1,.slice A0_2 l0_2.length c0_2,.int .i64 a0_3,.int .i64 a0_4] 25 :: cs) _:=⟨_,Hp.made hp hb hR_20⟩
  refine sx_rd 11 (.pointer (some ⟨g_11,1,none⟩)) (by rfl) (by kernel_rfl) ?_
  refine sx_store (t:=29) (p:=(.tmp 11)) (x:=(.tmp 10)) (by rfl) (by rfl) 2 (by rfl) 1 [.slice A_22 t_4.length c_23] (by rfl) (by rfl) (by kernel_rfl) (by simp [Value.oneCell']) (by show 2 ≤ 5;omega) #[.slice A_15 t_2.length c_16,.slice A_22 t_4.length c_23,.slice none 0 0,.int .i64 0,.int .i64 0] (by rfl) hp ?_
  intro W_26 hp;simp only [List.set_cons_succ,List.set_cons_zero] at hp
  refine sx_nil ?_
  refine ex_then_n ?_
  refine wp_seq ?_
  refine sx_region ?_
  refine sx_rd 12 (.pointer (some ⟨g_7,2,none⟩)) (by rfl) (by kernel_rfl) ?_
  refine sx_rd 13 (.slice A0_2 l0_2.length c0_2) (by rfl) (ld1 (t:=23) (p:=(.tmp 12)) (by rfl) (by rfl) (by kernel_rfl) (hp.cell 4 (by rfl) 2 _ (by rfl))) ?_
  refine sx_call 14 (by rfl) (by kernel_rfl) ((laws_toIntS.calls _ A0_2 c0_2 l0_2 _ _ (hC0_2 _ hp.tail.tail.tail.tail.tail) hc0_2 hv_5).mono ?_)
  rintro _ W_32 ⟨v_28,rfl,hR_27,hb⟩
  refine ⟨_,rfl,?_⟩
  obtain ⟨A_29,c_30,rfl,hcc_c_30,_⟩:=Kd.R_reads hR_27
  obtain ⟨F_31,hp⟩ : ∃ F,Hp w (row (Kd.int .i64) 3 w.heap.size (.slice A_29 t_6.length c_30) t_6 F :: row k53 53 w.heap.size (.slice A_22 t_4.length c_23) t_4 F_24 :: row k53 53 w.heap.size (.slice A_15 t_2.length c_16) t_2 F_17 :: blk g_11 #[.slice A_15 t_2.length c_16,.slice A_22 t_4.length c_23,.slice none 0 0,.int .i64 0,.int .i64 0] 31 :: blk g_9 #[.slice none 0 0,.slice none 0 0,.slice none 0 0,.int .i64 0,.int .i64 0] 31 :: blk g_7 #[.slice A0_0 l0_0.length c0_0,.slice A0_1 l0_1.length c0_1,.slice A0_2 l0_2.length c0_2,.int .i64 a0_3,.int .i64 a0_4] 25 :: cs) _:=⟨_,Hp.made hp hb hR_27⟩
  refine sx_rd 15 (.pointer (some ⟨g_11,2,none⟩)) (by rfl) (by kernel_rfl) ?_
  refine sx_store (t:=23) (p:=(.tmp 15)) (x:=(.tmp 14)) (by rfl) (by rfl) 3 (by rfl) 2 [.slice A_29 t_6.length c_30] (by rfl) (by rfl) (by kernel_rfl) (by simp [Value.oneCell']) (by show 3 ≤ 5;omega) #[.slice A_15 t_2.length c_16,.slice A_22 t_4.length c_23,.slice A_29 t_6.length c_30,.int .i64 0,.int .i64 0] (by rfl) hp ?_
  intro W_33 hp;simp only [List.set_cons_succ,List.set_cons_zero] at hp
  refine sx_nil ?_
  refine ex_then_n ?_
  refine wp_seq ?_
  refine sx_region ?_
  refine sx_rd 16 (.pointer (some ⟨g_7,3,none⟩)) (by rfl) (by kernel_rfl) ?_
  refine sx_rd 17 (.int .i64 a0_3) (by rfl) (ld1 (t:=3) (p:=(.tmp 16)) (by rfl) (by rfl) (by kernel_rfl) (hp.cell 5 (by rfl) 3 _ (by rfl))) ?_
  refine sx_rd 18 (.pointer (some ⟨g_11,3,none⟩)) (by rfl) (by kernel_rfl) ?_
  refine sx_store (t:=3) (p:=(.tmp 18)) (x:=(.tmp 17)) (by rfl) (by rfl) 3 (by rfl) 3 [.int .i64 a0_3] (by rfl) (by rfl) (by kernel_rfl) (by simp [Value.oneCell']) (by show 4 ≤ 5;omega) #[.slice A_15 t_2.length c_16,.slice A_22 t_4.length c_23,.slice A_29 t_6.length c_30,.int .i64 a0_3,.int .i64 0] (by rfl) hp ?_
  intro W_34 hp;simp only [List.set_cons_succ,List.set_cons_zero] at hp
  refine sx_nil ?_
  refine ex_then_n ?_
  refine wp_seq ?_
  refine sx_region ?_
  refine sx_rd 19 (.pointer (some ⟨g_7,4,none⟩)) (by rfl) (by kernel_rfl) ?_
  refine sx_rd 20 (.int .i64 a0_4) (by rfl) (ld1 (t:=3) (p:=(.tmp 19)) (by rfl) (by rfl) (by kernel_rfl) (hp.cell 5 (by rfl) 4 _ (by rfl))) ?_
  refine sx_rd 21 (.pointer (some ⟨g_11,4,none⟩)) (by rfl) (by kernel_rfl) ?_
  refine sx_store (t:=3) (p:=(.tmp 21)) (x:=(.tmp 20)) (by rfl) (by rfl) 3 (by rfl) 4 [.int .i64 a0_4] (by rfl) (by rfl) (by kernel_rfl) (by simp [Value.oneCell']) (by show 5 ≤ 5;omega) #[.slice A_15 t_2.length c_16,.slice A_22 t_4.length c_23,.slice A_29 t_6.length c_30,.int .i64 a0_3,.int .i64 a0_4] (by rfl) hp ?_
  intro W_35 hp;simp only [List.set_cons_succ,List.set_cons_zero] at hp
  refine sx_nil ?_
  refine ex_then_n ?_
  refine wp_seq ?_
  refine sx_region ?_
  refine sx_rd 22 (.agg #[.slice A_15 t_2.length c_16,.slice A_22 t_4.length c_23,.slice A_29 t_6.length c_30,.int .i64 a0_3,.int .i64 a0_4]) (by rfl) (ldn (t:=31) (p:=(.tmp 3)) (by rfl) (by rfl) (by kernel_rfl) (by kernel_rfl) (by kernel_rfl) (hp.at_ 3 _ (by rfl))) ?_
  refine sx_store (t:=31) (p:=(.tmp 2)) (x:=(.tmp 22)) (by rfl) (by rfl) 4 (by rfl) 0 [.slice A_15 t_2.length c_16,.slice A_22 t_4.length c_23,.slice A_29 t_6.length c_30,.int .i64 a0_3,.int .i64 a0_4] (by rfl) (by rfl) (by kernel_rfl) (by simp [Value.oneCell']) (by show 5 ≤ 5;omega) #[.slice A_15 t_2.length c_16,.slice A_22 t_4.length c_23,.slice A_29 t_6.length c_30,.int .i64 a0_3,.int .i64 a0_4] (by rfl) hp ?_
  intro W_36 hp;simp only [List.set_cons_succ,List.set_cons_zero] at hp
  refine sx_nil ?_
  refine ex_then_n ?_
  refine wp_ret ?_
  refine sx_end (.agg #[.slice A_15 t_2.length c_16,.slice A_22 t_4.length c_23,.slice A_29 t_6.length c_30,.int .i64 a0_3,.int .i64 a0_4]) (resc (by rfl) (by rfl) (by kernel_rfl) (by kernel_rfl) (hp.at_ 4 _ (by rfl))) ?_
  simp only [Option.some.injEq,Prod.mk.injEq] at h;obtain ⟨rfl,rfl,rfl,rfl,rfl⟩:=h
  exact ⟨_,_,_,rfl,Kd.R_mono (row_R (hp.at_ 2 _ (by rfl))) (fun k_ hk_ => Hp.apart_rows hp 2 1 (by decide) (by rfl) (by rfl) k_ hk_),Kd.R_mono (row_R (hp.at_ 1 _ (by rfl))) (fun k_ hk_ => Hp.apart_rows hp 1 2 (by decide) (by rfl) (by rfl) k_ hk_),Kd.R_mono (row_R (hp.at_ 0 _ (by rfl))) (fun _ _ => trivial),hc2 _ (hp.tail.tail.tail.tail.tail.tail)⟩
end
section
open Go.RowKit Go.Proofs.YtjaojemmbeddfaaGreatW.PrintWords Go.Proofs.YtjaojemmbeddfaaGreatW.PrintLast Go.Proofs.YtjaojemmbeddfaaGreatW.PrintMore
attribute [local go_sem] max2_int min2_int max_two min_two max_three min_three max_four min_four   -- for this text's walks alone
set_option linter.unusedVariables false
set_option linter.unusedSimpArgs false

attribute [local go_sem high] eqA53
def slices_Index_impl_Tile_impl_Tile.l0 : Nat → List (S_Tile) → Int → Int → Int → Int → Option (Int)
  | 0,_,_,_,_,_ => none
  | k + 1,x0,x7,x8,x264000,x264001 => if x8 < x7 then (if 0 ≤ x8 then (if x8 < (x0.length : Int) then (if (x264000 == ((rd_Tile x0 x8).f0) && (x264001 == ((rd_Tile x0 x8).f1))) = true then (some x8) else (slices_Index_impl_Tile_impl_Tile.l0 k x0 x7 (wrap64 (x8 + 1)) x264000 x264001)) else (none)) else (none)) else (some (-1))
def slices_Index_impl_Tile_impl_Tile.f (k : Nat) (l0 : List (S_Tile)) (a1_0 : Int) (a1_1 : Int) : Option (Int):=slices_Index_impl_Tile_impl_Tile.l0 k l0 (l0.length : Int) 0 a1_0 a1_1
set_option maxRecDepth 100000 in
set_option maxHeartbeats 40000000 in
theorem slices_Index_impl_Tile_impl_Tile.calls (k : Nat) (A0 : Option Addr) (c0 : Nat) (l0 : List (S_Tile)) (a1_0 : Int) (a1_1 : Int) (r : Int) (w : World) (hr0 : Kd.C k53 w A0 l0.length l0) (hc0 : l0.length ≤ c0) (h : slices_Index_impl_Tile_impl_Tile.f k l0 a1_0 a1_1 = some r) :
    Calls Tryz.prog 95 #[.slice A0 l0.length c0,.agg #[.int .i64 a1_0,.int .i64 a1_1]] w fun e w' => e = .returned (.int .i64 r) ∧ Below w.heap.size w w':=by
  obtain ⟨cs,hcs⟩ : ∃ cs,cs = [old w w.heap.size]:=⟨_,rfl⟩
  have hp : Hp w cs w:=by rw [hcs];exact Hp.old_start w
  have hc2 : ∀ W,Hp w cs W → Below w.heap.size w W:=fun W h => by rw [hcs] at h;exact h.since 0 _ rfl
  have hC0 : ∀ W,Hp w cs W → Kd.C k53 W A0 l0.length l0:=fun W h => Kd.C_below hr0 (hc2 W h)
  clear hcs
  unfold slices_Index_impl_Tile_impl_Tile.f at h
  refine sx_enter (N:=19) (l:=[.slice A0 l0.length c0,.agg #[.int .i64 a1_0,.int .i64 a1_1]]) Tryz.func95 rfl rfl rfl ?_
  refine wp_seq ?_
  refine sx_region ?_
  refine sx_box 3 hp #[.int .i64 a1_0,.int .i64 a1_1] 53 (by rfl) (fun W => by kernel_rfl) ?_
  intro g_1 W_2 hp
  refine sx_rd 4 (.int .i64 0) (by rfl) (by kernel_rfl) ?_
  refine sx_nil ?_
  refine ex_then_n ?_
  refine wp_seq ?_
  refine wp_seq ?_
  refine sx_region ?_
  refine sx_rd 6 (.slice A0 l0.length c0) (by rfl) (by kernel_rfl) ?_
  refine sx_rd 7 (.int .i64 (l0.length : Int)) (by rfl) (by kernel_rfl) ?_
  refine sx_rd 8 (.int .i64 0) (by rfl) (by kernel_rfl) ?_
  refine sx_nil ?_
  refine ex_then_n ?_
  refine wp_block ?_
  refine wp_loop_ghost (fun n_ a_ W => ∃ (r_ : List (Nat × Value)) (k_4 : Nat) (x_3 : Int)  , n_ = k_4 + 1 ∧ a_ = fr 19 ([(0,.slice A0 l0.length c0),(3,.pointer (some ⟨g_1,0,none⟩)),(7,.int .i64 (l0.length : Int)),(8,.int .i64 x_3)] ++ r_) ∧ Hp w (blk g_1 #[.int .i64 a1_0,.int .i64 a1_1] 53 :: cs) W ∧ (slices_Index_impl_Tile_impl_Tile.l0 k_4 l0 (l0.length : Int) x_3 a1_0 a1_1 = some r) ∧ (k_4 ≤ k)) _ ⟨_,k,0,rfl,fr_front [(0,.slice A0 l0.length c0),(3,.pointer (some ⟨g_1,0,none⟩)),(7,.int .i64 (l0.length : Int)),(8,.int .i64 0)] ⟨rfl,rfl,rfl,rfl,trivial⟩,(hp.take [0] 1 (by decide) (by simp)),h,(Nat.le_refl _)⟩ ?_
  rintro _ _ W_6 ⟨r_,k_4,x_3,rfl,rfl,hp,h,hk_5⟩
  rcases k_4 with _|k_4
  · simp [slices_Index_impl_Tile_impl_Tile.l0] at h
  simp only [slices_Index_impl_Tile_impl_Tile.l0] at h
  refine wp_seq ?_
  refine sx_region ?_
  refine sx_rd 9 (.bool (decide (x_3 < (l0.length : Int)))) (by rfl) (by kernel_rfl) ?_
  refine sx_nil ?_
  refine ex_then_n ?_
  refine wp_seq ?_
  by_cases hc_7 : x_3 < (l0.length : Int)
  ·
    rw [if_pos hc_7] at h
    by_cases hc_8 : 0 ≤ x_3
    case neg => rw [if_neg hc_8] at h;cases h
    rw [if_pos hc_8] at h
    by_cases hc_9 : x_3 < (l0.length : Int)
    case neg => rw [if_neg hc_9] at h;cases h
    rw [if_pos hc_9] at h
    refine sx_then (decide (x_3 < (l0.length : Int))) (by rfl) (decide_eq_true hc_7) ?_
    refine wp_skip ?_
    refine ex_then_n ?_
    refine wp_seq ?_
    refine wp_block ?_
    refine wp_seq ?_
    refine sx_region ?_
    refine sx_rd 10 (.int .i64 x_3) (by rfl) (by kernel_rfl) ?_
    refine sx_rd 5 (.int .i64 x_3) (by rfl) (by kernel_rfl) ?_
    refine sx_nil ?_
    refine ex_then_n ?_
    refine wp_seq ?_
    refine sx_drawT [1,2] (.rd 0 (.rd 3 (.rd 4 (.rd 5 (.fin))))) 6 (C:=Hp w (blk g_1 #[.int .i64 a1_0,.int .i64 a1_1] 53 :: cs)) (by kernel_rfl) (by kernel_rfl) (fun d _ _ _ _ h => by cases d <;> exact h) (fun W h => h.drew) hp ?_
    refine preI_read rfl ?_
    refine sxq_val 12 (.slice A0 l0.length c0) (by rfl) (fun W _ => (by kernel_rfl)) ?_
    refine sxq_nil ?_
    refine preI_read rfl ?_
    refine sxq_val 13 (.int .i64 x_3) (by rfl) (fun W _ => (by kernel_rfl)) ?_
    refine sxq_nil ?_
    refine preI_nil ?_
    intro W_10 hp
    refine treeI_rd rfl ?_
    refine sxq_val 11 (.agg #[.int .i64 a1_0,.int .i64 a1_1]) (by rfl) (fun W hp => (ldn (t:=53) (p:=(.tmp 3)) (by rfl) (by rfl) (by kernel_rfl) (by kernel_rfl) (by kernel_rfl) (hp.at_ 0 _ (by rfl)))) ?_
    refine sxq_nil ?_
    refine treeI_rd rfl ?_
    refine sxq_val 14 (.pointer (some (adr A0 x_3 2))) (by rfl) (fun W hp => (ix_run (d:=k53) (hC0 _ hp.tail) (t:=29) (by rfl) (by rfl) (by rfl) Tryz.underlying29 (by kernel_rfl) (by omega) (by omega))) ?_
    refine sxq_nil ?_
    refine treeI_rd rfl ?_
    refine sxq_val 15 (.agg #[.int .i64 ((rd_Tile l0 x_3).f0),.int .i64 ((rd_Tile l0 x_3).f1)]) (by rfl) (fun W hp => (el_run (d:=k53) (hC0 _ hp.tail) z53 x_3 (by omega) (by omega) (cells:=[.int .i64 ((rd_Tile l0 x_3).f0),.int .i64 ((rd_Tile l0 x_3).f1)]) (fun cs h => k53_open h) 0 [.int .i64 ((rd_Tile l0 x_3).f0),.int .i64 ((rd_Tile l0 x_3).f1)] (by rfl) (t:=53) (p:=(.tmp 14)) (by rfl) (by rfl) (by kernel_rfl) (by kernel_rfl))) ?_
    refine sxq_nil ?_
    refine treeI_rd rfl ?_
    refine sxq_val 16 (.bool (a1_0 == (rd_Tile l0 x_3).f0 && (a1_1 == (rd_Tile l0 x_3).f1))) (by rfl) (fun W hp => (eqagg_run (by rfl) (by rfl) (by rfl) (fun d w => eqA53 d w _ _ _ _) (by kernel_rfl))) ?_
    refine sxq_nil ?_
    refine treeI_fin ?_
    refine sx_nil ?_
    refine ex_then_n ?_
    by_cases hc_11 : (a1_0 == ((rd_Tile l0 x_3).f0) && (a1_1 == ((rd_Tile l0 x_3).f1))) = true
    ·
      rw [if_pos hc_11] at h
      refine sx_then (a1_0 == (rd_Tile l0 x_3).f0 && (a1_1 == (rd_Tile l0 x_3).f1)) (by rfl) hc_11 ?_
      refine wp_seq ?_
      refine sx_region ?_
      refine sx_rd 17 (.int .i64 x_3) (by rfl) (by kernel_rfl) ?_
      refine sx_rd 4 (.int .i64 x_3) (by rfl) (by kernel_rfl) ?_
      refine sx_nil ?_
      refine ex_then_n ?_
      refine wp_ret ?_
      refine ex_blk_r (ex_then_r (ex_then_r (ex_blk_r (ex_then_r ?_))))
      refine sx_end (.int .i64 x_3) (res1 4 (by rfl)) ?_
      obtain rfl:=Option.some.inj h
      exact ⟨rfl,hc2 _ (hp.tail)⟩
    ·
      rw [if_neg hc_11] at h
      refine sx_else (a1_0 == (rd_Tile l0 x_3).f0 && (a1_1 == (rd_Tile l0 x_3).f1)) (by rfl) (Bool.eq_false_iff.mpr hc_11) ?_
      refine wp_skip ?_
      refine ex_blk_n ?_
      refine ex_then_n ?_
      refine sx_region ?_
      refine sx_rd 18 (.int .i64 (wrap64 (x_3 + 1))) (by rfl) (wr_w (by kernel_rfl)) ?_
      refine sx_rd 8 (.int .i64 (wrap64 (x_3 + 1))) (by rfl) (by kernel_rfl) ?_
      refine sx_nil ?_
      refine ex_then_n ?_
      exact ⟨_,(by omega),_,k_4,(wrap64 (x_3 + 1)),rfl,fr_front [(0,.slice A0 l0.length c0),(3,.pointer (some ⟨g_1,0,none⟩)),(7,.int .i64 (l0.length : Int)),(8,.int .i64 (wrap64 (x_3 + 1)))] ⟨rfl,rfl,rfl,rfl,trivial⟩,(hp.take [0] 1 (by decide) (by simp)),h,(by omega)⟩
  ·
    rw [if_neg hc_7] at h
    refine sx_else (decide (x_3 < (l0.length : Int))) (by rfl) (decide_eq_false hc_7) ?_
    refine wp_exit ?_
    refine ex_then_e (ex_then_e (ex_blk_here ?_))
    refine ex_then_n ?_
    refine wp_seq ?_
    refine sx_region ?_
    refine sx_rd 4 (.int .i64 (-1)) (by rfl) (by kernel_rfl) ?_
    refine sx_nil ?_
    refine ex_then_n ?_
    refine wp_ret ?_
    refine sx_end (.int .i64 (-1)) (res1 4 (by rfl)) ?_
    obtain rfl:=Option.some.inj h
    exact ⟨rfl,hc2 _ (hp.tail)⟩
end
section
open Go.RowKit Go.Proofs.YtjaojemmbeddfaaGreatW.PrintWords Go.Proofs.YtjaojemmbeddfaaGreatW.PrintLast Go.Proofs.YtjaojemmbeddfaaGreatW.PrintMore
attribute [local go_sem] max2_int min2_int max_two min_two max_three min_three max_four min_four   -- for this text's walks alone
set_option linter.unusedVariables false
set_option linter.unusedSimpArgs false

def slices_Contains_impl_Tile_impl_Tile.f (k : Nat) (l0 : List (S_Tile)) (a1_0 : Int) (a1_1 : Int) : Option (Bool):=(slices_Index_impl_Tile_impl_Tile.f k l0 a1_0 a1_1).bind fun t266 => (some (decide (t266 ≥ 0)))
set_option maxRecDepth 100000 in
set_option maxHeartbeats 40000000 in
theorem slices_Contains_impl_Tile_impl_Tile.calls (k : Nat) (A0 : Option Addr) (c0 : Nat) (l0 : List (S_Tile)) (a1_0 : Int) (a1_1 : Int) (r : Bool) (w : World) (hr0 : Kd.C k53 w A0 l0.length l0) (hc0 : l0.length ≤ c0) (h : slices_Contains_impl_Tile_impl_Tile.f k l0 a1_0 a1_1 = some r) :
    Calls Tryz.prog 77 #[.slice A0 l0.length c0,.agg #[.int .i64 a1_0,.int .i64 a1_1]] w fun e w' => e = .returned (.bool r) ∧ Below w.heap.size w w':=by
  obtain ⟨cs,hcs⟩ : ∃ cs,cs = [old w w.heap.size]:=⟨_,rfl⟩
  have hp : Hp w cs w:=by rw [hcs];exact Hp.old_start w
  have hc2 : ∀ W,Hp w cs W → Below w.heap.size w W:=fun W h => by rw [hcs] at h;exact h.since 0 _ rfl
  have hC0 : ∀ W,Hp w cs W → Kd.C k53 W A0 l0.length l0:=fun W h => Kd.C_below hr0 (hc2 W h)
  clear hcs
  unfold slices_Contains_impl_Tile_impl_Tile.f at h
  obtain ⟨t_2,hv_1,h⟩:=Option.bind_eq_some_iff.mp h
  try dsimp only at h
  refine sx_enter (N:=9) (l:=[.slice A0 l0.length c0,.agg #[.int .i64 a1_0,.int .i64 a1_1]]) Tryz.func77 rfl rfl rfl ?_
  refine wp_seq ?_
  refine sx_region ?_
  refine sx_box 3 hp #[.int .i64 a1_0,.int .i64 a1_1] 53 (by rfl) (fun W => by kernel_rfl) ?_
  intro g_3 W_4 hp
  refine sx_rd 4 (.bool false) (by rfl) (by kernel_rfl) ?_
  refine sx_nil ?_
  refine ex_then_n ?_
  refine wp_seq ?_
  refine sx_region ?_
  refine sx_rd 5 (.slice A0 l0.length c0) (by rfl) (by kernel_rfl) ?_
  refine sx_rd 6 (.agg #[.int .i64 a1_0,.int .i64 a1_1]) (by rfl) (ldn (t:=53) (p:=(.tmp 3)) (by rfl) (by rfl) (by kernel_rfl) (by kernel_rfl) (by kernel_rfl) (hp.at_ 0 _ (by rfl))) ?_
  refine sx_call 7 (by rfl) (by kernel_rfl) ((slices_Index_impl_Tile_impl_Tile.calls _ A0 c0 l0 a1_0 a1_1 _ _ (hC0 _ hp.tail) hc0 hv_1).mono ?_)
  rintro _ W_5 ⟨rfl,hb⟩
  refine ⟨_,rfl,?_⟩
  replace hp:=hp.below hb
  clear hb
  refine sx_rd 8 (.bool (decide (t_2 ≥ 0))) (by rfl) (by kernel_rfl) ?_
  refine sx_rd 4 (.bool (decide (t_2 ≥ 0))) (by rfl) (by kernel_rfl) ?_
  refine sx_nil ?_
  refine ex_then_n ?_
  refine wp_ret ?_
  refine sx_end (.bool (decide (t_2 ≥ 0))) (res1 4 (by rfl)) ?_
  obtain rfl:=Option.some.inj h
  exact ⟨rfl,hc2 _ (hp.tail)⟩
end
section
open Go.RowKit Go.Proofs.YtjaojemmbeddfaaGreatW.PrintWords Go.Proofs.YtjaojemmbeddfaaGreatW.PrintLast Go.Proofs.YtjaojemmbeddfaaGreatW.PrintMore
attribute [local go_sem] max2_int min2_int max_two min_two max_three min_three max_four min_four   -- for this text's walks alone
set_option linter.unusedVariables false
set_option linter.unusedSimpArgs false

def impl_areDifferent_impl_Tile.l0 : Nat → List (S_Tile) → List (S_Tile) → Int → Int → Option (Bool)
  | 0,_,_,_,_ => none
  | k + 1,x0,x5,x6,x7 => if x7 < x6 then (if 0 ≤ x7 then (if x7 < (x5.length : Int) then (if x7 ≤ (x0.length : Int) then ((slices_Contains_impl_Tile_impl_Tile.f k (x0.take (x7 : Int).toNat) ((rd_Tile x5 x7).f0) ((rd_Tile x5 x7).f1)).bind fun t273 => (if t273 = true then (some false) else (impl_areDifferent_impl_Tile.l0 k x0 x5 x6 (wrap64 (x7 + 1))))) else (none)) else (none)) else (none)) else (some true)
def impl_areDifferent_impl_Tile.f (k : Nat) (l0 : List (S_Tile)) : Option (Bool):=impl_areDifferent_impl_Tile.l0 k l0 l0 (l0.length : Int) 0
set_option maxRecDepth 100000 in
set_option maxHeartbeats 40000000 in
theorem impl_areDifferent_impl_Tile.calls (k : Nat) (A0 : Option Addr) (c0 : Nat) (l0 : List (S_Tile)) (r : Bool) (w : World) (hr0 : Kd.C k53 w A0 l0.length l0) (hc0 : l0.length ≤ c0) (h : impl_areDifferent_impl_Tile.f k l0 = some r) :
    Calls Tryz.prog 51 #[.slice A0 l0.length c0] w fun e w' => e = .returned (.bool r) ∧ Below w.heap.size w w':=by
  obtain ⟨cs,hcs⟩ : ∃ cs,cs = [old w w.heap.size]:=⟨_,rfl⟩
  have hp : Hp w cs w:=by rw [hcs];exact Hp.old_start w
  have hc2 : ∀ W,Hp w cs W → Below w.heap.size w W:=fun W h => by rw [hcs] at h;exact h.since 0 _ rfl
  have hC0 : ∀ W,Hp w cs W → Kd.C k53 W A0 l0.length l0:=fun W h => Kd.C_below hr0 (hc2 W h)
  clear hcs
  unfold impl_areDifferent_impl_Tile.f at h
  refine sx_enter (N:=18) (l:=[.slice A0 l0.length c0]) Tryz.func51 rfl rfl rfl ?_
  refine wp_seq ?_
  refine sx_region ?_
  refine sx_rd 2 (.bool false) (by rfl) (by kernel_rfl) ?_
  refine sx_nil ?_
  refine ex_then_n ?_
  refine wp_seq ?_
  refine wp_seq ?_
  refine sx_region ?_
  refine sx_rd 5 (.slice A0 l0.length c0) (by rfl) (by kernel_rfl) ?_
  refine sx_rd 6 (.int .i64 (l0.length : Int)) (by rfl) (by kernel_rfl) ?_
  refine sx_rd 7 (.int .i64 0) (by rfl) (by kernel_rfl) ?_
  refine sx_nil ?_
  refine ex_then_n ?_
  refine wp_block ?_
  refine wp_loop_ghost (fun n_ a_ W => ∃ (r_ : List (Nat × Value)) (k_2 : Nat) (x_1 : Int)  , n_ = k_2 + 1 ∧ a_ = fr 18 ([(0,.slice A0 l0.length c0),(5,.slice A0 l0.length c0),(6,.int .i64 (l0.length : Int)),(7,.int .i64 x_1)] ++ r_) ∧ Hp w (cs) W ∧ (impl_areDifferent_impl_Tile.l0 k_2 l0 l0 (l0.length : Int) x_1 = some r) ∧ (k_2 ≤ k)) _ ⟨_,k,0,rfl,fr_front [(0,.slice A0 l0.length c0),(5,.slice A0 l0.length c0),(6,.int .i64 (l0.length : Int)),(7,.int .i64 0)] ⟨rfl,rfl,rfl,rfl,trivial⟩,(hp.take [] 0 (by decide) (by simp)),h,(Nat.le_refl _)⟩ ?_
  rintro _ _ W_4 ⟨r_,k_2,x_1,rfl,rfl,hp,h,hk_3⟩
  rcases k_2 with _|k_2
  · simp [impl_areDifferent_impl_Tile.l0] at h
  simp only [impl_areDifferent_impl_Tile.l0] at h
  refine wp_seq ?_
  refine sx_region ?_
  refine sx_rd 8 (.bool (decide (x_1 < (l0.length : Int)))) (by rfl) (by kernel_rfl) ?_
  refine sx_nil ?_
  refine ex_then_n ?_
  refine wp_seq ?_
  by_cases hc_5 : x_1 < (l0.length : Int)
  ·
    rw [if_pos hc_5] at h
    by_cases hc_6 : 0 ≤ x_1
    case neg => rw [if_neg hc_6] at h;cases h
    rw [if_pos hc_6] at h
    by_cases hc_7 : x_1 < (l0.length : Int)
    case neg => rw [if_neg hc_7] at h;cases h
    rw [if_pos hc_7] at h
    by_cases hc_8 : x_1 ≤ (l0.length : Int)
    case neg => rw [if_neg hc_8] at h;cases h
    rw [if_pos hc_8] at h
    obtain ⟨t_10,hv_9,h⟩:=Option.bind_eq_some_iff.mp h
    try dsimp only at h
    refine sx_then (decide (x_1 < (l0.length : Int))) (by rfl) (decide_eq_true hc_5) ?_
    refine wp_skip ?_
    refine ex_then_n ?_
    refine wp_seq ?_
    refine wp_block ?_
    refine wp_seq ?_
    refine sx_region ?_
    refine sx_rd 9 (.int .i64 x_1) (by rfl) (by kernel_rfl) ?_
    refine sx_rd 10 (.pointer (some (adr A0 x_1 2))) (by rfl) (ix_run (d:=k53) (hC0 _ hp) (t:=29) (by rfl) (by rfl) (by rfl) Tryz.underlying29 (by kernel_rfl) (by omega) (by omega)) ?_
    refine sx_rd 11 (.agg #[.int .i64 ((rd_Tile l0 x_1).f0),.int .i64 ((rd_Tile l0 x_1).f1)]) (by rfl) (el_run (d:=k53) (hC0 _ hp) z53 x_1 (by omega) (by omega) (cells:=[.int .i64 ((rd_Tile l0 x_1).f0),.int .i64 ((rd_Tile l0 x_1).f1)]) (fun cs h => k53_open h) 0 [.int .i64 ((rd_Tile l0 x_1).f0),.int .i64 ((rd_Tile l0 x_1).f1)] (by rfl) (t:=53) (p:=(.tmp 10)) (by rfl) (by rfl) (by kernel_rfl) (by kernel_rfl)) ?_
    refine sx_box 4 hp #[.int .i64 0,.int .i64 0] 53 (by rfl) (fun W => by kernel_rfl) ?_
    intro g_11 W_12 hp
    refine sx_rd 3 (.int .i64 x_1) (by rfl) (by kernel_rfl) ?_
    refine sx_store (t:=53) (p:=(.tmp 4)) (x:=(.tmp 11)) (by rfl) (by rfl) 0 (by rfl) 0 [.int .i64 ((rd_Tile l0 x_1).f0),.int .i64 ((rd_Tile l0 x_1).f1)] (by rfl) (by rfl) (by kernel_rfl) (by simp [Value.oneCell']) (by show 2 ≤ 2;omega) #[.int .i64 ((rd_Tile l0 x_1).f0),.int .i64 ((rd_Tile l0 x_1).f1)] (by rfl) hp ?_
    intro W_13 hp;simp only [List.set_cons_succ,List.set_cons_zero] at hp
    refine sx_nil ?_
    refine ex_then_n ?_
    refine wp_seq ?_
    refine sx_drawT [0,1] (.rd 3 (.alt 2 (.alt 4 (.fin) .non) .non)) 5 (C:=Hp w (blk g_11 #[.int .i64 ((rd_Tile l0 x_1).f0),.int .i64 ((rd_Tile l0 x_1).f1)] 53 :: cs)) (by kernel_rfl) (by kernel_rfl) (fun d _ _ _ _ h => by cases d <;> exact h) (fun W h => h.drew) hp ?_
    refine preI_read rfl ?_
    refine sxq_val 12 (.slice A0 l0.length c0) (by rfl) (fun W _ => (by kernel_rfl)) ?_
    refine sxq_nil ?_
    refine preI_read rfl ?_
    refine sxq_val 13 (.int .i64 x_1) (by rfl) (fun W _ => (by kernel_rfl)) ?_
    refine sxq_nil ?_
    refine preI_nil ?_
    intro W_14 hp
    refine treeI_rd rfl ?_
    refine sxq_val 15 (.agg #[.int .i64 ((rd_Tile l0 x_1).f0),.int .i64 ((rd_Tile l0 x_1).f1)]) (by rfl) (fun W hp => (ldn (t:=53) (p:=(.tmp 4)) (by rfl) (by rfl) (by kernel_rfl) (by kernel_rfl) (by kernel_rfl) (hp.at_ 0 _ (by rfl)))) ?_
    refine sxq_nil ?_
    refine treeI_ev rfl ?_
    have hcap_15 : l0.length ≤ c0:=hc0
    refine sx_rd 14 (.slice A0 ((l0.take (x_1).toNat).length) c0) (by rfl) (sl_hi (x_1).toNat (sz:=2) (xs:=l0) (by rfl) (by rfl) (by rfl) (by omega) Tryz.underlying29 (by kernel_rfl) (by omega) hcap_15) ?_
    refine step_fin hp ?_
    refine treeI_ev rfl ?_
    refine sx_call 16 (by rfl) (by kernel_rfl) ((slices_Contains_impl_Tile_impl_Tile.calls _ A0 c0 (l0.take (x_1).toNat) ((rd_Tile l0 x_1).f0) ((rd_Tile l0 x_1).f1) _ _ (Kd.C_take (hC0 _ hp.tail) (by omega)) (show (l0.take (x_1).toNat).length ≤ c0 by simp;omega) hv_9).mono ?_)
    rintro _ W_16 ⟨rfl,hb⟩
    refine ⟨_,rfl,?_⟩
    replace hp:=hp.below hb
    clear hb
    refine step_fin hp ?_
    refine treeI_fin ?_
    refine sx_nil ?_
    refine ex_then_n ?_
    by_cases hc_17 : t_10 = true
    ·
      rw [if_pos hc_17] at h
      refine sx_then t_10 (by rfl) hc_17 ?_
      refine wp_seq ?_
      refine sx_region ?_
      refine sx_rd 2 (.bool false) (by rfl) (by kernel_rfl) ?_
      refine sx_nil ?_
      refine ex_then_n ?_
      refine wp_ret ?_
      refine ex_blk_r (ex_then_r (ex_then_r (ex_blk_r (ex_then_r ?_))))
      refine sx_end (.bool false) (res1 2 (by rfl)) ?_
      obtain rfl:=Option.some.inj h
      exact ⟨rfl,hc2 _ (hp.tail)⟩
    ·
      rw [if_neg hc_17] at h
      refine sx_else t_10 (by rfl) (Bool.eq_false_iff.mpr hc_17) ?_
      refine wp_skip ?_
      refine ex_blk_n ?_
      refine ex_then_n ?_
      refine sx_region ?_
      refine sx_rd 17 (.int .i64 (wrap64 (x_1 + 1))) (by rfl) (wr_w (by kernel_rfl)) ?_
      refine sx_rd 7 (.int .i64 (wrap64 (x_1 + 1))) (by rfl) (by kernel_rfl) ?_
      refine sx_nil ?_
      refine ex_then_n ?_
      exact ⟨_,(by omega),_,k_2,(wrap64 (x_1 + 1)),rfl,fr_front [(0,.slice A0 l0.length c0),(5,.slice A0 l0.length c0),(6,.int .i64 (l0.length : Int)),(7,.int .i64 (wrap64 (x_1 + 1)))] ⟨rfl,rfl,rfl,rfl,trivial⟩,(hp.take [] 1 (by decide) (by simp)),h,(by omega)⟩
  ·
    rw [if_neg hc_5] at h
    refine sx_else (decide (x_1 < (l0.length : Int))) (by rfl) (decide_eq_false hc_5) ?_
    refine wp_exit ?_
    refine ex_then_e (ex_then_e (ex_blk_here ?_))
    refine ex_then_n ?_
    refine wp_seq ?_
    refine sx_region ?_
    refine sx_rd 2 (.bool true) (by rfl) (by kernel_rfl) ?_
    refine sx_nil ?_
    refine ex_then_n ?_
    refine wp_ret ?_
    refine sx_end (.bool true) (res1 2 (by rfl)) ?_
    obtain rfl:=Option.some.inj h
    exact ⟨rfl,hc2 _ (hp)⟩
end
section
open Go.RowKit Go.Proofs.YtjaojemmbeddfaaGreatW.PrintWords Go.Proofs.YtjaojemmbeddfaaGreatW.PrintLast Go.Proofs.YtjaojemmbeddfaaGreatW.PrintMore
attribute [local go_sem] max2_int min2_int max_two min_two max_three min_three max_four min_four   -- for this text's walks alone
set_option linter.unusedVariables false
set_option linter.unusedSimpArgs false

def impl_tile.f (a0 : Int) (a1 : Int) : Option (Int × Int):=some (mn a0 a1,mx a0 a1)
set_option maxRecDepth 100000 in
set_option maxHeartbeats 40000000 in
theorem impl_tile.calls (a0 : Int) (a1 : Int) (r1 : Int) (r2 : Int) (w : World) (h : impl_tile.f a0 a1 = some (r1,r2)) :
    Calls Tryz.prog 79 #[.int .i64 a0,.int .i64 a1] w fun e w' => e = .returned (.agg #[.int .i64 r1,.int .i64 r2]) ∧ Below w.heap.size w w':=by
  obtain ⟨cs,hcs⟩ : ∃ cs,cs = [old w w.heap.size]:=⟨_,rfl⟩
  have hp : Hp w cs w:=by rw [hcs];exact Hp.old_start w
  have hc2 : ∀ W,Hp w cs W → Below w.heap.size w W:=fun W h => by rw [hcs] at h;exact h.since 0 _ rfl
  clear hcs
  unfold impl_tile.f at h
  refine sx_enter (N:=12) (l:=[.int .i64 a0,.int .i64 a1]) Tryz.func79 rfl rfl rfl ?_
  refine wp_seq ?_
  refine sx_region ?_
  refine sx_box 4 hp #[.int .i64 0,.int .i64 0] 53 (by rfl) (fun W => by kernel_rfl) ?_
  intro g_1 W_2 hp
  refine sx_nil ?_
  refine ex_then_n ?_
  refine wp_seq ?_
  refine sx_region ?_
  refine sx_rd 5 (.int .i64 a0) (by rfl) (by kernel_rfl) ?_
  refine sx_rd 6 (.int .i64 a1) (by rfl) (by kernel_rfl) ?_
  refine sx_rd 7 (.int .i64 (mn a0 a1)) (by rfl) (by kernel_rfl) ?_
  refine sx_rd 8 (.int .i64 a0) (by rfl) (by kernel_rfl) ?_
  refine sx_rd 9 (.int .i64 a1) (by rfl) (by kernel_rfl) ?_
  refine sx_rd 10 (.int .i64 (mx a0 a1)) (by rfl) (by kernel_rfl) ?_
  refine sx_rd 11 (.agg #[.int .i64 (mn a0 a1),.int .i64 (mx a0 a1)]) (by rfl) (by kernel_rfl) ?_
  refine sx_store (t:=53) (p:=(.tmp 4)) (x:=(.tmp 11)) (by rfl) (by rfl) 0 (by rfl) 0 [.int .i64 (mn a0 a1),.int .i64 (mx a0 a1)] (by rfl) (by rfl) (by kernel_rfl) (by simp [Value.oneCell']) (by show 2 ≤ 2;omega) #[.int .i64 (mn a0 a1),.int .i64 (mx a0 a1)] (by rfl) hp ?_
  intro W_3 hp;simp only [List.set_cons_succ,List.set_cons_zero] at hp
  refine sx_nil ?_
  refine ex_then_n ?_
  refine wp_ret ?_
  refine sx_end (.agg #[.int .i64 (mn a0 a1),.int .i64 (mx a0 a1)]) (resc (by rfl) (by rfl) (by kernel_rfl) (by kernel_rfl) (hp.at_ 0 _ (by rfl))) ?_
  simp only [Option.some.injEq,Prod.mk.injEq] at h;obtain ⟨rfl,rfl⟩:=h
  exact ⟨rfl,hc2 _ (hp.tail)⟩
end
section
open Go.RowKit Go.Proofs.YtjaojemmbeddfaaGreatW.PrintWords Go.Proofs.YtjaojemmbeddfaaGreatW.PrintLast Go.Proofs.YtjaojemmbeddfaaGreatW.PrintMore
attribute [local go_sem] max2_int min2_int max_two min_two max_three min_three max_four min_four   -- for this text's walks alone
set_option linter.unusedVariables false
set_option linter.unusedSimpArgs false

def impl_tilesOf.l0 : Nat → List Int → List (S_Tile) → Int → Option ((List (S_Tile)))
  | 0,_,_,_ => none
  | k + 1,x0,x3,x4 => if x4 < (x0.length : Int) then (if 0 ≤ (wrap64 (x4 - 1)) then (if (wrap64 (x4 - 1)) < (x0.length : Int) then (if 0 ≤ x4 then ((impl_tile.f (rd x0 (wrap64 (x4 - 1))) (rd x0 x4)).bind fun bt280 => (if x3.length < 8796093022208 then (impl_tilesOf.l0 k x0 (x3 ++ [(⟨bt280.1,bt280.2⟩ : S_Tile)]) (wrap64 (x4 + 1))) else (none))) else (none)) else (none)) else (none)) else (some x3)
def impl_tilesOf.f (k : Nat) (l0 : List Int) : Option ((List (S_Tile))):=impl_tilesOf.l0 k l0 (([] : List (S_Tile))) 1
set_option maxRecDepth 100000 in
set_option maxHeartbeats 40000000 in
theorem impl_tilesOf.calls (k : Nat) (A0 : Option Addr) (c0 : Nat) (l0 : List Int) (r : List (S_Tile)) (w : World) (hr0 : Kd.C (Kd.int .i64) w A0 l0.length l0) (hc0 : l0.length ≤ c0) (h : impl_tilesOf.f k l0 = some r) :
    Calls Tryz.prog 53 #[.slice A0 l0.length c0] w fun e w' => ∃ v0_ : Value,e = .returned (v0_) ∧ Kd.R k53 53 w' w.heap.size (fun _ => True) v0_ r ∧ Below w.heap.size w w':=by
  obtain ⟨cs,hcs⟩ : ∃ cs,cs = [old w w.heap.size]:=⟨_,rfl⟩
  have hp : Hp w cs w:=by rw [hcs];exact Hp.old_start w
  have hc2 : ∀ W,Hp w cs W → Below w.heap.size w W:=fun W h => by rw [hcs] at h;exact h.since 0 _ rfl
  have hC0 : ∀ W,Hp w cs W → Kd.C (Kd.int .i64) W A0 l0.length l0:=fun W h => Kd.C_below hr0 (hc2 W h)
  clear hcs
  unfold impl_tilesOf.f at h
  refine sx_enter (N:=26) (l:=[.slice A0 l0.length c0]) Tryz.func53 rfl rfl rfl ?_
  refine wp_seq ?_
  refine sx_region ?_
  refine sx_rd 2 (.slice none 0 0) (by rfl) (by kernel_rfl) ?_
  refine sx_nil ?_
  refine ex_then_n ?_
  refine wp_seq ?_
  refine sx_region ?_
  refine sx_lit 5 (by rfl) k53 w.heap.size 53 ([] : List S_Tile) [] (fun W => by kernel_rfl) (Reps.none _ _) (by simp) hp.size hp ?_
  intro g_1 F_2 W_3 hp hz;clear hz
  refine sx_rd 3 (.slice (some ⟨g_1,0,none⟩) (([] : List S_Tile).length) (([] : List S_Tile).length)) (by rfl) (by kernel_rfl) ?_
  refine sx_nil ?_
  refine ex_then_n ?_
  refine wp_seq ?_
  refine wp_seq ?_
  refine sx_region ?_
  refine sx_rd 4 (.int .i64 1) (by rfl) (by kernel_rfl) ?_
  refine sx_nil ?_
  refine ex_then_n ?_
  refine wp_block ?_
  refine wp_loop_ghost (fun n_ a_ W => ∃ (r_ : List (Nat × Value)) (k_6 : Nat) (x_5 : Int) (x_4 : List (S_Tile)) (A_7 : Option Addr) (n_8 c_9 : Nat) (F_10 : Nat → Prop),n_ = k_6 + 1 ∧ a_ = fr 26 ([(0,.slice A0 l0.length c0),(3,.slice A_7 n_8 c_9),(4,.int .i64 x_5)] ++ r_) ∧ Hp w (row k53 53 w.heap.size (.slice A_7 n_8 c_9) x_4 F_10 :: cs) W ∧ (impl_tilesOf.l0 k_6 l0 x_4 x_5 = some r) ∧ (k_6 ≤ k)) _ ⟨_,k,1,(([] : List (S_Tile))),_,_,_,_,rfl,fr_front [(0,.slice A0 l0.length c0),(3,.slice (some ⟨g_1,0,none⟩) (([] : List S_Tile).length) (([] : List S_Tile).length)),(4,.int .i64 1)] ⟨rfl,rfl,rfl,trivial⟩,(hp.take [0] 1 (by decide) (by simp)),h,(Nat.le_refl _)⟩ ?_
  rintro _ _ W_12 ⟨r_,k_6,x_5,x_4,A_7,n_8,c_9,F_10,rfl,rfl,hp,h,hk_11⟩
  obtain ⟨rfl,-⟩:=row_len (hp.at_ 0 _ (by rfl))
  rcases k_6 with _|k_6
  · simp [impl_tilesOf.l0] at h
  simp only [impl_tilesOf.l0] at h
  refine wp_seq ?_
  refine wp_seq ?_
  refine sx_region ?_
  refine sx_rd 6 (.int .i64 x_5) (by rfl) (by kernel_rfl) ?_
  refine sx_rd 7 (.slice A0 l0.length c0) (by rfl) (by kernel_rfl) ?_
  refine sx_rd 8 (.int .i64 (l0.length : Int)) (by rfl) (by kernel_rfl) ?_
  refine sx_rd 9 (.bool (decide (x_5 < (l0.length : Int)))) (by rfl) (by kernel_rfl) ?_
  refine sx_nil ?_
  refine ex_then_n ?_
  by_cases hc_13 : x_5 < (l0.length : Int)
  ·
    rw [if_pos hc_13] at h
    by_cases hc_14 : 0 ≤ (wrap64 (x_5 - 1))
    case neg => rw [if_neg hc_14] at h;cases h
    rw [if_pos hc_14] at h
    by_cases hc_15 : (wrap64 (x_5 - 1)) < (l0.length : Int)
    case neg => rw [if_neg hc_15] at h;cases h
    rw [if_pos hc_15] at h
    by_cases hc_16 : 0 ≤ x_5
    case neg => rw [if_neg hc_16] at h;cases h
    rw [if_pos hc_16] at h
    obtain ⟨⟨t_18,t_19⟩,hv_17,h⟩:=Option.bind_eq_some_iff.mp h
    try dsimp only at h
    by_cases hc_20 : x_4.length < 8796093022208
    case neg => rw [if_neg hc_20] at h;cases h
    rw [if_pos hc_20] at h
    refine sx_then (decide (x_5 < (l0.length : Int))) (by rfl) (decide_eq_true hc_13) ?_
    refine wp_skip ?_
    refine ex_then_n ?_
    refine wp_seq ?_
    refine wp_block ?_
    refine sx_drawT [0,1,2,3,6,7] (.rd 4 (.rd 5 (.rd 8 (.rd 9 (.alt 10 (.alt 11 (.fin) .non) .non))))) 12 (C:=Hp w (row k53 53 w.heap.size (.slice A_7 x_4.length c_9) x_4 F_10 :: cs)) (by kernel_rfl) (by kernel_rfl) (fun d _ _ _ _ h => by cases d <;> exact h) (fun W h => h.drew) hp ?_
    refine preI_read rfl ?_
    refine sxq_val 12 (.slice A_7 x_4.length c_9) (by rfl) (fun W _ => (by kernel_rfl)) ?_
    refine sxq_nil ?_
    refine preI_read rfl ?_
    refine sxq_val 13 (.slice A0 l0.length c0) (by rfl) (fun W _ => (by kernel_rfl)) ?_
    refine sxq_nil ?_
    refine preI_read rfl ?_
    refine sxq_val 14 (.int .i64 x_5) (by rfl) (fun W _ => (by kernel_rfl)) ?_
    refine sxq_nil ?_
    refine preI_read rfl ?_
    refine sxq_val 15 (.int .i64 (wrap64 (x_5 - 1))) (by rfl) (fun W _ => (wr_w (by kernel_rfl))) ?_
    refine sxq_nil ?_
    refine preI_read rfl ?_
    refine sxq_val 18 (.slice A0 l0.length c0) (by rfl) (fun W _ => (by kernel_rfl)) ?_
    refine sxq_nil ?_
    refine preI_read rfl ?_
    refine sxq_val 19 (.int .i64 x_5) (by rfl) (fun W _ => (by kernel_rfl)) ?_
    refine sxq_nil ?_
    refine preI_nil ?_
    intro W_21 hp
    refine treeI_rd rfl ?_
    refine sxq_val 16 (.pointer (some (adr A0 (wrap64 (x_5 - 1)) 1))) (by rfl) (fun W hp => (ix_run (d:=(Kd.int .i64)) (hC0 _ hp.tail) (t:=23) (by rfl) (by rfl) (by rfl) Tryz.underlying23 (by kernel_rfl) (by omega) (by omega))) ?_
    refine sxq_nil ?_
    refine treeI_rd rfl ?_
    refine sxq_val 17 (.int .i64 (rd l0 (wrap64 (x_5 - 1)))) (by rfl) (fun W hp => (ld1 (t:=3) (p:=(.tmp 16)) (by rfl) (by rfl) (by kernel_rfl) (el_cell (d:=(Kd.int .i64)) (hC0 _ hp.tail) 0 (wrap64 (x_5 - 1)) (by omega) (by omega) (cells:=[.int .i64 (rd l0 (wrap64 (x_5 - 1)))]) (fun cs h => h) 0 _ (by rfl)))) ?_
    refine sxq_nil ?_
    refine treeI_rd rfl ?_
    refine sxq_val 20 (.pointer (some (adr A0 x_5 1))) (by rfl) (fun W hp => (ix_run (d:=(Kd.int .i64)) (hC0 _ hp.tail) (t:=23) (by rfl) (by rfl) (by rfl) Tryz.underlying23 (by kernel_rfl) (by omega) (by omega))) ?_
    refine sxq_nil ?_
    refine treeI_rd rfl ?_
    refine sxq_val 21 (.int .i64 (rd l0 x_5)) (by rfl) (fun W hp => (ld1 (t:=3) (p:=(.tmp 20)) (by rfl) (by rfl) (by kernel_rfl) (el_cell (d:=(Kd.int .i64)) (hC0 _ hp.tail) 0 x_5 (by omega) (by omega) (cells:=[.int .i64 (rd l0 x_5)]) (fun cs h => h) 0 _ (by rfl)))) ?_
    refine sxq_nil ?_
    refine treeI_ev rfl ?_
    refine sx_call 22 (by rfl) (by kernel_rfl) ((impl_tile.calls (rd l0 (wrap64 (x_5 - 1))) (rd l0 x_5) _ _ _ hv_17).mono ?_)
    rintro _ W_22 ⟨rfl,hb⟩
    refine ⟨_,rfl,?_⟩
    replace hp:=hp.below hb
    clear hb
    refine step_fin hp ?_
    refine treeI_ev rfl ?_
    refine sx_lit 23 (by rfl) k53 w.heap.size 53 ([(⟨t_18,t_19⟩ : S_Tile)]) [.int .i64 t_18,.int .i64 t_19] (fun W => by kernel_rfl) (tile_reps _ _ _) (by simp) hp.size hp ?_
    intro g_23 F_24 W_25 hp hz;clear hz
    refine step_fin hp.tail ?_
    refine treeI_fin ?_
    refine tail_of [12,13] (by rfl) ?_
    refine tailI_op rfl ?_
    refine sx_append 24 (by rfl) k53 1 (by rfl) (.agg #[.int .i64 0,.int .i64 0]) 16 (by rfl) Tryz.underlying29 (by kernel_rfl) rfl (by decide) (by decide) ([(⟨t_18,t_19⟩ : S_Tile)]) (by rfl) (by rfl) (row_C (hp.at_ 0 _ (by rfl))) tile_kp hp.size (by first|omega|(simp;omega)) hp ?_
    intro A_26 c_27 F_28 W_29 hp hz;clear hz;simp only [List.set_cons_succ,List.set_cons_zero] at hp
    refine tailI_next ?_
    refine tailI_op rfl ?_
    refine sx_rd 3 (.slice A_26 ((x_4 ++ [(⟨t_18,t_19⟩ : S_Tile)]).length) c_27) (by rfl) (by kernel_rfl) ?_
    refine tailI_next ?_
    refine tailI_nil ?_
    refine ex_blk_n ?_
    refine ex_then_n ?_
    refine sx_region ?_
    refine sx_rd 10 (.int .i64 x_5) (by rfl) (by kernel_rfl) ?_
    refine sx_rd 11 (.int .i64 (wrap64 (x_5 + 1))) (by rfl) (wr_w (by kernel_rfl)) ?_
    refine sx_rd 4 (.int .i64 (wrap64 (x_5 + 1))) (by rfl) (by kernel_rfl) ?_
    refine sx_nil ?_
    refine ex_then_n ?_
    exact ⟨_,(by omega),_,k_6,(wrap64 (x_5 + 1)),(x_4 ++ [(⟨t_18,t_19⟩ : S_Tile)]),_,_,_,_,rfl,fr_front [(0,.slice A0 l0.length c0),(3,.slice A_26 ((x_4 ++ [(⟨t_18,t_19⟩ : S_Tile)]).length) c_27),(4,.int .i64 (wrap64 (x_5 + 1)))] ⟨rfl,rfl,rfl,trivial⟩,(hp.take [1] 2 (by decide) (by simp)),h,(by omega)⟩
  ·
    rw [if_neg hc_13] at h
    refine sx_else (decide (x_5 < (l0.length : Int))) (by rfl) (decide_eq_false hc_13) ?_
    refine wp_exit ?_
    refine ex_then_e (ex_then_e (ex_blk_here ?_))
    refine ex_then_n ?_
    refine wp_seq ?_
    refine sx_region ?_
    refine sx_rd 25 (.slice A_7 x_4.length c_9) (by rfl) (by kernel_rfl) ?_
    refine sx_rd 2 (.slice A_7 x_4.length c_9) (by rfl) (by kernel_rfl) ?_
    refine sx_nil ?_
    refine ex_then_n ?_
    refine wp_ret ?_
    refine sx_end (.slice A_7 x_4.length c_9) (res1 2 (by rfl)) ?_
    obtain rfl:=Option.some.inj h
    exact ⟨_,rfl,Kd.R_mono (row_R (hp.at_ 0 _ (by rfl))) (fun _ _ => trivial),hc2 _ (hp.tail)⟩
end
section
open Go.RowKit Go.Proofs.YtjaojemmbeddfaaGreatW.PrintWords Go.Proofs.YtjaojemmbeddfaaGreatW.PrintLast Go.Proofs.YtjaojemmbeddfaaGreatW.PrintMore
attribute [local go_sem] max2_int min2_int max_two min_two max_three min_three max_four min_four   -- for this text's walks alone
set_option linter.unusedVariables false
set_option linter.unusedSimpArgs false

def impl_IsChain.f (k : Nat) (l0 : List Int) : Option (Bool):=if (l0.length : Int) > 0 then ((impl_areWithin.f l0 0 9).bind fun t285 => (if t285 = true then ((impl_tilesOf.f k l0).bind fun t286 => ((impl_areDifferent_impl_Tile.f k t286).bind fun t289 => (some t289))) else (some false))) else (some false)
set_option maxRecDepth 100000 in
set_option maxHeartbeats 40000000 in
theorem impl_IsChain.calls (k : Nat) (A0 : Option Addr) (c0 : Nat) (l0 : List Int) (r : Bool) (w : World) (hr0 : Kd.C (Kd.int .i64) w A0 l0.length l0) (hc0 : l0.length ≤ c0) (h : impl_IsChain.f k l0 = some r) :
    Calls Tryz.prog 50 #[.slice A0 l0.length c0] w fun e w' => e = .returned (.bool r) ∧ Below w.heap.size w w':=by
  obtain ⟨cs,hcs⟩ : ∃ cs,cs = [old w w.heap.size]:=⟨_,rfl⟩
  have hp : Hp w cs w:=by rw [hcs];exact Hp.old_start w
  have hc2 : ∀ W,Hp w cs W → Below w.heap.size w W:=fun W h => by rw [hcs] at h;exact h.since 0 _ rfl
  have hC0 : ∀ W,Hp w cs W → Kd.C (Kd.int .i64) W A0 l0.length l0:=fun W h => Kd.C_below hr0 (hc2 W h)
  clear hcs
  unfold impl_IsChain.f at h
  refine sx_enter (N:=15) (l:=[.slice A0 l0.length c0]) Tryz.func50 rfl rfl rfl ?_
  refine wp_seq ?_
  refine sx_region ?_
  refine sx_rd 2 (.bool false) (by rfl) (by kernel_rfl) ?_
  refine sx_nil ?_
  refine ex_then_n ?_
  refine wp_seq ?_
  by_cases hc_1 : (l0.length : Int) > 0
  ·
    rw [if_pos hc_1] at h
    obtain ⟨t_3,hv_2,h⟩:=Option.bind_eq_some_iff.mp h
    try dsimp only at h
    by_cases hc_4 : t_3 = true
    ·
      rw [if_pos hc_4] at h
      obtain ⟨t_6,hv_5,h⟩:=Option.bind_eq_some_iff.mp h
      try dsimp only at h
      obtain ⟨t_8,hv_7,h⟩:=Option.bind_eq_some_iff.mp h
      try dsimp only at h
      refine sx_region ?_
      refine sx_rd 3 (.slice A0 l0.length c0) (by rfl) (by kernel_rfl) ?_
      refine sx_rd 4 (.int .i64 (l0.length : Int)) (by rfl) (by kernel_rfl) ?_
      refine sx_rd 5 (.bool true) (by rfl) (bv (decide_eq_true hc_1) (by kernel_rfl)) ?_
      refine sx_rd 6 (.bool true) (by rfl) (by kernel_rfl) ?_
      refine sx_want (by rfl) ?_
      refine sx_rd 7 (.slice A0 l0.length c0) (by rfl) (by kernel_rfl) ?_
      refine sx_want (by rfl) ?_
      refine sx_call 8 (by rfl) (by kernel_rfl) ((impl_areWithin.calls A0 c0 l0 0 9 _ _ (hC0 _ hp) hc0 hv_2).mono ?_)
      rintro _ W_9 ⟨rfl,hb⟩
      refine ⟨.bool true,congrArg (fun b => Ending.returned (.bool b)) hc_4,?_⟩
      replace hp:=hp.below hb
      clear hb
      refine sx_rd 9 (.bool true) (by rfl) (by kernel_rfl) ?_
      refine sx_rd 10 (.bool true) (by rfl) (by kernel_rfl) ?_
      refine sx_want (by rfl) ?_
      refine sx_rd 11 (.slice A0 l0.length c0) (by rfl) (by kernel_rfl) ?_
      refine sx_want (by rfl) ?_
      refine sx_call 12 (by rfl) (by kernel_rfl) ((impl_tilesOf.calls _ A0 c0 l0 _ _ (hC0 _ hp) hc0 hv_5).mono ?_)
      rintro _ W_15 ⟨v_11,rfl,hR_10,hb⟩
      refine ⟨_,rfl,?_⟩
      obtain ⟨A_12,c_13,rfl,hcc_c_13,_⟩:=Kd.R_reads hR_10
      obtain ⟨F_14,hp⟩ : ∃ F,Hp w (row k53 53 w.heap.size (.slice A_12 t_6.length c_13) t_6 F :: cs) _:=⟨_,Hp.made hp hb hR_10⟩
      refine sx_want (by rfl) ?_
      refine sx_call 13 (by rfl) (by kernel_rfl) ((impl_areDifferent_impl_Tile.calls _ A_12 c_13 t_6 _ _ (row_C (hp.at_ 0 _ (by rfl))) (row_len (hp.at_ 0 _ (by rfl))).2 hv_7).mono ?_)
      rintro _ W_16 ⟨rfl,hb⟩
      refine ⟨_,rfl,?_⟩
      replace hp:=hp.below hb
      clear hb
      refine sx_rd 14 (.bool t_8) (by rfl) (by kernel_rfl) ?_
      refine sx_rd 2 (.bool t_8) (by rfl) (by kernel_rfl) ?_
      refine sx_nil ?_
      refine ex_then_n ?_
      refine wp_ret ?_
      refine sx_end (.bool t_8) (res1 2 (by rfl)) ?_
      obtain rfl:=Option.some.inj h
      exact ⟨rfl,hc2 _ (hp.tail)⟩
    ·
      rw [if_neg hc_4] at h
      refine sx_region ?_
      refine sx_rd 3 (.slice A0 l0.length c0) (by rfl) (by kernel_rfl) ?_
      refine sx_rd 4 (.int .i64 (l0.length : Int)) (by rfl) (by kernel_rfl) ?_
      refine sx_rd 5 (.bool true) (by rfl) (bv (decide_eq_true hc_1) (by kernel_rfl)) ?_
      refine sx_rd 6 (.bool true) (by rfl) (by kernel_rfl) ?_
      refine sx_want (by rfl) ?_
      refine sx_rd 7 (.slice A0 l0.length c0) (by rfl) (by kernel_rfl) ?_
      refine sx_want (by rfl) ?_
      refine sx_call 8 (by rfl) (by kernel_rfl) ((impl_areWithin.calls A0 c0 l0 0 9 _ _ (hC0 _ hp) hc0 hv_2).mono ?_)
      rintro _ W_17 ⟨rfl,hb⟩
      refine ⟨.bool false,congrArg (fun b => Ending.returned (.bool b)) (Bool.eq_false_iff.mpr hc_4),?_⟩
      replace hp:=hp.below hb
      clear hb
      refine sx_rd 9 (.bool false) (by rfl) (by kernel_rfl) ?_
      refine sx_rd 10 (.bool false) (by rfl) (by kernel_rfl) ?_
      refine sx_skip 11 (by rfl) (by rfl) (by rfl) ?_
      refine sx_skip 12 (by rfl) (by rfl) (by rfl) ?_
      refine sx_skip 13 (by rfl) (by rfl) (by rfl) ?_
      refine sx_rd 14 (.bool false) (by rfl) (by kernel_rfl) ?_
      refine sx_rd 2 (.bool false) (by rfl) (by kernel_rfl) ?_
      refine sx_nil ?_
      refine ex_then_n ?_
      refine wp_ret ?_
      refine sx_end (.bool false) (res1 2 (by rfl)) ?_
      obtain rfl:=Option.some.inj h
      exact ⟨rfl,hc2 _ (hp)⟩
  ·
    rw [if_neg hc_1] at h
    refine sx_region ?_
    refine sx_rd 3 (.slice A0 l0.length c0) (by rfl) (by kernel_rfl) ?_
    refine sx_rd 4 (.int .i64 (l0.length : Int)) (by rfl) (by kernel_rfl) ?_
    refine sx_rd 5 (.bool false) (by rfl) (bv (decide_eq_false hc_1) (by kernel_rfl)) ?_
    refine sx_rd 6 (.bool false) (by rfl) (by kernel_rfl) ?_
    refine sx_skip 7 (by rfl) (by rfl) (by rfl) ?_
    refine sx_skip 8 (by rfl) (by rfl) (by rfl) ?_
    refine sx_rd 9 (.bool false) (by rfl) (by kernel_rfl) ?_
    refine sx_rd 10 (.bool false) (by rfl) (by kernel_rfl) ?_
    refine sx_skip 11 (by rfl) (by rfl) (by rfl) ?_
    refine sx_skip 12 (by rfl) (by rfl) (by rfl) ?_
    refine sx_skip 13 (by rfl) (by rfl) (by rfl) ?_
    refine sx_rd 14 (.bool false) (by rfl) (by kernel_rfl) ?_
    refine sx_rd 2 (.bool false) (by rfl) (by kernel_rfl) ?_
    refine sx_nil ?_
    refine ex_then_n ?_
    refine wp_ret ?_
    refine sx_end (.bool false) (res1 2 (by rfl)) ?_
    obtain rfl:=Option.some.inj h
    exact ⟨rfl,hc2 _ (hp)⟩
end
section
open Go.RowKit Go.Proofs.YtjaojemmbeddfaaGreatW.PrintWords Go.Proofs.YtjaojemmbeddfaaGreatW.PrintLast Go.Proofs.YtjaojemmbeddfaaGreatW.PrintMore
attribute [local go_sem] max2_int min2_int max_two min_two max_three min_three max_four min_four   -- for this text's walks alone
set_option linter.unusedVariables false
set_option linter.unusedSimpArgs false

def impl_Game_isOver.f (l0_0 : List (S_Tile)) (l0_1 : List (S_Tile)) (l0_2 : List Int) (a0_3 : Int) (a0_4 : Int) : Option (Bool):=if (l0_0.length : Int) = 0 then (some true) else (if (l0_1.length : Int) = 0 then (some true) else (some (a0_4 == 2)))
set_option maxRecDepth 100000 in
set_option maxHeartbeats 40000000 in
theorem impl_Game_isOver.calls (A0_0 : Option Addr) (c0_0 : Nat) (l0_0 : List (S_Tile)) (A0_1 : Option Addr) (c0_1 : Nat) (l0_1 : List (S_Tile)) (A0_2 : Option Addr) (c0_2 : Nat) (l0_2 : List Int) (a0_3 : Int) (a0_4 : Int) (r : Bool) (w : World) (hr0_0 : Kd.C k53 w A0_0 l0_0.length l0_0) (hc0_0 : l0_0.length ≤ c0_0) (hr0_1 : Kd.C k53 w A0_1 l0_1.length l0_1) (hc0_1 : l0_1.length ≤ c0_1) (hr0_2 : Kd.C (Kd.int .i64) w A0_2 l0_2.length l0_2) (hc0_2 : l0_2.length ≤ c0_2) (h : impl_Game_isOver.f l0_0 l0_1 l0_2 a0_3 a0_4 = some r) :
    Calls Tryz.prog 33 #[.agg #[.slice A0_0 l0_0.length c0_0,.slice A0_1 l0_1.length c0_1,.slice A0_2 l0_2.length c0_2,.int .i64 a0_3,.int .i64 a0_4]] w fun e w' => e = .returned (.bool r) ∧ Below w.heap.size w w':=by
  obtain ⟨cs,hcs⟩ : ∃ cs,cs = [old w w.heap.size]:=⟨_,rfl⟩
  have hp : Hp w cs w:=by rw [hcs];exact Hp.old_start w
  have hc2 : ∀ W,Hp w cs W → Below w.heap.size w W:=fun W h => by rw [hcs] at h;exact h.since 0 _ rfl
  have hC0_0 : ∀ W,Hp w cs W → Kd.C k53 W A0_0 l0_0.length l0_0:=fun W h => Kd.C_below hr0_0 (hc2 W h)
  have hC0_1 : ∀ W,Hp w cs W → Kd.C k53 W A0_1 l0_1.length l0_1:=fun W h => Kd.C_below hr0_1 (hc2 W h)
  have hC0_2 : ∀ W,Hp w cs W → Kd.C (Kd.int .i64) W A0_2 l0_2.length l0_2:=fun W h => Kd.C_below hr0_2 (hc2 W h)
  clear hcs
  unfold impl_Game_isOver.f at h
  refine sx_enter (N:=18) (l:=[.agg #[.slice A0_0 l0_0.length c0_0,.slice A0_1 l0_1.length c0_1,.slice A0_2 l0_2.length c0_2,.int .i64 a0_3,.int .i64 a0_4]]) Tryz.func33 rfl rfl rfl ?_
  refine wp_seq ?_
  refine sx_region ?_
  refine sx_box 1 hp #[.slice A0_0 l0_0.length c0_0,.slice A0_1 l0_1.length c0_1,.slice A0_2 l0_2.length c0_2,.int .i64 a0_3,.int .i64 a0_4] 31 (by rfl) (fun W => by kernel_rfl) ?_
  intro g_1 W_2 hp
  refine sx_rd 2 (.bool false) (by rfl) (by kernel_rfl) ?_
  refine sx_nil ?_
  refine ex_then_n ?_
  refine wp_seq ?_
  by_cases hc_3 : (l0_0.length : Int) = 0
  ·
    rw [if_pos hc_3] at h
    refine sx_region ?_
    refine sx_rd 3 (.pointer (some ⟨g_1,0,none⟩)) (by rfl) (by kernel_rfl) ?_
    refine sx_rd 4 (.slice A0_0 l0_0.length c0_0) (by rfl) (ld1 (t:=29) (p:=(.tmp 3)) (by rfl) (by rfl) (by kernel_rfl) (hp.cell 0 (by rfl) 0 _ (by rfl))) ?_
    refine sx_rd 5 (.int .i64 (l0_0.length : Int)) (by rfl) (by kernel_rfl) ?_
    refine sx_rd 6 (.bool true) (by rfl) (bv (beq_iff_eq.mpr hc_3) (by kernel_rfl)) ?_
    refine sx_rd 7 (.bool true) (by rfl) (by kernel_rfl) ?_
    refine sx_skip 8 (by rfl) (by rfl) (by rfl) ?_
    refine sx_skip 9 (by rfl) (by rfl) (by rfl) ?_
    refine sx_skip 10 (by rfl) (by rfl) (by rfl) ?_
    refine sx_skip 11 (by rfl) (by rfl) (by rfl) ?_
    refine sx_rd 12 (.bool true) (by rfl) (by kernel_rfl) ?_
    refine sx_rd 13 (.bool true) (by rfl) (by kernel_rfl) ?_
    refine sx_skip 14 (by rfl) (by rfl) (by rfl) ?_
    refine sx_skip 15 (by rfl) (by rfl) (by rfl) ?_
    refine sx_skip 16 (by rfl) (by rfl) (by rfl) ?_
    refine sx_rd 17 (.bool true) (by rfl) (by kernel_rfl) ?_
    refine sx_rd 2 (.bool true) (by rfl) (by kernel_rfl) ?_
    refine sx_nil ?_
    refine ex_then_n ?_
    refine wp_ret ?_
    refine sx_end (.bool true) (res1 2 (by rfl)) ?_
    obtain rfl:=Option.some.inj h
    exact ⟨rfl,hc2 _ (hp.tail)⟩
  ·
    rw [if_neg hc_3] at h
    by_cases hc_4 : (l0_1.length : Int) = 0
    ·
      rw [if_pos hc_4] at h
      refine sx_region ?_
      refine sx_rd 3 (.pointer (some ⟨g_1,0,none⟩)) (by rfl) (by kernel_rfl) ?_
      refine sx_rd 4 (.slice A0_0 l0_0.length c0_0) (by rfl) (ld1 (t:=29) (p:=(.tmp 3)) (by rfl) (by rfl) (by kernel_rfl) (hp.cell 0 (by rfl) 0 _ (by rfl))) ?_
      refine sx_rd 5 (.int .i64 (l0_0.length : Int)) (by rfl) (by kernel_rfl) ?_
      refine sx_rd 6 (.bool false) (by rfl) (bv (beq_eq_false_iff_ne.mpr hc_3) (by kernel_rfl)) ?_
      refine sx_rd 7 (.bool false) (by rfl) (by kernel_rfl) ?_
      refine sx_want (by rfl) ?_
      refine sx_rd 8 (.pointer (some ⟨g_1,1,none⟩)) (by rfl) (by kernel_rfl) ?_
      refine sx_want (by rfl) ?_
      refine sx_rd 9 (.slice A0_1 l0_1.length c0_1) (by rfl) (ld1 (t:=29) (p:=(.tmp 8)) (by rfl) (by rfl) (by kernel_rfl) (hp.cell 0 (by rfl) 1 _ (by rfl))) ?_
      refine sx_want (by rfl) ?_
      refine sx_rd 10 (.int .i64 (l0_1.length : Int)) (by rfl) (by kernel_rfl) ?_
      refine sx_want (by rfl) ?_
      refine sx_rd 11 (.bool true) (by rfl) (bv (beq_iff_eq.mpr hc_4) (by kernel_rfl)) ?_
      refine sx_rd 12 (.bool true) (by rfl) (by kernel_rfl) ?_
      refine sx_rd 13 (.bool true) (by rfl) (by kernel_rfl) ?_
      refine sx_skip 14 (by rfl) (by rfl) (by rfl) ?_
      refine sx_skip 15 (by rfl) (by rfl) (by rfl) ?_
      refine sx_skip 16 (by rfl) (by rfl) (by rfl) ?_
      refine sx_rd 17 (.bool true) (by rfl) (by kernel_rfl) ?_
      refine sx_rd 2 (.bool true) (by rfl) (by kernel_rfl) ?_
      refine sx_nil ?_
      refine ex_then_n ?_
      refine wp_ret ?_
      refine sx_end (.bool true) (res1 2 (by rfl)) ?_
      obtain rfl:=Option.some.inj h
      exact ⟨rfl,hc2 _ (hp.tail)⟩
    ·
      rw [if_neg hc_4] at h
      refine sx_region ?_
      refine sx_rd 3 (.pointer (some ⟨g_1,0,none⟩)) (by rfl) (by kernel_rfl) ?_
      refine sx_rd 4 (.slice A0_0 l0_0.length c0_0) (by rfl) (ld1 (t:=29) (p:=(.tmp 3)) (by rfl) (by rfl) (by kernel_rfl) (hp.cell 0 (by rfl) 0 _ (by rfl))) ?_
      refine sx_rd 5 (.int .i64 (l0_0.length : Int)) (by rfl) (by kernel_rfl) ?_
      refine sx_rd 6 (.bool false) (by rfl) (bv (beq_eq_false_iff_ne.mpr hc_3) (by kernel_rfl)) ?_
      refine sx_rd 7 (.bool false) (by rfl) (by kernel_rfl) ?_
      refine sx_want (by rfl) ?_
      refine sx_rd 8 (.pointer (some ⟨g_1,1,none⟩)) (by rfl) (by kernel_rfl) ?_
      refine sx_want (by rfl) ?_
      refine sx_rd 9 (.slice A0_1 l0_1.length c0_1) (by rfl) (ld1 (t:=29) (p:=(.tmp 8)) (by rfl) (by rfl) (by kernel_rfl) (hp.cell 0 (by rfl) 1 _ (by rfl))) ?_
      refine sx_want (by rfl) ?_
      refine sx_rd 10 (.int .i64 (l0_1.length : Int)) (by rfl) (by kernel_rfl) ?_
      refine sx_want (by rfl) ?_
      refine sx_rd 11 (.bool false) (by rfl) (bv (beq_eq_false_iff_ne.mpr hc_4) (by kernel_rfl)) ?_
      refine sx_rd 12 (.bool false) (by rfl) (by kernel_rfl) ?_
      refine sx_rd 13 (.bool false) (by rfl) (by kernel_rfl) ?_
      refine sx_want (by rfl) ?_
      refine sx_rd 14 (.pointer (some ⟨g_1,4,none⟩)) (by rfl) (by kernel_rfl) ?_
      refine sx_want (by rfl) ?_
      refine sx_rd 15 (.int .i64 a0_4) (by rfl) (ld1 (t:=3) (p:=(.tmp 14)) (by rfl) (by rfl) (by kernel_rfl) (hp.cell 0 (by rfl) 4 _ (by rfl))) ?_
      refine sx_want (by rfl) ?_
      refine sx_rd 16 (.bool (a0_4 == 2)) (by rfl) (by kernel_rfl) ?_
      refine sx_rd 17 (.bool (a0_4 == 2)) (by rfl) (by kernel_rfl) ?_
      refine sx_rd 2 (.bool (a0_4 == 2)) (by rfl) (by kernel_rfl) ?_
      refine sx_nil ?_
      refine ex_then_n ?_
      refine wp_ret ?_
      refine sx_end (.bool (a0_4 == 2)) (res1 2 (by rfl)) ?_
      obtain rfl:=Option.some.inj h
      exact ⟨rfl,hc2 _ (hp.tail)⟩
end
section
open Go.RowKit Go.Proofs.YtjaojemmbeddfaaGreatW.PrintWords Go.Proofs.YtjaojemmbeddfaaGreatW.PrintLast Go.Proofs.YtjaojemmbeddfaaGreatW.PrintMore
attribute [local go_sem] max2_int min2_int max_two min_two max_three min_three max_four min_four   -- for this text's walks alone
set_option linter.unusedVariables false
set_option linter.unusedSimpArgs false

def impl_Game_points.f (k : Nat) (l0_0 : List (S_Tile)) (l0_1 : List (S_Tile)) (l0_2 : List Int) (a0_3 : Int) (a0_4 : Int) : Option (Int):=(impl_pips.f k l0_1).bind fun t320 => ((impl_pips.f k l0_0).bind fun t321 => (some (wrap64 (t320 - t321))))
set_option maxRecDepth 100000 in
set_option maxHeartbeats 40000000 in
theorem impl_Game_points.calls (k : Nat) (A0_0 : Option Addr) (c0_0 : Nat) (l0_0 : List (S_Tile)) (A0_1 : Option Addr) (c0_1 : Nat) (l0_1 : List (S_Tile)) (A0_2 : Option Addr) (c0_2 : Nat) (l0_2 : List Int) (a0_3 : Int) (a0_4 : Int) (r : Int) (w : World) (hr0_0 : Kd.C k53 w A0_0 l0_0.length l0_0) (hc0_0 : l0_0.length ≤ c0_0) (hr0_1 : Kd.C k53 w A0_1 l0_1.length l0_1) (hc0_1 : l0_1.length ≤ c0_1) (hr0_2 : Kd.C (Kd.int .i64) w A0_2 l0_2.length l0_2) (hc0_2 : l0_2.length ≤ c0_2) (h : impl_Game_points.f k l0_0 l0_1 l0_2 a0_3 a0_4 = some r) :
    Calls Tryz.prog 34 #[.agg #[.slice A0_0 l0_0.length c0_0,.slice A0_1 l0_1.length c0_1,.slice A0_2 l0_2.length c0_2,.int .i64 a0_3,.int .i64 a0_4]] w fun e w' => e = .returned (.int .i64 r) ∧ Below w.heap.size w w':=by
  obtain ⟨cs,hcs⟩ : ∃ cs,cs = [old w w.heap.size]:=⟨_,rfl⟩
  have hp : Hp w cs w:=by rw [hcs];exact Hp.old_start w
  have hc2 : ∀ W,Hp w cs W → Below w.heap.size w W:=fun W h => by rw [hcs] at h;exact h.since 0 _ rfl
  have hC0_0 : ∀ W,Hp w cs W → Kd.C k53 W A0_0 l0_0.length l0_0:=fun W h => Kd.C_below hr0_0 (hc2 W h)
  have hC0_1 : ∀ W,Hp w cs W → Kd.C k53 W A0_1 l0_1.length l0_1:=fun W h => Kd.C_below hr0_1 (hc2 W h)
  have hC0_2 : ∀ W,Hp w cs W → Kd.C (Kd.int .i64) W A0_2 l0_2.length l0_2:=fun W h => Kd.C_below hr0_2 (hc2 W h)
  clear hcs
  unfold impl_Game_points.f at h
  obtain ⟨t_2,hv_1,h⟩:=Option.bind_eq_some_iff.mp h
  try dsimp only at h
  obtain ⟨t_4,hv_3,h⟩:=Option.bind_eq_some_iff.mp h
  try dsimp only at h
  refine sx_enter (N:=10) (l:=[.agg #[.slice A0_0 l0_0.length c0_0,.slice A0_1 l0_1.length c0_1,.slice A0_2 l0_2.length c0_2,.int .i64 a0_3,.int .i64 a0_4]]) Tryz.func34 rfl rfl rfl ?_
  refine wp_seq ?_
  refine sx_region ?_
  refine sx_box 1 hp #[.slice A0_0 l0_0.length c0_0,.slice A0_1 l0_1.length c0_1,.slice A0_2 l0_2.length c0_2,.int .i64 a0_3,.int .i64 a0_4] 31 (by rfl) (fun W => by kernel_rfl) ?_
  intro g_5 W_6 hp
  refine sx_rd 2 (.int .i64 0) (by rfl) (by kernel_rfl) ?_
  refine sx_nil ?_
  refine ex_then_n ?_
  refine wp_seq ?_
  refine sx_drawT [0,3] (.rd 1 (.rd 4 (.alt 2 (.alt 5 (.rd 6 (.rd 7 (.fin))) .non) .non))) 8 (C:=Hp w (blk g_5 #[.slice A0_0 l0_0.length c0_0,.slice A0_1 l0_1.length c0_1,.slice A0_2 l0_2.length c0_2,.int .i64 a0_3,.int .i64 a0_4] 31 :: cs)) (by kernel_rfl) (by kernel_rfl) (fun d _ _ _ _ h => by cases d <;> exact h) (fun W h => h.drew) hp ?_
  refine preI_read rfl ?_
  refine sxq_val 3 (.pointer (some ⟨g_5,1,none⟩)) (by rfl) (fun W _ => (by kernel_rfl)) ?_
  refine sxq_nil ?_
  refine preI_read rfl ?_
  refine sxq_val 6 (.pointer (some ⟨g_5,0,none⟩)) (by rfl) (fun W _ => (by kernel_rfl)) ?_
  refine sxq_nil ?_
  refine preI_nil ?_
  intro W_7 hp
  refine treeI_rd rfl ?_
  refine sxq_val 4 (.slice A0_1 l0_1.length c0_1) (by rfl) (fun W hp => (ld1 (t:=29) (p:=(.tmp 3)) (by rfl) (by rfl) (by kernel_rfl) (hp.cell 0 (by rfl) 1 _ (by rfl)))) ?_
  refine sxq_nil ?_
  refine treeI_rd rfl ?_
  refine sxq_val 7 (.slice A0_0 l0_0.length c0_0) (by rfl) (fun W hp => (ld1 (t:=29) (p:=(.tmp 6)) (by rfl) (by rfl) (by kernel_rfl) (hp.cell 0 (by rfl) 0 _ (by rfl)))) ?_
  refine sxq_nil ?_
  refine treeI_ev rfl ?_
  refine sx_call 5 (by rfl) (by kernel_rfl) ((impl_pips.calls _ A0_1 c0_1 l0_1 _ _ (hC0_1 _ hp.tail) hc0_1 hv_1).mono ?_)
  rintro _ W_8 ⟨rfl,hb⟩
  refine ⟨_,rfl,?_⟩
  replace hp:=hp.below hb
  clear hb
  refine step_fin hp ?_
  refine treeI_ev rfl ?_
  refine sx_call 8 (by rfl) (by kernel_rfl) ((impl_pips.calls _ A0_0 c0_0 l0_0 _ _ (hC0_0 _ hp.tail) hc0_0 hv_3).mono ?_)
  rintro _ W_9 ⟨rfl,hb⟩
  refine ⟨_,rfl,?_⟩
  replace hp:=hp.below hb
  clear hb
  refine step_fin hp ?_
  refine treeI_rd rfl ?_
  refine sxq_val 9 (.int .i64 (wrap64 (t_2 - t_4))) (by rfl) (fun W hp => (wr_w (by kernel_rfl))) ?_
  refine sxq_nil ?_
  refine treeI_rd rfl ?_
  refine sxq_val 2 (.int .i64 (wrap64 (t_2 - t_4))) (by rfl) (fun W hp => (by kernel_rfl)) ?_
  refine sxq_nil ?_
  refine treeI_fin ?_
  refine sx_nil ?_
  refine ex_then_n ?_
  refine wp_ret ?_
  refine sx_end (.int .i64 (wrap64 (t_2 - t_4))) (res1 2 (by rfl)) ?_
  obtain rfl:=Option.some.inj h
  exact ⟨rfl,hc2 _ (hp.tail)⟩
end
section
open Go.RowKit Go.Proofs.YtjaojemmbeddfaaGreatW.PrintWords Go.Proofs.YtjaojemmbeddfaaGreatW.PrintLast Go.Proofs.YtjaojemmbeddfaaGreatW.PrintMore
attribute [local go_sem] max2_int min2_int max_two min_two max_three min_three max_four min_four   -- for this text's walks alone
set_option linter.unusedVariables false
set_option linter.unusedSimpArgs false

def impl_Tile_has.f (a0_0 : Int) (a0_1 : Int) (a1 : Int) : Option (Bool):=if a0_0 = a1 then (some true) else (some (a0_1 == a1))
set_option maxRecDepth 100000 in
set_option maxHeartbeats 40000000 in
theorem impl_Tile_has.calls (a0_0 : Int) (a0_1 : Int) (a1 : Int) (r : Bool) (w : World) (h : impl_Tile_has.f a0_0 a0_1 a1 = some r) :
    Calls Tryz.prog 86 #[.agg #[.int .i64 a0_0,.int .i64 a0_1],.int .i64 a1] w fun e w' => e = .returned (.bool r) ∧ Below w.heap.size w w':=by
  obtain ⟨cs,hcs⟩ : ∃ cs,cs = [old w w.heap.size]:=⟨_,rfl⟩
  have hp : Hp w cs w:=by rw [hcs];exact Hp.old_start w
  have hc2 : ∀ W,Hp w cs W → Below w.heap.size w W:=fun W h => by rw [hcs] at h;exact h.since 0 _ rfl
  clear hcs
  unfold impl_Tile_has.f at h
  refine sx_enter (N:=15) (l:=[.agg #[.int .i64 a0_0,.int .i64 a0_1],.int .i64 a1]) Tryz.func86 rfl rfl rfl ?_
  refine wp_seq ?_
  refine sx_region ?_
  refine sx_box 2 hp #[.int .i64 a0_0,.int .i64 a0_1] 53 (by rfl) (fun W => by kernel_rfl) ?_
  intro g_1 W_2 hp
  refine sx_rd 4 (.bool false) (by rfl) (by kernel_rfl) ?_
  refine sx_nil ?_
  refine ex_then_n ?_
  refine wp_seq ?_
  by_cases hc_3 : a0_0 = a1
  ·
    rw [if_pos hc_3] at h
    refine sx_region ?_
    refine sx_rd 5 (.pointer (some ⟨g_1,0,none⟩)) (by rfl) (by kernel_rfl) ?_
    refine sx_rd 6 (.int .i64 a0_0) (by rfl) (ld1 (t:=3) (p:=(.tmp 5)) (by rfl) (by rfl) (by kernel_rfl) (hp.cell 0 (by rfl) 0 _ (by rfl))) ?_
    refine sx_rd 7 (.int .i64 a1) (by rfl) (by kernel_rfl) ?_
    refine sx_rd 8 (.bool true) (by rfl) (bv (beq_iff_eq.mpr hc_3) (by kernel_rfl)) ?_
    refine sx_rd 9 (.bool true) (by rfl) (by kernel_rfl) ?_
    refine sx_skip 10 (by rfl) (by rfl) (by rfl) ?_
    refine sx_skip 11 (by rfl) (by rfl) (by rfl) ?_
    refine sx_skip 12 (by rfl) (by rfl) (by rfl) ?_
    refine sx_skip 13 (by rfl) (by rfl) (by rfl) ?_
    refine sx_rd 14 (.bool true) (by rfl) (by kernel_rfl) ?_
    refine sx_rd 4 (.bool true) (by rfl) (by kernel_rfl) ?_
    refine sx_nil ?_
    refine ex_then_n ?_
    refine wp_ret ?_
    refine sx_end (.bool true) (res1 4 (by rfl)) ?_
    obtain rfl:=Option.some.inj h
    exact ⟨rfl,hc2 _ (hp.tail)⟩
  ·
    rw [if_neg hc_3] at h
    refine sx_region ?_
    refine sx_rd 5 (.pointer (some ⟨g_1,0,none⟩)) (by rfl) (by kernel_rfl) ?_
    refine sx_rd 6 (.int .i64 a0_0) (by rfl) (ld1 (t:=3) (p:=(.tmp 5)) (by rfl) (by rfl) (by kernel_rfl) (hp.cell 0 (by rfl) 0 _ (by rfl))) ?_
    refine sx_rd 7 (.int .i64 a1) (by rfl) (by kernel_rfl) ?_
    refine sx_rd 8 (.bool false) (by rfl) (bv (beq_eq_false_iff_ne.mpr hc_3) (by kernel_rfl)) ?_
    refine sx_rd 9 (.bool false) (by rfl) (by kernel_rfl) ?_
    refine sx_want (by rfl) ?_
    refine sx_rd 10 (.pointer (some ⟨g_1,1,none⟩)) (by rfl) (by kernel_rfl) ?_
    refine sx_want (by rfl) ?_
    refine sx_rd 11 (.int .i64 a0_1) (by rfl) (ld1 (t:=3) (p:=(.tmp 10)) (by rfl) (by rfl) (by kernel_rfl) (hp.cell 0 (by rfl) 1 _ (by rfl))) ?_
    refine sx_want (by rfl) ?_
    refine sx_rd 12 (.int .i64 a1) (by rfl) (by kernel_rfl) ?_
    refine sx_want (by rfl) ?_
    refine sx_rd 13 (.bool (a0_1 == a1)) (by rfl) (by kernel_rfl) ?_
    refine sx_rd 14 (.bool (a0_1 == a1)) (by rfl) (by kernel_rfl) ?_
    refine sx_rd 4 (.bool (a0_1 == a1)) (by rfl) (by kernel_rfl) ?_
    refine sx_nil ?_
    refine ex_then_n ?_
    refine wp_ret ?_
    refine sx_end (.bool (a0_1 == a1)) (res1 4 (by rfl)) ?_
    obtain rfl:=Option.some.inj h
    exact ⟨rfl,hc2 _ (hp.tail)⟩
end
section
open Go.RowKit Go.Proofs.YtjaojemmbeddfaaGreatW.PrintWords Go.Proofs.YtjaojemmbeddfaaGreatW.PrintLast Go.Proofs.YtjaojemmbeddfaaGreatW.PrintMore
attribute [local go_sem] max2_int min2_int max_two min_two max_three min_three max_four min_four   -- for this text's walks alone
set_option linter.unusedVariables false
set_option linter.unusedSimpArgs false

def impl_Tile_other.f (a0_0 : Int) (a0_1 : Int) (a1 : Int) : Option (Int):=some (wrap64 ((wrap64 (a0_0 + a0_1)) - a1))
set_option maxRecDepth 100000 in
set_option maxHeartbeats 40000000 in
theorem impl_Tile_other.calls (a0_0 : Int) (a0_1 : Int) (a1 : Int) (r : Int) (w : World) (h : impl_Tile_other.f a0_0 a0_1 a1 = some r) :
    Calls Tryz.prog 89 #[.agg #[.int .i64 a0_0,.int .i64 a0_1],.int .i64 a1] w fun e w' => e = .returned (.int .i64 r) ∧ Below w.heap.size w w':=by
  obtain ⟨cs,hcs⟩ : ∃ cs,cs = [old w w.heap.size]:=⟨_,rfl⟩
  have hp : Hp w cs w:=by rw [hcs];exact Hp.old_start w
  have hc2 : ∀ W,Hp w cs W → Below w.heap.size w W:=fun W h => by rw [hcs] at h;exact h.since 0 _ rfl
  clear hcs
  unfold impl_Tile_other.f at h
  refine sx_enter (N:=12) (l:=[.agg #[.int .i64 a0_0,.int .i64 a0_1],.int .i64 a1]) Tryz.func89 rfl rfl rfl ?_
  refine wp_seq ?_
  refine sx_region ?_
  refine sx_box 2 hp #[.int .i64 a0_0,.int .i64 a0_1] 53 (by rfl) (fun W => by kernel_rfl) ?_
  intro g_1 W_2 hp
  refine sx_rd 4 (.int .i64 0) (by rfl) (by kernel_rfl) ?_
  refine sx_nil ?_
  refine ex_then_n ?_
  refine wp_seq ?_
  refine sx_region ?_
  refine sx_rd 5 (.pointer (some ⟨g_1,0,none⟩)) (by rfl) (by kernel_rfl) ?_
  refine sx_rd 6 (.int .i64 a0_0) (by rfl) (ld1 (t:=3) (p:=(.tmp 5)) (by rfl) (by rfl) (by kernel_rfl) (hp.cell 0 (by rfl) 0 _ (by rfl))) ?_
  refine sx_rd 7 (.pointer (some ⟨g_1,1,none⟩)) (by rfl) (by kernel_rfl) ?_
  refine sx_rd 8 (.int .i64 a0_1) (by rfl) (ld1 (t:=3) (p:=(.tmp 7)) (by rfl) (by rfl) (by kernel_rfl) (hp.cell 0 (by rfl) 1 _ (by rfl))) ?_
  refine sx_rd 9 (.int .i64 (wrap64 (a0_0 + a0_1))) (by rfl) (wr_w (by kernel_rfl)) ?_
  refine sx_rd 10 (.int .i64 a1) (by rfl) (by kernel_rfl) ?_
  refine sx_rd 11 (.int .i64 (wrap64 ((wrap64 (a0_0 + a0_1)) - a1))) (by rfl) (wr_w (by kernel_rfl)) ?_
  refine sx_rd 4 (.int .i64 (wrap64 ((wrap64 (a0_0 + a0_1)) - a1))) (by rfl) (by kernel_rfl) ?_
  refine sx_nil ?_
  refine ex_then_n ?_
  refine wp_ret ?_
  refine sx_end (.int .i64 (wrap64 ((wrap64 (a0_0 + a0_1)) - a1))) (res1 4 (by rfl)) ?_
  obtain rfl:=Option.some.inj h
  exact ⟨rfl,hc2 _ (hp.tail)⟩
end
section
open Go.RowKit Go.Proofs.YtjaojemmbeddfaaGreatW.PrintWords Go.Proofs.YtjaojemmbeddfaaGreatW.PrintLast Go.Proofs.YtjaojemmbeddfaaGreatW.PrintMore
attribute [local go_sem] max2_int min2_int max_two min_two max_three min_three max_four min_four   -- for this text's walks alone
set_option linter.unusedVariables false
set_option linter.unusedSimpArgs false

def laws_eqTile.f (a0_0 : Int) (a0_1 : Int) (a1_0 : Int) (a1_1 : Int) : Option (Bool):=if a0_0 = a1_0 then (if a0_1 = a1_1 then (some true) else (some false)) else (some false)
set_option maxRecDepth 100000 in
set_option maxHeartbeats 40000000 in
theorem laws_eqTile.calls (a0_0 : Int) (a0_1 : Int) (a1_0 : Int) (a1_1 : Int) (r : Bool) (w : World) (h : laws_eqTile.f a0_0 a0_1 a1_0 a1_1 = some r) :
    Calls Tryz.prog 38 #[.agg #[.int .i64 a0_0,.int .i64 a0_1],.agg #[.int .i64 a1_0,.int .i64 a1_1]] w fun e w' => e = .returned (.bool r) ∧ Below w.heap.size w w':=by
  obtain ⟨cs,hcs⟩ : ∃ cs,cs = [old w w.heap.size]:=⟨_,rfl⟩
  have hp : Hp w cs w:=by rw [hcs];exact Hp.old_start w
  have hc2 : ∀ W,Hp w cs W → Below w.heap.size w W:=fun W h => by rw [hcs] at h;exact h.since 0 _ rfl
  clear hcs
  unfold laws_eqTile.f at h
  refine sx_enter (N:=15) (l:=[.agg #[.int .i64 a0_0,.int .i64 a0_1],.agg #[.int .i64 a1_0,.int .i64 a1_1]]) Tryz.func38 rfl rfl rfl ?_
  refine wp_seq ?_
  refine sx_region ?_
  refine sx_box 2 hp #[.int .i64 a0_0,.int .i64 a0_1] 53 (by rfl) (fun W => by kernel_rfl) ?_
  intro g_1 W_2 hp
  refine sx_box 3 hp #[.int .i64 a1_0,.int .i64 a1_1] 53 (by rfl) (fun W => by kernel_rfl) ?_
  intro g_3 W_4 hp
  refine sx_rd 4 (.bool false) (by rfl) (by kernel_rfl) ?_
  refine sx_nil ?_
  refine ex_then_n ?_
  refine wp_seq ?_
  refine wp_seq ?_
  refine sx_region ?_
  refine sx_rd 5 (.pointer (some ⟨g_1,0,none⟩)) (by rfl) (by kernel_rfl) ?_
  refine sx_rd 6 (.int .i64 a0_0) (by rfl) (ld1 (t:=3) (p:=(.tmp 5)) (by rfl) (by rfl) (by kernel_rfl) (hp.cell 1 (by rfl) 0 _ (by rfl))) ?_
  refine sx_rd 7 (.pointer (some ⟨g_3,0,none⟩)) (by rfl) (by kernel_rfl) ?_
  refine sx_rd 8 (.int .i64 a1_0) (by rfl) (ld1 (t:=3) (p:=(.tmp 7)) (by rfl) (by rfl) (by kernel_rfl) (hp.cell 0 (by rfl) 0 _ (by rfl))) ?_
  refine sx_rd 9 (.bool (a0_0 != a1_0)) (by rfl) (by kernel_rfl) ?_
  refine sx_nil ?_
  refine ex_then_n ?_
  by_cases hc_5 : a0_0 = a1_0
  ·
    rw [if_pos hc_5] at h
    refine sx_else (a0_0 != a1_0) (by rfl) (bne_eq_false_iff_eq.mpr hc_5) ?_
    refine wp_skip ?_
    refine ex_then_n ?_
    refine wp_seq ?_
    refine wp_seq ?_
    refine sx_region ?_
    refine sx_rd 10 (.pointer (some ⟨g_1,1,none⟩)) (by rfl) (by kernel_rfl) ?_
    refine sx_rd 11 (.int .i64 a0_1) (by rfl) (ld1 (t:=3) (p:=(.tmp 10)) (by rfl) (by rfl) (by kernel_rfl) (hp.cell 1 (by rfl) 1 _ (by rfl))) ?_
    refine sx_rd 12 (.pointer (some ⟨g_3,1,none⟩)) (by rfl) (by kernel_rfl) ?_
    refine sx_rd 13 (.int .i64 a1_1) (by rfl) (ld1 (t:=3) (p:=(.tmp 12)) (by rfl) (by rfl) (by kernel_rfl) (hp.cell 0 (by rfl) 1 _ (by rfl))) ?_
    refine sx_rd 14 (.bool (a0_1 != a1_1)) (by rfl) (by kernel_rfl) ?_
    refine sx_nil ?_
    refine ex_then_n ?_
    by_cases hc_6 : a0_1 = a1_1
    ·
      rw [if_pos hc_6] at h
      refine sx_else (a0_1 != a1_1) (by rfl) (bne_eq_false_iff_eq.mpr hc_6) ?_
      refine wp_skip ?_
      refine ex_then_n ?_
      refine wp_seq ?_
      refine sx_region ?_
      refine sx_rd 4 (.bool true) (by rfl) (by kernel_rfl) ?_
      refine sx_nil ?_
      refine ex_then_n ?_
      refine wp_ret ?_
      refine sx_end (.bool true) (res1 4 (by rfl)) ?_
      obtain rfl:=Option.some.inj h
      exact ⟨rfl,hc2 _ (hp.tail.tail)⟩
    ·
      rw [if_neg hc_6] at h
      refine sx_then (a0_1 != a1_1) (by rfl) (bne_iff_ne.mpr hc_6) ?_
      refine wp_seq ?_
      refine sx_region ?_
      refine sx_rd 4 (.bool false) (by rfl) (by kernel_rfl) ?_
      refine sx_nil ?_
      refine ex_then_n ?_
      refine wp_ret ?_
      refine ex_then_r ?_
      refine sx_end (.bool false) (res1 4 (by rfl)) ?_
      obtain rfl:=Option.some.inj h
      exact ⟨rfl,hc2 _ (hp.tail.tail)⟩
  ·
    rw [if_neg hc_5] at h
    refine sx_then (a0_0 != a1_0) (by rfl) (bne_iff_ne.mpr hc_5) ?_
    refine wp_seq ?_
    refine sx_region ?_
    refine sx_rd 4 (.bool false) (by rfl) (by kernel_rfl) ?_
    refine sx_nil ?_
    refine ex_then_n ?_
    refine wp_ret ?_
    refine ex_then_r ?_
    refine sx_end (.bool false) (res1 4 (by rfl)) ?_
    obtain rfl:=Option.some.inj h
    exact ⟨rfl,hc2 _ (hp.tail.tail)⟩
end
end Go.Proofs.YtjaojemmbeddfaaGreat.Hd
