-- Printed by hprint.py and laid together by pack.py (this session's programs over the kit's print program). Lean checks it.
import Derived.Test.YtjaojemmbeddfaaGreatMSx5
import Derived.Test.YtjaojemmbeddfaaGreatMSxL
import Derived.Test.YtjaojemmbeddfaaGreatG0
import Derived.Test.YtjaojemmbeddfaaGreatG2
namespace Go.Proofs.YtjaojemmbeddfaaGreat.Hd
section
open Go.RowKit Go.Proofs.YtjaojemmbeddfaaGreatW.PrintWords Go.Proofs.YtjaojemmbeddfaaGreatW.PrintLast Go.Proofs.YtjaojemmbeddfaaGreatW.PrintMore
attribute [local go_sem] max2_int min2_int max_two min_two max_three min_three max_four min_four   -- for this text's walks alone
set_option linter.unusedVariables false
set_option linter.unusedSimpArgs false

def laws_eqTileS.l0 : Nat → List (S_Tile) → List (S_Tile) → Int → Option (Bool)
  | 0,_,_,_ => none
  | k + 1,x0,x1,x5 => if x5 < (x0.length : Int) then (if 0 ≤ x5 then (if x5 < (x1.length : Int) then ((laws_eqTile.f ((rd_Tile x0 x5).f0) ((rd_Tile x0 x5).f1) ((rd_Tile x1 x5).f0) ((rd_Tile x1 x5).f1)).bind fun t407 => (if t407 = true then (laws_eqTileS.l0 k x0 x1 (wrap64 (x5 + 1))) else (some false))) else (none)) else (none)) else (some true)
def laws_eqTileS.f (k : Nat) (l0 : List (S_Tile)) (l1 : List (S_Tile)) : Option (Bool):=if (l0.length : Int) = (l1.length : Int) then (laws_eqTileS.l0 k l0 l1 0) else (some false)
set_option maxRecDepth 100000 in
set_option maxHeartbeats 40000000 in
theorem laws_eqTileS.calls (k : Nat) (A0 : Option Addr) (c0 : Nat) (l0 : List (S_Tile)) (A1 : Option Addr) (c1 : Nat) (l1 : List (S_Tile)) (r : Bool) (w : World) (hr0 : Kd.C k53 w A0 l0.length l0) (hc0 : l0.length ≤ c0) (hr1 : Kd.C k53 w A1 l1.length l1) (hc1 : l1.length ≤ c1) (h : laws_eqTileS.f k l0 l1 = some r) :
    Calls Tryz.prog 23 #[.slice A0 l0.length c0,.slice A1 l1.length c1] w fun e w' => e = .returned (.bool r) ∧ Below w.heap.size w w':=by
  obtain ⟨cs,hcs⟩ : ∃ cs,cs = [old w w.heap.size]:=⟨_,rfl⟩
  have hp : Hp w cs w:=by rw [hcs];exact Hp.old_start w
  have hc2 : ∀ W,Hp w cs W → Below w.heap.size w W:=fun W h => by rw [hcs] at h;exact h.since 0 _ rfl
  have hC0 : ∀ W,Hp w cs W → Kd.C k53 W A0 l0.length l0:=fun W h => Kd.C_below hr0 (hc2 W h)
  have hC1 : ∀ W,Hp w cs W → Kd.C k53 W A1 l1.length l1:=fun W h => Kd.C_below hr1 (hc2 W h)
  clear hcs
  unfold laws_eqTileS.f at h
  refine sx_enter (N:=27) (l:=[.slice A0 l0.length c0,.slice A1 l1.length c1]) Tryz.func23 rfl rfl rfl ?_
  refine wp_seq ?_
  refine sx_region ?_
  refine sx_rd 4 (.bool false) (by rfl) (by kernel_rfl) ?_
  refine sx_nil ?_
  refine ex_then_n ?_
  refine wp_seq ?_
  refine wp_seq ?_
  refine sx_region ?_
  refine sx_rd 6 (.slice A0 l0.length c0) (by rfl) (by kernel_rfl) ?_
  refine sx_rd 7 (.int .i64 (l0.length : Int)) (by rfl) (by kernel_rfl) ?_
  refine sx_rd 8 (.slice A1 l1.length c1) (by rfl) (by kernel_rfl) ?_
  refine sx_rd 9 (.int .i64 (l1.length : Int)) (by rfl) (by kernel_rfl) ?_
  refine sx_rd 10 (.bool ((l0.length : Int) != (l1.length : Int))) (by rfl) (by kernel_rfl) ?_
  refine sx_nil ?_
  refine ex_then_n ?_
  by_cases hc_1 : (l0.length : Int) = (l1.length : Int)
  ·
    rw [if_pos hc_1] at h
    refine sx_else ((l0.length : Int) != (l1.length : Int)) (by rfl) (bne_eq_false_iff_eq.mpr hc_1) ?_
    refine wp_skip ?_
    refine ex_then_n ?_
    refine wp_seq ?_
    refine wp_seq ?_
    refine sx_region ?_
    refine sx_rd 5 (.int .i64 0) (by rfl) (by kernel_rfl) ?_
    refine sx_nil ?_
    refine ex_then_n ?_
    refine wp_block ?_
    refine wp_loop_ghost (fun n_ a_ W => ∃ (r_ : List (Nat × Value)) (k_3 : Nat) (x_2 : Int)  , n_ = k_3 + 1 ∧ a_ = fr 27 ([(0,.slice A0 l0.length c0),(1,.slice A1 l1.length c1),(5,.int .i64 x_2)] ++ r_) ∧ Hp w (cs) W ∧ (laws_eqTileS.l0 k_3 l0 l1 x_2 = some r) ∧ (k_3 ≤ k)) _ ⟨_,k,0,rfl,fr_front [(0,.slice A0 l0.length c0),(1,.slice A1 l1.length c1),(5,.int .i64 0)] ⟨rfl,rfl,rfl,trivial⟩,(hp.take [] 0 (by decide) (by simp)),h,(Nat.le_refl _)⟩ ?_
    rintro _ _ W_5 ⟨r_,k_3,x_2,rfl,rfl,hp,h,hk_4⟩
    rcases k_3 with _|k_3
    · simp [laws_eqTileS.l0] at h
    simp only [laws_eqTileS.l0] at h
    refine wp_seq ?_
    refine wp_seq ?_
    refine sx_region ?_
    refine sx_rd 11 (.int .i64 x_2) (by rfl) (by kernel_rfl) ?_
    refine sx_rd 12 (.slice A0 l0.length c0) (by rfl) (by kernel_rfl) ?_
    refine sx_rd 13 (.int .i64 (l0.length : Int)) (by rfl) (by kernel_rfl) ?_
    refine sx_rd 14 (.bool (decide (x_2 < (l0.length : Int)))) (by rfl) (by kernel_rfl) ?_
    refine sx_nil ?_
    refine ex_then_n ?_
    by_cases hc_6 : x_2 < (l0.length : Int)
    ·
      rw [if_pos hc_6] at h
      by_cases hc_7 : 0 ≤ x_2
      case neg => rw [if_neg hc_7] at h;cases h
      rw [if_pos hc_7] at h
      by_cases hc_8 : x_2 < (l1.length : Int)
      case neg => rw [if_neg hc_8] at h;cases h
      rw [if_pos hc_8] at h
      obtain ⟨t_10,hv_9,h⟩:=Option.bind_eq_some_iff.mp h
      try dsimp only at h
      refine sx_then (decide (x_2 < (l0.length : Int))) (by rfl) (decide_eq_true hc_6) ?_
      refine wp_skip ?_
      refine ex_then_n ?_
      refine wp_seq ?_
      refine wp_block ?_
      refine wp_seq ?_
      refine sx_drawT [0,1,4,5] (.rd 2 (.rd 3 (.rd 6 (.rd 7 (.alt 8 (.rd 9 (.fin)) .non))))) 10 (C:=Hp w (cs)) (by kernel_rfl) (by kernel_rfl) (fun d _ _ _ _ h => by cases d <;> exact h) (fun W h => h.drew) hp ?_
      refine preI_read rfl ?_
      refine sxq_val 17 (.slice A0 l0.length c0) (by rfl) (fun W _ => (by kernel_rfl)) ?_
      refine sxq_nil ?_
      refine preI_read rfl ?_
      refine sxq_val 18 (.int .i64 x_2) (by rfl) (fun W _ => (by kernel_rfl)) ?_
      refine sxq_nil ?_
      refine preI_read rfl ?_
      refine sxq_val 21 (.slice A1 l1.length c1) (by rfl) (fun W _ => (by kernel_rfl)) ?_
      refine sxq_nil ?_
      refine preI_read rfl ?_
      refine sxq_val 22 (.int .i64 x_2) (by rfl) (fun W _ => (by kernel_rfl)) ?_
      refine sxq_nil ?_
      refine preI_nil ?_
      intro W_11 hp
      refine treeI_rd rfl ?_
      refine sxq_val 19 (.pointer (some (adr A0 x_2 2))) (by rfl) (fun W hp => (ix_run (d:=k53) (hC0 _ hp) (t:=29) (by rfl) (by rfl) (by rfl) Tryz.underlying29 (by kernel_rfl) (by omega) (by omega))) ?_
      refine sxq_nil ?_
      refine treeI_rd rfl ?_
      refine sxq_val 20 (.agg #[.int .i64 ((rd_Tile l0 x_2).f0),.int .i64 ((rd_Tile l0 x_2).f1)]) (by rfl) (fun W hp => (el_run (d:=k53) (hC0 _ hp) z53 x_2 (by omega) (by omega) (cells:=[.int .i64 ((rd_Tile l0 x_2).f0),.int .i64 ((rd_Tile l0 x_2).f1)]) (fun cs h => k53_open h) 0 [.int .i64 ((rd_Tile l0 x_2).f0),.int .i64 ((rd_Tile l0 x_2).f1)] (by rfl) (t:=53) (p:=(.tmp 19)) (by rfl) (by rfl) (by kernel_rfl) (by kernel_rfl))) ?_
      refine sxq_nil ?_
      refine treeI_rd rfl ?_
      refine sxq_val 23 (.pointer (some (adr A1 x_2 2))) (by rfl) (fun W hp => (ix_run (d:=k53) (hC1 _ hp) (t:=29) (by rfl) (by rfl) (by rfl) Tryz.underlying29 (by kernel_rfl) (by omega) (by omega))) ?_
      refine sxq_nil ?_
      refine treeI_rd rfl ?_
      refine sxq_val 24 (.agg #[.int .i64 ((rd_Tile l1 x_2).f0),.int .i64 ((rd_Tile l1 x_2).f1)]) (by rfl) (fun W hp => (el_run (d:=k53) (hC1 _ hp) z53 x_2 (by omega) (by omega) (cells:=[.int .i64 ((rd_Tile l1 x_2).f0),.int .i64 ((rd_Tile l1 x_2).f1)]) (fun cs h => k53_open h) 0 [.int .i64 ((rd_Tile l1 x_2).f0),.int .i64 ((rd_Tile l1 x_2).f1)] (by rfl) (t:=53) (p:=(.tmp 23)) (by rfl) (by rfl) (by kernel_rfl) (by kernel_rfl))) ?_
      refine sxq_nil ?_
      refine treeI_ev rfl ?_
      refine sx_call 25 (by rfl) (by kernel_rfl) ((laws_eqTile.calls ((rd_Tile l0 x_2).f0) ((rd_Tile l0 x_2).f1) ((rd_Tile l1 x_2).f0) ((rd_Tile l1 x_2).f1) _ _ hv_9).mono ?_)
      rintro _ W_12 ⟨rfl,hb⟩
      refine ⟨_,rfl,?_⟩
      replace hp:=hp.below hb
      clear hb
      refine step_fin hp ?_
      refine treeI_rd rfl ?_
      refine sxq_val 26 (.bool (!t_10)) (by rfl) (fun W hp => (by kernel_rfl)) ?_
      refine sxq_nil ?_
      refine treeI_fin ?_
      refine sx_nil ?_
      refine ex_then_n ?_
      by_cases hc_13 : t_10 = true
      ·
        rw [if_pos hc_13] at h
        refine sx_else (!t_10) (by rfl) (show (!t_10) = false from by rw [hc_13];rfl) ?_
        refine wp_skip ?_
        refine ex_blk_n ?_
        refine ex_then_n ?_
        refine sx_region ?_
        refine sx_rd 15 (.int .i64 x_2) (by rfl) (by kernel_rfl) ?_
        refine sx_rd 16 (.int .i64 (wrap64 (x_2 + 1))) (by rfl) (wr_w (by kernel_rfl)) ?_
        refine sx_rd 5 (.int .i64 (wrap64 (x_2 + 1))) (by rfl) (by kernel_rfl) ?_
        refine sx_nil ?_
        refine ex_then_n ?_
        exact ⟨_,(by omega),_,k_3,(wrap64 (x_2 + 1)),rfl,fr_front [(0,.slice A0 l0.length c0),(1,.slice A1 l1.length c1),(5,.int .i64 (wrap64 (x_2 + 1)))] ⟨rfl,rfl,rfl,trivial⟩,(hp.take [] 0 (by decide) (by simp)),h,(by omega)⟩
      ·
        rw [if_neg hc_13] at h
        refine sx_then (!t_10) (by rfl) (show (!t_10) = true from by rw [(Bool.eq_false_iff.mpr hc_13)];rfl) ?_
        refine wp_seq ?_
        refine sx_region ?_
        refine sx_rd 4 (.bool false) (by rfl) (by kernel_rfl) ?_
        refine sx_nil ?_
        refine ex_then_n ?_
        refine wp_ret ?_
        refine ex_blk_r (ex_then_r (ex_then_r (ex_blk_r (ex_then_r ?_))))
        refine sx_end (.bool false) (res1 4 (by rfl)) ?_
        obtain rfl:=Option.some.inj h
        exact ⟨rfl,hc2 _ (hp)⟩
    ·
      rw [if_neg hc_6] at h
      refine sx_else (decide (x_2 < (l0.length : Int))) (by rfl) (decide_eq_false hc_6) ?_
      refine wp_exit ?_
      refine ex_then_e (ex_then_e (ex_blk_here ?_))
      refine ex_then_n ?_
      refine wp_seq ?_
      refine sx_region ?_
      refine sx_rd 4 (.bool true) (by rfl) (by kernel_rfl) ?_
      refine sx_nil ?_
      refine ex_then_n ?_
      refine wp_ret ?_
      refine sx_end (.bool true) (res1 4 (by rfl)) ?_
      obtain rfl:=Option.some.inj h
      exact ⟨rfl,hc2 _ (hp)⟩
  ·
    rw [if_neg hc_1] at h
    refine sx_then ((l0.length : Int) != (l1.length : Int)) (by rfl) (bne_iff_ne.mpr hc_1) ?_
    refine wp_seq ?_
    refine sx_region ?_
    refine sx_rd 4 (.bool false) (by rfl) (by kernel_rfl) ?_
    refine sx_nil ?_
    refine ex_then_n ?_
    refine wp_ret ?_
    refine ex_then_r ?_
    refine sx_end (.bool false) (res1 4 (by rfl)) ?_
    obtain rfl:=Option.some.inj h
    exact ⟨rfl,hc2 _ (hp)⟩
end
section
open Go.RowKit Go.Proofs.YtjaojemmbeddfaaGreatW.PrintWords Go.Proofs.YtjaojemmbeddfaaGreatW.PrintLast Go.Proofs.YtjaojemmbeddfaaGreatW.PrintMore
attribute [local go_sem] max2_int min2_int max_two min_two max_three min_three max_four min_four   -- for this text's walks alone
set_option linter.unusedVariables false
set_option linter.unusedSimpArgs false

def laws_eqGame.f (k : Nat) (l0_0 : List (S_Tile)) (l0_1 : List (S_Tile)) (l0_2 : List Int) (a0_3 : Int) (a0_4 : Int) (l1_0 : List (S_Tile)) (l1_1 : List (S_Tile)) (l1_2 : List Int) (a1_3 : Int) (a1_4 : Int) : Option (Bool):=(laws_eqTileS.f k l0_0 l1_0).bind fun t412 => (if t412 = true then ((laws_eqTileS.f k l0_1 l1_1).bind fun t413 => (if t413 = true then ((laws_eqIntS.f k l0_2 l1_2).bind fun t414 => (if t414 = true then (if a0_3 = a1_3 then (if a0_4 = a1_4 then (some true) else (some false)) else (some false)) else (some false))) else (some false))) else (some false))
set_option maxRecDepth 100000 in
set_option maxHeartbeats 40000000 in
theorem laws_eqGame.calls (k : Nat) (A0_0 : Option Addr) (c0_0 : Nat) (l0_0 : List (S_Tile)) (A0_1 : Option Addr) (c0_1 : Nat) (l0_1 : List (S_Tile)) (A0_2 : Option Addr) (c0_2 : Nat) (l0_2 : List Int) (a0_3 : Int) (a0_4 : Int) (A1_0 : Option Addr) (c1_0 : Nat) (l1_0 : List (S_Tile)) (A1_1 : Option Addr) (c1_1 : Nat) (l1_1 : List (S_Tile)) (A1_2 : Option Addr) (c1_2 : Nat) (l1_2 : List Int) (a1_3 : Int) (a1_4 : Int) (r : Bool) (w : World) (hr0_0 : Kd.C k53 w A0_0 l0_0.length l0_0) (hc0_0 : l0_0.length ≤ c0_0) (hr0_1 : Kd.C k53 w A0_1 l0_1.length l0_1) (hc0_1 : l0_1.length ≤ c0_1) (hr0_2 : Kd.C (Kd.int .i64) w A0_2 l0_2.length l0_2) (hc0_2 : l0_2.length ≤ c0_2) (hr1_0 : Kd.C k53 w A1_0 l1_0.length l1_0) (hc1_0 : l1_0.length ≤ c1_0) (hr1_1 : Kd.C k53 w A1_1 l1_1.length l1_1) (hc1_1 : l1_1.length ≤ c1_1) (hr1_2 : Kd.C (Kd.int .i64) w A1_2 l1_2.length l1_2) (hc1_2 : l1_2.length ≤ c1_2) (h : laws_eqGame.f k l0_0 l0_1 l0_2 a0_3 a0_4 l1_0 l1_1 l1_2 a1_3 a1_4 = some r) :
    Calls Tryz.prog 10 #[.agg #[.slice A0_0 l0_0.length c0_0,.slice A0_1 l0_1.length c0_1,.slice A0_2 l0_2.length c0_2,.int .i64 a0_3,.int .i64 a0_4],.agg #[.slice A1_0 l1_0.length c1_0,.slice A1_1 l1_1.length c1_1,.slice A1_2 l1_2.length c1_2,.int .i64 a1_3,.int .i64 a1_4]] w fun e w' => e = .returned (.bool r) ∧ Below w.heap.size w w':=by
  obtain ⟨cs,hcs⟩ : ∃ cs,cs = [old w w.heap.size]:=⟨_,rfl⟩
  have hp : Hp w cs w:=by rw [hcs];exact Hp.old_start w
  have hc2 : ∀ W,Hp w cs W → Below w.heap.size w W:=fun W h => by rw [hcs] at h;exact h.since 0 _ rfl
  have hC0_0 : ∀ W,Hp w cs W → Kd.C k53 W A0_0 l0_0.length l0_0:=fun W h => Kd.C_below hr0_0 (hc2 W h)
  have hC0_1 : ∀ W,Hp w cs W → Kd.C k53 W A0_1 l0_1.length l0_1:=fun W h => Kd.C_below hr0_1 (hc2 W h)
  have hC0_2 : ∀ W,Hp w cs W → Kd.C (Kd.int .i64) W A0_2 l0_2.length l0_2:=fun W h => Kd.C_below hr0_2 (hc2 W h)
  have hC1_0 : ∀ W,Hp w cs W → Kd.C k53 W A1_0 l1_0.length l1_0:=fun W h => Kd.C_below hr1_0 (hc2 W h)
  have hC1_1 : ∀ W,Hp w cs W → Kd.C k53 W A1_1 l1_1.length l1_1:=fun W h => Kd.C_below hr1_1 (hc2 W h)
  have hC1_2 : ∀ W,Hp w cs W → Kd.C (Kd.int .i64) W A1_2 l1_2.length l1_2:=fun W h => Kd.C_below hr1_2 (hc2 W h)
  clear hcs
  unfold laws_eqGame.f at h
  obtain ⟨t_2,hv_1,h⟩:=Option.bind_eq_some_iff.mp h
  try dsimp only at h
  refine sx_enter (N:=33) (l:=[.agg #[.slice A0_0 l0_0.length c0_0,.slice A0_1 l0_1.length c0_1,.slice A0_2 l0_2.length c0_2,.int .i64 a0_3,.int .i64 a0_4],.agg #[.slice A1_0 l1_0.length c1_0,.slice A1_1 l1_1.length c1_1,.slice A1_2 l1_2.length c1_2,.int .i64 a1_3,.int .i64 a1_4]]) Tryz.func10 rfl rfl rfl ?_
  refine wp_seq ?_
  refine sx_region ?_
  refine sx_box 2 hp #[.slice A0_0 l0_0.length c0_0,.slice A0_1 l0_1.length c0_1,.slice A0_2 l0_2.length c0_2,.int .i64 a0_3,.int .i64 a0_4] 31 (by rfl) (fun W => by kernel_rfl) ?_
  intro g_3 W_4 hp
  refine sx_box 3 hp #[.slice A1_0 l1_0.length c1_0,.slice A1_1 l1_1.length c1_1,.slice A1_2 l1_2.length c1_2,.int .i64 a1_3,.int .i64 a1_4] 31 (by rfl) (fun W => by kernel_rfl) ?_
  intro g_5 W_6 hp
  refine sx_rd 4 (.bool false) (by rfl) (by kernel_rfl) ?_
  refine sx_nil ?_
  refine ex_then_n ?_
  refine wp_seq ?_
  refine wp_seq ?_
  refine sx_region ?_
  refine sx_rd 5 (.pointer (some ⟨g_3,0,none⟩)) (by rfl) (by kernel_rfl) ?_
  refine sx_rd 6 (.slice A0_0 l0_0.length c0_0) (by rfl) (ld1 (t:=29) (p:=(.tmp 5)) (by rfl) (by rfl) (by kernel_rfl) (hp.cell 1 (by rfl) 0 _ (by rfl))) ?_
  refine sx_rd 7 (.pointer (some ⟨g_5,0,none⟩)) (by rfl) (by kernel_rfl) ?_
  refine sx_rd 8 (.slice A1_0 l1_0.length c1_0) (by rfl) (ld1 (t:=29) (p:=(.tmp 7)) (by rfl) (by rfl) (by kernel_rfl) (hp.cell 0 (by rfl) 0 _ (by rfl))) ?_
  refine sx_call 9 (by rfl) (by kernel_rfl) ((laws_eqTileS.calls _ A0_0 c0_0 l0_0 A1_0 c1_0 l1_0 _ _ (hC0_0 _ hp.tail.tail) hc0_0 (hC1_0 _ hp.tail.tail) hc1_0 hv_1).mono ?_)
  rintro _ W_7 ⟨rfl,hb⟩
  refine ⟨_,rfl,?_⟩
  replace hp:=hp.below hb
  clear hb
  refine sx_rd 10 (.bool (!t_2)) (by rfl) (by kernel_rfl) ?_
  refine sx_nil ?_
  refine ex_then_n ?_
  by_cases hc_8 : t_2 = true
  ·
    rw [if_pos hc_8] at h
    obtain ⟨t_10,hv_9,h⟩:=Option.bind_eq_some_iff.mp h
    try dsimp only at h
    refine sx_else (!t_2) (by rfl) (show (!t_2) = false from by rw [hc_8];rfl) ?_
    refine wp_skip ?_
    refine ex_then_n ?_
    refine wp_seq ?_
    refine wp_seq ?_
    refine sx_region ?_
    refine sx_rd 11 (.pointer (some ⟨g_3,1,none⟩)) (by rfl) (by kernel_rfl) ?_
    refine sx_rd 12 (.slice A0_1 l0_1.length c0_1) (by rfl) (ld1 (t:=29) (p:=(.tmp 11)) (by rfl) (by rfl) (by kernel_rfl) (hp.cell 1 (by rfl) 1 _ (by rfl))) ?_
    refine sx_rd 13 (.pointer (some ⟨g_5,1,none⟩)) (by rfl) (by kernel_rfl) ?_
    refine sx_rd 14 (.slice A1_1 l1_1.length c1_1) (by rfl) (ld1 (t:=29) (p:=(.tmp 13)) (by rfl) (by rfl) (by kernel_rfl) (hp.cell 0 (by rfl) 1 _ (by rfl))) ?_
    refine sx_call 15 (by rfl) (by kernel_rfl) ((laws_eqTileS.calls _ A0_1 c0_1 l0_1 A1_1 c1_1 l1_1 _ _ (hC0_1 _ hp.tail.tail) hc0_1 (hC1_1 _ hp.tail.tail) hc1_1 hv_9).mono ?_)
    rintro _ W_11 ⟨rfl,hb⟩
    refine ⟨_,rfl,?_⟩
    replace hp:=hp.below hb
    clear hb
    refine sx_rd 16 (.bool (!t_10)) (by rfl) (by kernel_rfl) ?_
    refine sx_nil ?_
    refine ex_then_n ?_
    by_cases hc_12 : t_10 = true
    ·
      rw [if_pos hc_12] at h
      obtain ⟨t_14,hv_13,h⟩:=Option.bind_eq_some_iff.mp h
      try dsimp only at h
      refine sx_else (!t_10) (by rfl) (show (!t_10) = false from by rw [hc_12];rfl) ?_
      refine wp_skip ?_
      refine ex_then_n ?_
      refine wp_seq ?_
      refine wp_seq ?_
      refine sx_region ?_
      refine sx_rd 17 (.pointer (some ⟨g_3,2,none⟩)) (by rfl) (by kernel_rfl) ?_
      refine sx_rd 18 (.slice A0_2 l0_2.length c0_2) (by rfl) (ld1 (t:=23) (p:=(.tmp 17)) (by rfl) (by rfl) (by kernel_rfl) (hp.cell 1 (by rfl) 2 _ (by rfl))) ?_
      refine sx_rd 19 (.pointer (some ⟨g_5,2,none⟩)) (by rfl) (by kernel_rfl) ?_
      refine sx_rd 20 (.slice A1_2 l1_2.length c1_2) (by rfl) (ld1 (t:=23) (p:=(.tmp 19)) (by rfl) (by rfl) (by kernel_rfl) (hp.cell 0 (by rfl) 2 _ (by rfl))) ?_
      refine sx_call 21 (by rfl) (by kernel_rfl) ((laws_eqIntS.calls _ A0_2 c0_2 l0_2 A1_2 c1_2 l1_2 _ _ (hC0_2 _ hp.tail.tail) hc0_2 (hC1_2 _ hp.tail.tail) hc1_2 hv_13).mono ?_)
      rintro _ W_15 ⟨rfl,hb⟩
      refine ⟨_,rfl,?_⟩
      replace hp:=hp.below hb.below
      clear hb
      refine sx_rd 22 (.bool (!t_14)) (by rfl) (by kernel_rfl) ?_
      refine sx_nil ?_
      refine ex_then_n ?_
      by_cases hc_16 : t_14 = true
      ·
        rw [if_pos hc_16] at h
        refine sx_else (!t_14) (by rfl) (show (!t_14) = false from by rw [hc_16];rfl) ?_
        refine wp_skip ?_
        refine ex_then_n ?_
        refine wp_seq ?_
        refine wp_seq ?_
        refine sx_region ?_
        refine sx_rd 23 (.pointer (some ⟨g_3,3,none⟩)) (by rfl) (by kernel_rfl) ?_
        refine sx_rd 24 (.int .i64 a0_3) (by rfl) (ld1 (t:=3) (p:=(.tmp 23)) (by rfl) (by rfl) (by kernel_rfl) (hp.cell 1 (by rfl) 3 _ (by rfl))) ?_
        refine sx_rd 25 (.pointer (some ⟨g_5,3,none⟩)) (by rfl) (by kernel_rfl) ?_
        refine sx_rd 26 (.int .i64 a1_3) (by rfl) (ld1 (t:=3) (p:=(.tmp 25)) (by rfl) (by rfl) (by kernel_rfl) (hp.cell 0 (by rfl) 3 _ (by rfl))) ?_
        refine sx_rd 27 (.bool (a0_3 != a1_3)) (by rfl) (by kernel_rfl) ?_
        refine sx_nil ?_
        refine ex_then_n ?_
        by_cases hc_17 : a0_3 = a1_3
        ·
          rw [if_pos hc_17] at h
          refine sx_else (a0_3 != a1_3) (by rfl) (bne_eq_false_iff_eq.mpr hc_17) ?_
          refine wp_skip ?_
          refine ex_then_n ?_
          refine wp_seq ?_
          refine wp_seq ?_
          refine sx_region ?_
          refine sx_rd 28 (.pointer (some ⟨g_3,4,none⟩)) (by rfl) (by kernel_rfl) ?_
          refine sx_rd 29 (.int .i64 a0_4) (by rfl) (ld1 (t:=3) (p:=(.tmp 28)) (by rfl) (by rfl) (by kernel_rfl) (hp.cell 1 (by rfl) 4 _ (by rfl))) ?_
          refine sx_rd 30 (.pointer (some ⟨g_5,4,none⟩)) (by rfl) (by kernel_rfl) ?_
          refine sx_rd 31 (.int .i64 a1_4) (by rfl) (ld1 (t:=3) (p:=(.tmp 30)) (by rfl) (by rfl) (by kernel_rfl) (hp.cell 0 (by rfl) 4 _ (by rfl))) ?_
          refine sx_rd 32 (.bool (a0_4 != a1_4)) (by rfl) (by kernel_rfl) ?_
          refine sx_nil ?_
          refine ex_then_n ?_
          by_cases hc_18 : a0_4 = a1_4
          ·
            rw [if_pos hc_18] at h
            refine sx_else (a0_4 != a1_4) (by rfl) (bne_eq_false_iff_eq.mpr hc_18) ?_
            refine wp_skip ?_
            refine ex_then_n ?_
            refine wp_seq ?_
            refine sx_region ?_
            refine sx_rd 4 (.bool true) (by rfl) (by kernel_rfl) ?_
            refine sx_nil ?_
            refine ex_then_n ?_
            refine wp_ret ?_
            refine sx_end (.bool true) (res1 4 (by rfl)) ?_
            obtain rfl:=Option.some.inj h
            exact ⟨rfl,hc2 _ (hp.tail.tail)⟩
          ·
            rw [if_neg hc_18] at h
            refine sx_then (a0_4 != a1_4) (by rfl) (bne_iff_ne.mpr hc_18) ?_
            refine wp_seq ?_
            refine sx_region ?_
            refine sx_rd 4 (.bool false) (by rfl) (by kernel_rfl) ?_
            refine sx_nil ?_
            refine ex_then_n ?_
            refine wp_ret ?_
            refine ex_then_r ?_
            refine sx_end (.bool false) (res1 4 (by rfl)) ?_
            obtain rfl:=Option.some.inj h
            exact ⟨rfl,hc2 _ (hp.tail.tail)⟩
        ·
          rw [if_neg hc_17] at h
          refine sx_then (a0_3 != a1_3) (by rfl) (bne_iff_ne.mpr hc_17) ?_
          refine wp_seq ?_
          refine sx_region ?_
          refine sx_rd 4 (.bool false) (by rfl) (by kernel_rfl) ?_
          refine sx_nil ?_
          refine ex_then_n ?_
          refine wp_ret ?_
          refine ex_then_r ?_
          refine sx_end (.bool false) (res1 4 (by rfl)) ?_
          obtain rfl:=Option.some.inj h
          exact ⟨rfl,hc2 _ (hp.tail.tail)⟩
      ·
        rw [if_neg hc_16] at h
        refine sx_then (!t_14) (by rfl) (show (!t_14) = true from by rw [(Bool.eq_false_iff.mpr hc_16)];rfl) ?_
        refine wp_seq ?_
        refine sx_region ?_
        refine sx_rd 4 (.bool false) (by rfl) (by kernel_rfl) ?_
        refine sx_nil ?_
        refine ex_then_n ?_
        refine wp_ret ?_
        refine ex_then_r ?_
        refine sx_end (.bool false) (res1 4 (by rfl)) ?_
        obtain rfl:=Option.some.inj h
        exact ⟨rfl,hc2 _ (hp.tail.tail)⟩
    ·
      rw [if_neg hc_12] at h
      refine sx_then (!t_10) (by rfl) (show (!t_10) = true from by rw [(Bool.eq_false_iff.mpr hc_12)];rfl) ?_
      refine wp_seq ?_
      refine sx_region ?_
      refine sx_rd 4 (.bool false) (by rfl) (by kernel_rfl) ?_
      refine sx_nil ?_
      refine ex_then_n ?_
      refine wp_ret ?_
      refine ex_then_r ?_
      refine sx_end (.bool false) (res1 4 (by rfl)) ?_
      obtain rfl:=Option.some.inj h
      exact ⟨rfl,hc2 _ (hp.tail.tail)⟩
  ·
    rw [if_neg hc_8] at h
    refine sx_then (!t_2) (by rfl) (show (!t_2) = true from by rw [(Bool.eq_false_iff.mpr hc_8)];rfl) ?_
    refine wp_seq ?_
    refine sx_region ?_
    refine sx_rd 4 (.bool false) (by rfl) (by kernel_rfl) ?_
    refine sx_nil ?_
    refine ex_then_n ?_
    refine wp_ret ?_
    refine ex_then_r ?_
    refine sx_end (.bool false) (res1 4 (by rfl)) ?_
    obtain rfl:=Option.some.inj h
    exact ⟨rfl,hc2 _ (hp.tail.tail)⟩
end
section
open Go.RowKit Go.Proofs.YtjaojemmbeddfaaGreatW.PrintWords Go.Proofs.YtjaojemmbeddfaaGreatW.PrintLast Go.Proofs.YtjaojemmbeddfaaGreatW.PrintMore
attribute [local go_sem] max2_int min2_int max_two min_two max_three min_three max_four min_four   -- for this text's walks alone
set_option linter.unusedVariables false
set_option linter.unusedSimpArgs false

def spec_plPoints.f (k : Nat) (l0_0 : List (S_Tile)) (l0_1 : List (S_Tile)) (l0_2 : List Int) (a0_3 : Int) (a0_4 : Int) : Option (Int):=(spec_tiPips.f k l0_1).bind fun t504 => ((spec_tiPips.f k l0_0).bind fun t505 => (some (wrap64 (t504 - t505))))
set_option maxRecDepth 100000 in
set_option maxHeartbeats 40000000 in
theorem spec_plPoints.calls (k : Nat) (A0_0 : Option Addr) (c0_0 : Nat) (l0_0 : List (S_Tile)) (A0_1 : Option Addr) (c0_1 : Nat) (l0_1 : List (S_Tile)) (A0_2 : Option Addr) (c0_2 : Nat) (l0_2 : List Int) (a0_3 : Int) (a0_4 : Int) (r : Int) (w : World) (hr0_0 : Kd.C k53 w A0_0 l0_0.length l0_0) (hc0_0 : l0_0.length ≤ c0_0) (hr0_1 : Kd.C k53 w A0_1 l0_1.length l0_1) (hc0_1 : l0_1.length ≤ c0_1) (hr0_2 : Kd.C (Kd.int .i64) w A0_2 l0_2.length l0_2) (hc0_2 : l0_2.length ≤ c0_2) (h : spec_plPoints.f k l0_0 l0_1 l0_2 a0_3 a0_4 = some r) :
    Calls Tryz.prog 39 #[.agg #[.slice A0_0 l0_0.length c0_0,.slice A0_1 l0_1.length c0_1,.slice A0_2 l0_2.length c0_2,.int .i64 a0_3,.int .i64 a0_4]] w fun e w' => e = .returned (.int .i64 r) ∧ Below w.heap.size w w':=by
  obtain ⟨cs,hcs⟩ : ∃ cs,cs = [old w w.heap.size]:=⟨_,rfl⟩
  have hp : Hp w cs w:=by rw [hcs];exact Hp.old_start w
  have hc2 : ∀ W,Hp w cs W → Below w.heap.size w W:=fun W h => by rw [hcs] at h;exact h.since 0 _ rfl
  have hC0_0 : ∀ W,Hp w cs W → Kd.C k53 W A0_0 l0_0.length l0_0:=fun W h => Kd.C_below hr0_0 (hc2 W h)
  have hC0_1 : ∀ W,Hp w cs W → Kd.C k53 W A0_1 l0_1.length l0_1:=fun W h => Kd.C_below hr0_1 (hc2 W h)
  have hC0_2 : ∀ W,Hp w cs W → Kd.C (Kd.int .i64) W A0_2 l0_2.length l0_2:=fun W h => Kd.C_below hr0_2 (hc2 W h)
  clear hcs
  unfold spec_plPoints.f at h
  obtain ⟨t_2,hv_1,h⟩:=Option.bind_eq_some_iff.mp h
  try dsimp only at h
  obtain ⟨t_4,hv_3,h⟩:=Option.bind_eq_some_iff.mp h
  try dsimp only at h
  refine sx_enter (N:=10) (l:=[.agg #[.slice A0_0 l0_0.length c0_0,.slice A0_1 l0_1.length c0_1,.slice A0_2 l0_2.length c0_2,.int .i64 a0_3,.int .i64 a0_4]]) Tryz.func39 rfl rfl rfl ?_
  refine wp_seq ?_
  refine sx_region ?_
  refine sx_box 1 hp #[.slice A0_0 l0_0.length c0_0,.slice A0_1 l0_1.length c0_1,.slice A0_2 l0_2.length c0_2,.int .i64 a0_3,.int .i64 a0_4] 31 (by rfl) (fun W => by kernel_rfl) ?_
  intro g_5 W_6 hp
  refine sx_rd 2 (.int .i64 0) (by rfl) (by kernel_rfl) ?_
  refine sx_nil ?_
  refine ex_then_n ?_
  refine wp_seq ?_
  refine sx_drawT [0,3] (.rd 1 (.rd 4 (.alt 2 (.alt 5 (.rd 6 (.rd 7 (.fin))) .non) .non))) 8 (C:=Hp w (blk g_5 #[.slice A0_0 l0_0.length c0_0,.slice A0_1 l0_1.length c0_1,.slice A0_2 l0_2.length c0_2,.int .i64 a0_3,.int .i64 a0_4] 31 :: cs)) (by kernel_rfl) (by kernel_rfl) (fun d _ _ _ _ h => by cases d <;> exact h) (fun W h => h.drew) hp ?_
  refine preI_read rfl ?_
  refine sxq_val 3 (.pointer (some ⟨g_5,1,none⟩)) (by rfl) (fun W _ => (by kernel_rfl)) ?_
  refine sxq_nil ?_
  refine preI_read rfl ?_
  refine sxq_val 6 (.pointer (some ⟨g_5,0,none⟩)) (by rfl) (fun W _ => (by kernel_rfl)) ?_
  refine sxq_nil ?_
  refine preI_nil ?_
  intro W_7 hp
  refine treeI_rd rfl ?_
  refine sxq_val 4 (.slice A0_1 l0_1.length c0_1) (by rfl) (fun W hp => (ld1 (t:=29) (p:=(.tmp 3)) (by rfl) (by rfl) (by kernel_rfl) (hp.cell 0 (by rfl) 1 _ (by rfl)))) ?_
  refine sxq_nil ?_
  refine treeI_rd rfl ?_
  refine sxq_val 7 (.slice A0_0 l0_0.length c0_0) (by rfl) (fun W hp => (ld1 (t:=29) (p:=(.tmp 6)) (by rfl) (by rfl) (by kernel_rfl) (hp.cell 0 (by rfl) 0 _ (by rfl)))) ?_
  refine sxq_nil ?_
  refine treeI_ev rfl ?_
  refine sx_call 5 (by rfl) (by kernel_rfl) ((spec_tiPips.calls _ A0_1 c0_1 l0_1 _ _ (hC0_1 _ hp.tail) hc0_1 hv_1).mono ?_)
  rintro _ W_8 ⟨rfl,hb⟩
  refine ⟨_,rfl,?_⟩
  replace hp:=hp.below hb
  clear hb
  refine step_fin hp ?_
  refine treeI_ev rfl ?_
  refine sx_call 8 (by rfl) (by kernel_rfl) ((spec_tiPips.calls _ A0_0 c0_0 l0_0 _ _ (hC0_0 _ hp.tail) hc0_0 hv_3).mono ?_)
  rintro _ W_9 ⟨rfl,hb⟩
  refine ⟨_,rfl,?_⟩
  replace hp:=hp.below hb
  clear hb
  refine step_fin hp ?_
  refine treeI_rd rfl ?_
  refine sxq_val 9 (.int .i64 (wrap64 (t_2 - t_4))) (by rfl) (fun W hp => (wr_w (by kernel_rfl))) ?_
  refine sxq_nil ?_
  refine treeI_rd rfl ?_
  refine sxq_val 2 (.int .i64 (wrap64 (t_2 - t_4))) (by rfl) (fun W hp => (by kernel_rfl)) ?_
  refine sxq_nil ?_
  refine treeI_fin ?_
  refine sx_nil ?_
  refine ex_then_n ?_
  refine wp_ret ?_
  refine sx_end (.int .i64 (wrap64 (t_2 - t_4))) (res1 2 (by rfl)) ?_
  obtain rfl:=Option.some.inj h
  exact ⟨rfl,hc2 _ (hp.tail)⟩
end
end Go.Proofs.YtjaojemmbeddfaaGreat.Hd
