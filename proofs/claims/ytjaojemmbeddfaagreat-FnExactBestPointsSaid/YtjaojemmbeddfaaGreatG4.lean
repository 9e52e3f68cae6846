-- Printed by hprint.py and laid together by pack.py (this session's programs over the kit's print program). Lean checks it.
import Derived.Test.YtjaojemmbeddfaaGreatMSx5
import Derived.Test.YtjaojemmbeddfaaGreatMSxL
import Derived.Test.YtjaojemmbeddfaaGreatG0
import Derived.Test.YtjaojemmbeddfaaGreatG2
import Derived.Test.YtjaojemmbeddfaaGreatG1
import Derived.Test.YtjaojemmbeddfaaGreatMHand
import Derived.Test.YtjaojemmbeddfaaGreatMStrJ
import Derived.Test.YtjaojemmbeddfaaGreatMMoved
namespace Go.Proofs.YtjaojemmbeddfaaGreat.Hd
section
open Go.RowKit Go.Proofs.YtjaojemmbeddfaaGreatW.PrintWords Go.Proofs.YtjaojemmbeddfaaGreatW.PrintLast Go.Proofs.YtjaojemmbeddfaaGreatW.PrintMore
attribute [local go_sem] max2_int min2_int max_two min_two max_three min_three max_four min_four   -- for this text's walks alone
set_option linter.unusedVariables false
set_option linter.unusedSimpArgs false

mutual
def impl_IsGame.j0 : Nat → Bool → List (S_Tile) → List (S_Tile) → List Int → Int → Int → Option (Bool)
  | 0,_,_,_,_,_,_ => none
  | k + 1,x24,x299000,x299001,x299002,x299003,x299004 => if x24 = true then (some false) else (if (x299002.length : Int) > 0 then (if (x299002.length : Int) = 1 then (impl_IsGame.j1 k true x299000 x299001 x299002 x299003 x299004) else ((impl_IsChain.f k x299002).bind fun t303 => (impl_IsGame.j1 k (!t303) x299000 x299001 x299002 x299003 x299004))) else (impl_IsGame.j1 k false x299000 x299001 x299002 x299003 x299004))
def impl_IsGame.j1 : Nat → Bool → List (S_Tile) → List (S_Tile) → List Int → Int → Int → Option (Bool)
  | 0,_,_,_,_,_,_ => none
  | k + 1,x40,x299000,x299001,x299002,x299003,x299004 => if x40 = true then (some false) else ((impl_tilesOf.f k x299002).bind fun t304 => ((slices_Concat_impl_Tile_impl_Tile.f k (([x299000,x299001,t304] : List (List (S_Tile))))).bind fun t310 => ((impl_areDifferent_impl_Tile.f k t310).bind fun t313 => (some t313))))
end
def impl_IsGame.f (k : Nat) (l0_0 : List (S_Tile)) (l0_1 : List (S_Tile)) (l0_2 : List Int) (a0_3 : Int) (a0_4 : Int) : Option (Bool):=(impl_IsHand.f k l0_0).bind fun t299 => (if t299 = true then ((impl_IsHand.f k l0_1).bind fun t300 => (if t300 = true then ((impl_within.f a0_3 0 1).bind fun t301 => (if t301 = true then ((impl_within.f a0_4 0 2).bind fun t302 => (impl_IsGame.j0 k (!t302) l0_0 l0_1 l0_2 a0_3 a0_4)) else (impl_IsGame.j0 k true l0_0 l0_1 l0_2 a0_3 a0_4))) else (impl_IsGame.j0 k true l0_0 l0_1 l0_2 a0_3 a0_4))) else (impl_IsGame.j0 k true l0_0 l0_1 l0_2 a0_3 a0_4))
set_option maxRecDepth 100000 in
set_option maxHeartbeats 40000000 in
theorem impl_IsGame.calls (k : Nat) (P0_0_ : Nat → Prop) (A0_0 : Option Addr) (c0_0 : Nat) (l0_0 : List (S_Tile)) (P0_1_ : Nat → Prop) (A0_1 : Option Addr) (c0_1 : Nat) (l0_1 : List (S_Tile)) (A0_2 : Option Addr) (c0_2 : Nat) (l0_2 : List Int) (a0_3 : Int) (a0_4 : Int) (r : Bool) (w : World) (hs0_0 : Kd.V k53 53 w w.heap.size (fun k_ => P0_0_ k_) (.slice A0_0 l0_0.length c0_0) l0_0) (hs0_1 : Kd.V k53 53 w w.heap.size (fun k_ => P0_1_ k_) (.slice A0_1 l0_1.length c0_1) l0_1) (hr0_2 : Kd.C (Kd.int .i64) w A0_2 l0_2.length l0_2) (hc0_2 : l0_2.length ≤ c0_2) (h : impl_IsGame.f k l0_0 l0_1 l0_2 a0_3 a0_4 = some r) :
    Calls Tryz.prog 32 #[.agg #[.slice A0_0 l0_0.length c0_0,.slice A0_1 l0_1.length c0_1,.slice A0_2 l0_2.length c0_2,.int .i64 a0_3,.int .i64 a0_4]] w fun e w' => e = .returned (.bool r) ∧ Below w.heap.size w w':=by
  obtain ⟨cs,hcs⟩ : ∃ cs,cs = [old w w.heap.size]:=⟨_,rfl⟩
  have hp : Hp w cs w:=by rw [hcs];exact Hp.old_start w
  have hc2 : ∀ W,Hp w cs W → Below w.heap.size w W:=fun W h => by rw [hcs] at h;exact h.since 0 _ rfl
  have hC0_0 : ∀ W,Hp w cs W → Kd.C k53 W A0_0 l0_0.length l0_0:=fun W h => (Kd.V_reads' (Kd.V_below hs0_0 (hc2 W h))).2.2
  have hc0_0 : l0_0.length ≤ c0_0:=(Kd.V_reads' hs0_0).2.1
  have hC0_1 : ∀ W,Hp w cs W → Kd.C k53 W A0_1 l0_1.length l0_1:=fun W h => (Kd.V_reads' (Kd.V_below hs0_1 (hc2 W h))).2.2
  have hc0_1 : l0_1.length ≤ c0_1:=(Kd.V_reads' hs0_1).2.1
  have hC0_2 : ∀ W,Hp w cs W → Kd.C (Kd.int .i64) W A0_2 l0_2.length l0_2:=fun W h => Kd.C_below hr0_2 (hc2 W h)
  clear hcs
  unfold impl_IsGame.f at h
  obtain ⟨t_2,hv_1,h⟩:=Option.bind_eq_some_iff.mp h
  try dsimp only at h
  refine sx_enter (N:=51) (l:=[.agg #[.slice A0_0 l0_0.length c0_0,.slice A0_1 l0_1.length c0_1,.slice A0_2 l0_2.length c0_2,.int .i64 a0_3,.int .i64 a0_4]]) Tryz.func32 rfl rfl rfl ?_
  refine wp_seq ?_
  refine sx_region ?_
  refine sx_box 1 hp #[.slice A0_0 l0_0.length c0_0,.slice A0_1 l0_1.length c0_1,.slice A0_2 l0_2.length c0_2,.int .i64 a0_3,.int .i64 a0_4] 31 (by rfl) (fun W => by kernel_rfl) ?_
  intro g_3 W_4 hp
  refine sx_rd 2 (.bool false) (by rfl) (by kernel_rfl) ?_
  refine sx_nil ?_
  refine ex_then_n ?_
  refine wp_seq ?_
  refine wp_seq ?_
  by_cases hc_5 : t_2 = true
  ·
    rw [if_pos hc_5] at h
    obtain ⟨t_7,hv_6,h⟩:=Option.bind_eq_some_iff.mp h
    try dsimp only at h
    by_cases hc_8 : t_7 = true
    ·
      rw [if_pos hc_8] at h
      obtain ⟨t_10,hv_9,h⟩:=Option.bind_eq_some_iff.mp h
      try dsimp only at h
      by_cases hc_11 : t_10 = true
      ·
        rw [if_pos hc_11] at h
        obtain ⟨t_13,hv_12,h⟩:=Option.bind_eq_some_iff.mp h
        try dsimp only at h
        rcases k with _|k
        · simp [impl_IsGame.j0] at h
        simp only [impl_IsGame.j0] at h
        refine sx_region ?_
        refine sx_rd 3 (.pointer (some ⟨g_3,0,none⟩)) (by rfl) (by kernel_rfl) ?_
        refine sx_rd 4 (.slice A0_0 l0_0.length c0_0) (by rfl) (ld1 (t:=29) (p:=(.tmp 3)) (by rfl) (by rfl) (by kernel_rfl) (hp.cell 0 (by rfl) 0 _ (by rfl))) ?_
        refine sx_call 5 (by rfl) (by kernel_rfl) ((impl_IsHand.calls _ A0_0 c0_0 l0_0 _ _ (hC0_0 _ hp.tail) hc0_0 hv_1).mono ?_)
        rintro _ W_14 ⟨rfl,hb⟩
        refine ⟨_,rfl,?_⟩
        replace hp:=hp.below hb
        clear hb
        refine sx_rd 6 (.bool false) (by rfl) (bv (show (!t_2) = false from by rw [hc_5];rfl) (by kernel_rfl)) ?_
        refine sx_rd 7 (.bool false) (by rfl) (by kernel_rfl) ?_
        refine sx_want (by rfl) ?_
        refine sx_rd 8 (.pointer (some ⟨g_3,1,none⟩)) (by rfl) (by kernel_rfl) ?_
        refine sx_want (by rfl) ?_
        refine sx_rd 9 (.slice A0_1 l0_1.length c0_1) (by rfl) (ld1 (t:=29) (p:=(.tmp 8)) (by rfl) (by rfl) (by kernel_rfl) (hp.cell 0 (by rfl) 1 _ (by rfl))) ?_
        refine sx_want (by rfl) ?_
        refine sx_call 10 (by rfl) (by kernel_rfl) ((impl_IsHand.calls _ A0_1 c0_1 l0_1 _ _ (hC0_1 _ hp.tail) hc0_1 hv_6).mono ?_)
        rintro _ W_15 ⟨rfl,hb⟩
        refine ⟨_,rfl,?_⟩
        replace hp:=hp.below hb
        clear hb
        refine sx_want (by rfl) ?_
        refine sx_rd 11 (.bool false) (by rfl) (bv (show (!t_7) = false from by rw [hc_8];rfl) (by kernel_rfl)) ?_
        refine sx_rd 12 (.bool false) (by rfl) (by kernel_rfl) ?_
        refine sx_rd 13 (.bool false) (by rfl) (by kernel_rfl) ?_
        refine sx_want (by rfl) ?_
        refine sx_rd 14 (.pointer (some ⟨g_3,3,none⟩)) (by rfl) (by kernel_rfl) ?_
        refine sx_want (by rfl) ?_
        refine sx_rd 15 (.int .i64 a0_3) (by rfl) (ld1 (t:=3) (p:=(.tmp 14)) (by rfl) (by rfl) (by kernel_rfl) (hp.cell 0 (by rfl) 3 _ (by rfl))) ?_
        refine sx_want (by rfl) ?_
        refine sx_call 16 (by rfl) (by kernel_rfl) ((impl_within.calls a0_3 0 1 _ _ hv_9).mono ?_)
        rintro _ W_16 ⟨rfl,hb⟩
        refine ⟨_,rfl,?_⟩
        replace hp:=hp.below hb.below
        clear hb
        refine sx_want (by rfl) ?_
        refine sx_rd 17 (.bool false) (by rfl) (bv (show (!t_10) = false from by rw [hc_11];rfl) (by kernel_rfl)) ?_
        refine sx_rd 18 (.bool false) (by rfl) (by kernel_rfl) ?_
        refine sx_rd 19 (.bool false) (by rfl) (by kernel_rfl) ?_
        refine sx_want (by rfl) ?_
        refine sx_rd 20 (.pointer (some ⟨g_3,4,none⟩)) (by rfl) (by kernel_rfl) ?_
        refine sx_want (by rfl) ?_
        refine sx_rd 21 (.int .i64 a0_4) (by rfl) (ld1 (t:=3) (p:=(.tmp 20)) (by rfl) (by rfl) (by kernel_rfl) (hp.cell 0 (by rfl) 4 _ (by rfl))) ?_
        refine sx_want (by rfl) ?_
        refine sx_call 22 (by rfl) (by kernel_rfl) ((impl_within.calls a0_4 0 2 _ _ hv_12).mono ?_)
        rintro _ W_17 ⟨rfl,hb⟩
        refine ⟨_,rfl,?_⟩
        replace hp:=hp.below hb.below
        clear hb
        refine sx_want (by rfl) ?_
        refine sx_rd 23 (.bool (!t_13)) (by rfl) (by kernel_rfl) ?_
        refine sx_rd 24 (.bool (!t_13)) (by rfl) (by kernel_rfl) ?_
        refine sx_nil ?_
        refine ex_then_n ?_
        by_cases hc_18 : (!t_13) = true
        ·
          rw [if_pos hc_18] at h
          refine sx_then (!t_13) (by rfl) hc_18 ?_
          refine wp_seq ?_
          refine sx_region ?_
          refine sx_rd 2 (.bool false) (by rfl) (by kernel_rfl) ?_
          refine sx_nil ?_
          refine ex_then_n ?_
          refine wp_ret ?_
          refine ex_then_r ?_
          refine sx_end (.bool false) (res1 2 (by rfl)) ?_
          obtain rfl:=Option.some.inj h
          exact ⟨rfl,hc2 _ (hp.tail)⟩
        ·
          rw [if_neg hc_18] at h
          refine sx_else (!t_13) (by rfl) (Bool.eq_false_iff.mpr hc_18) ?_
          refine wp_skip ?_
          refine ex_then_n ?_
          refine wp_seq ?_
          refine wp_seq ?_
          by_cases hc_19 : (l0_2.length : Int) > 0
          ·
            rw [if_pos hc_19] at h
            by_cases hc_20 : (l0_2.length : Int) = 1
            ·
              rw [if_pos hc_20] at h
              rcases k with _|k
              · simp [impl_IsGame.j1] at h
              simp only [impl_IsGame.j1] at h
              rw [if_pos (by simp)] at h
              refine sx_region ?_
              refine sx_rd 25 (.pointer (some ⟨g_3,2,none⟩)) (by rfl) (by kernel_rfl) ?_
              refine sx_rd 26 (.slice A0_2 l0_2.length c0_2) (by rfl) (ld1 (t:=23) (p:=(.tmp 25)) (by rfl) (by rfl) (by kernel_rfl) (hp.cell 0 (by rfl) 2 _ (by rfl))) ?_
              refine sx_rd 27 (.int .i64 (l0_2.length : Int)) (by rfl) (by kernel_rfl) ?_
              refine sx_rd 28 (.bool true) (by rfl) (bv (decide_eq_true hc_19) (by kernel_rfl)) ?_
              refine sx_rd 29 (.bool true) (by rfl) (by kernel_rfl) ?_
              refine sx_want (by rfl) ?_
              refine sx_rd 30 (.pointer (some ⟨g_3,2,none⟩)) (by rfl) (by kernel_rfl) ?_
              refine sx_want (by rfl) ?_
              refine sx_rd 31 (.slice A0_2 l0_2.length c0_2) (by rfl) (ld1 (t:=23) (p:=(.tmp 30)) (by rfl) (by rfl) (by kernel_rfl) (hp.cell 0 (by rfl) 2 _ (by rfl))) ?_
              refine sx_want (by rfl) ?_
              refine sx_rd 32 (.int .i64 (l0_2.length : Int)) (by rfl) (by kernel_rfl) ?_
              refine sx_want (by rfl) ?_
              refine sx_rd 33 (.bool true) (by rfl) (bv (beq_iff_eq.mpr hc_20) (by kernel_rfl)) ?_
              refine sx_want (by rfl) ?_
              refine sx_rd 34 (.bool true) (by rfl) (by kernel_rfl) ?_
              refine sx_skip 35 (by rfl) (by rfl) (by rfl) ?_
              refine sx_skip 36 (by rfl) (by rfl) (by rfl) ?_
              refine sx_skip 37 (by rfl) (by rfl) (by rfl) ?_
              refine sx_skip 38 (by rfl) (by rfl) (by rfl) ?_
              refine sx_want (by rfl) ?_
              refine sx_rd 39 (.bool true) (by rfl) (by kernel_rfl) ?_
              refine sx_rd 40 (.bool true) (by rfl) (by kernel_rfl) ?_
              refine sx_nil ?_
              refine ex_then_n ?_
              refine sx_then true (by rfl) rfl ?_
              refine wp_seq ?_
              refine sx_region ?_
              refine sx_rd 2 (.bool false) (by rfl) (by kernel_rfl) ?_
              refine sx_nil ?_
              refine ex_then_n ?_
              refine wp_ret ?_
              refine ex_then_r ?_
              refine sx_end (.bool false) (res1 2 (by rfl)) ?_
              obtain rfl:=Option.some.inj h
              exact ⟨rfl,hc2 _ (hp.tail)⟩
            ·
              rw [if_neg hc_20] at h
              obtain ⟨t_22,hv_21,h⟩:=Option.bind_eq_some_iff.mp h
              try dsimp only at h
              rcases k with _|k
              · simp [impl_IsGame.j1] at h
              simp only [impl_IsGame.j1] at h
              refine sx_region ?_
              refine sx_rd 25 (.pointer (some ⟨g_3,2,none⟩)) (by rfl) (by kernel_rfl) ?_
              refine sx_rd 26 (.slice A0_2 l0_2.length c0_2) (by rfl) (ld1 (t:=23) (p:=(.tmp 25)) (by rfl) (by rfl) (by kernel_rfl) (hp.cell 0 (by rfl) 2 _ (by rfl))) ?_
              refine sx_rd 27 (.int .i64 (l0_2.length : Int)) (by rfl) (by kernel_rfl) ?_
              refine sx_rd 28 (.bool true) (by rfl) (bv (decide_eq_true hc_19) (by kernel_rfl)) ?_
              refine sx_rd 29 (.bool true) (by rfl) (by kernel_rfl) ?_
              refine sx_want (by rfl) ?_
              refine sx_rd 30 (.pointer (some ⟨g_3,2,none⟩)) (by rfl) (by kernel_rfl) ?_
              refine sx_want (by rfl) ?_
              refine sx_rd 31 (.slice A0_2 l0_2.length c0_2) (by rfl) (ld1 (t:=23) (p:=(.tmp 30)) (by rfl) (by rfl) (by kernel_rfl) (hp.cell 0 (by rfl) 2 _ (by rfl))) ?_
              refine sx_want (by rfl) ?_
              refine sx_rd 32 (.int .i64 (l0_2.length : Int)) (by rfl) (by kernel_rfl) ?_
              refine sx_want (by rfl) ?_
              refine sx_rd 33 (.bool false) (by rfl) (bv (beq_eq_false_iff_ne.mpr hc_20) (by kernel_rfl)) ?_
              refine sx_want (by rfl) ?_
              refine sx_rd 34 (.bool false) (by rfl) (by kernel_rfl) ?_
              refine sx_want (by rfl) ?_
              refine sx_rd 35 (.pointer (some ⟨g_3,2,none⟩)) (by rfl) (by kernel_rfl) ?_
              refine sx_want (by rfl) ?_
              refine sx_rd 36 (.slice A0_2 l0_2.length c0_2) (by rfl) (ld1 (t:=23) (p:=(.tmp 35)) (by rfl) (by rfl) (by kernel_rfl) (hp.cell 0 (by rfl) 2 _ (by rfl))) ?_
              refine sx_want (by rfl) ?_
              refine sx_call 37 (by rfl) (by kernel_rfl) ((impl_IsChain.calls _ A0_2 c0_2 l0_2 _ _ (hC0_2 _ hp.tail) hc0_2 hv_21).mono ?_)
              rintro _ W_23 ⟨rfl,hb⟩
              refine ⟨_,rfl,?_⟩
              replace hp:=hp.below hb
              clear hb
              refine sx_want (by rfl) ?_
              refine sx_rd 38 (.bool (!t_22)) (by rfl) (by kernel_rfl) ?_
              refine sx_want (by rfl) ?_
              refine sx_rd 39 (.bool (!t_22)) (by rfl) (by kernel_rfl) ?_
              refine sx_rd 40 (.bool (!t_22)) (by rfl) (by kernel_rfl) ?_
              refine sx_nil ?_
              refine ex_then_n ?_
              by_cases hc_24 : (!t_22) = true
              ·
                rw [if_pos hc_24] at h
                refine sx_then (!t_22) (by rfl) hc_24 ?_
                refine wp_seq ?_
                refine sx_region ?_
                refine sx_rd 2 (.bool false) (by rfl) (by kernel_rfl) ?_
                refine sx_nil ?_
                refine ex_then_n ?_
                refine wp_ret ?_
                refine ex_then_r ?_
                refine sx_end (.bool false) (res1 2 (by rfl)) ?_
                obtain rfl:=Option.some.inj h
                exact ⟨rfl,hc2 _ (hp.tail)⟩
              ·
                rw [if_neg hc_24] at h
                obtain ⟨t_26,hv_25,h⟩:=Option.bind_eq_some_iff.mp h
                try dsimp only at h
                obtain ⟨t_28,hv_27,h⟩:=Option.bind_eq_some_iff.mp h
                try dsimp only at h
                obtain ⟨t_30,hv_29,h⟩:=Option.bind_eq_some_iff.mp h
                try dsimp only at h
                refine sx_else (!t_22) (by rfl) (Bool.eq_false_iff.mpr hc_24) ?_
                refine wp_skip ?_
                refine ex_then_n ?_
                refine wp_seq ?_
                refine sx_drawT [0,2,4] (.rd 1 (.rd 3 (.rd 5 (.alt 6 (.alt 7 (.alt 8 (.alt 9 (.rd 10 (.fin)) .non) .non) .non) .non)))) 11 (C:=Hp w (blk g_3 #[.slice A0_0 l0_0.length c0_0,.slice A0_1 l0_1.length c0_1,.slice A0_2 l0_2.length c0_2,.int .i64 a0_3,.int .i64 a0_4] 31 :: cs)) (by kernel_rfl) (by kernel_rfl) (fun d _ _ _ _ h => by cases d <;> exact h) (fun W h => h.drew) hp ?_
                refine preI_read rfl ?_
                refine sxq_val 41 (.pointer (some ⟨g_3,0,none⟩)) (by rfl) (fun W _ => (by kernel_rfl)) ?_
                refine sxq_nil ?_
                refine preI_read rfl ?_
                refine sxq_val 43 (.pointer (some ⟨g_3,1,none⟩)) (by rfl) (fun W _ => (by kernel_rfl)) ?_
                refine sxq_nil ?_
                refine preI_read rfl ?_
                refine sxq_val 45 (.pointer (some ⟨g_3,2,none⟩)) (by rfl) (fun W _ => (by kernel_rfl)) ?_
                refine sxq_nil ?_
                refine preI_nil ?_
                intro W_31 hp
                refine treeI_rd rfl ?_
                refine sxq_val 42 (.slice A0_0 l0_0.length c0_0) (by rfl) (fun W hp => (ld1 (t:=29) (p:=(.tmp 41)) (by rfl) (by rfl) (by kernel_rfl) (hp.cell 0 (by rfl) 0 _ (by rfl)))) ?_
                refine sxq_nil ?_
                refine treeI_rd rfl ?_
                refine sxq_val 44 (.slice A0_1 l0_1.length c0_1) (by rfl) (fun W hp => (ld1 (t:=29) (p:=(.tmp 43)) (by rfl) (by rfl) (by kernel_rfl) (hp.cell 0 (by rfl) 1 _ (by rfl)))) ?_
                refine sxq_nil ?_
                refine treeI_rd rfl ?_
                refine sxq_val 46 (.slice A0_2 l0_2.length c0_2) (by rfl) (fun W hp => (ld1 (t:=23) (p:=(.tmp 45)) (by rfl) (by rfl) (by kernel_rfl) (hp.cell 0 (by rfl) 2 _ (by rfl)))) ?_
                refine sxq_nil ?_
                refine treeI_ev rfl ?_
                refine sx_call 47 (by rfl) (by kernel_rfl) ((impl_tilesOf.calls _ A0_2 c0_2 l0_2 _ _ (hC0_2 _ hp.tail) hc0_2 hv_25).mono ?_)
                rintro _ W_37 ⟨v_33,rfl,hR_32,hb⟩
                refine ⟨_,rfl,?_⟩
                obtain ⟨A_34,c_35,rfl,hcc_c_35,_⟩:=Kd.R_reads hR_32
                obtain ⟨F_36,hp⟩ : ∃ F,Hp w (row k53 53 w.heap.size (.slice A_34 t_26.length c_35) t_26 F :: blk g_3 #[.slice A0_0 l0_0.length c0_0,.slice A0_1 l0_1.length c0_1,.slice A0_2 l0_2.length c0_2,.int .i64 a0_3,.int .i64 a0_4] 31 :: cs) _:=⟨_,Hp.made hp hb hR_32⟩
                refine step_fin hp.tail ?_
                refine treeI_ev rfl ?_
                refine sx_litb 48 (by rfl) hp #[.slice A0_0 l0_0.length c0_0,.slice A0_1 l0_1.length c0_1,.slice A_34 t_26.length c_35] 29 3 (fun W => by kernel_rfl) ?_
                intro g_38 W_39 hp
                refine step_fin hp.tail.tail ?_
                refine treeI_ev rfl ?_
                refine sx_call 49 (by rfl) (by kernel_rfl) ((slices_Concat_impl_Tile_impl_Tile.calls _ (some ⟨g_38,0,none⟩) 3 ([l0_0,l0_1,t_26]) _ _ (lit_C3 (hp.at_ 0 _ (by rfl)) hc0_0 (hC0_0 _ hp.tail.tail.tail) hc0_1 (hC0_1 _ hp.tail.tail.tail) (row_len (hp.at_ 1 _ (by rfl))).2 (row_C (hp.at_ 1 _ (by rfl)))) (Nat.le_refl _) hv_27).mono ?_)
                rintro _ W_45 ⟨v_41,rfl,hR_40,hb⟩
                refine ⟨_,rfl,?_⟩
                obtain ⟨A_42,c_43,rfl,hcc_c_43,_⟩:=Kd.R_reads hR_40
                obtain ⟨F_44,hp⟩ : ∃ F,Hp w (row k53 53 w.heap.size (.slice A_42 t_28.length c_43) t_28 F :: blk g_38 #[.slice A0_0 l0_0.length c0_0,.slice A0_1 l0_1.length c0_1,.slice A_34 t_26.length c_35] 29 :: row k53 53 w.heap.size (.slice A_34 t_26.length c_35) t_26 F_36 :: blk g_3 #[.slice A0_0 l0_0.length c0_0,.slice A0_1 l0_1.length c0_1,.slice A0_2 l0_2.length c0_2,.int .i64 a0_3,.int .i64 a0_4] 31 :: cs) _:=⟨_,Hp.made hp hb hR_40⟩
                refine step_fin hp.tail.tail.tail ?_
                refine treeI_ev rfl ?_
                refine sx_call 50 (by rfl) (by kernel_rfl) ((impl_areDifferent_impl_Tile.calls _ A_42 c_43 t_28 _ _ (row_C (hp.at_ 0 _ (by rfl))) (row_len (hp.at_ 0 _ (by rfl))).2 hv_29).mono ?_)
                rintro _ W_46 ⟨rfl,hb⟩
                refine ⟨_,rfl,?_⟩
                replace hp:=hp.below hb
                clear hb
                refine step_fin hp.tail.tail.tail ?_
                refine treeI_rd rfl ?_
                refine sxq_val 2 (.bool t_30) (by rfl) (fun W hp => (by kernel_rfl)) ?_
                refine sxq_nil ?_
                refine treeI_fin ?_
                refine sx_nil ?_
                refine ex_then_n ?_
                refine wp_ret ?_
                refine sx_end (.bool t_30) (res1 2 (by rfl)) ?_
                obtain rfl:=Option.some.inj h
                exact ⟨rfl,hc2 _ (hp.tail.tail.tail.tail)⟩
          ·
            rw [if_neg hc_19] at h
            rcases k with _|k
            · simp [impl_IsGame.j1] at h
            simp only [impl_IsGame.j1] at h
            rw [if_neg (by simp)] at h
            obtain ⟨t_48,hv_47,h⟩:=Option.bind_eq_some_iff.mp h
            try dsimp only at h
            obtain ⟨t_50,hv_49,h⟩:=Option.bind_eq_some_iff.mp h
            try dsimp only at h
            obtain ⟨t_52,hv_51,h⟩:=Option.bind_eq_some_iff.mp h
            try dsimp only at h
            refine sx_region ?_
            refine sx_rd 25 (.pointer (some ⟨g_3,2,none⟩)) (by rfl) (by kernel_rfl) ?_
            refine sx_rd 26 (.slice A0_2 l0_2.length c0_2) (by rfl) (ld1 (t:=23) (p:=(.tmp 25)) (by rfl) (by rfl) (by kernel_rfl) (hp.cell 0 (by rfl) 2 _ (by rfl))) ?_
            refine sx_rd 27 (.int .i64 (l0_2.length : Int)) (by rfl) (by kernel_rfl) ?_
            refine sx_rd 28 (.bool false) (by rfl) (bv (decide_eq_false hc_19) (by kernel_rfl)) ?_
            refine sx_rd 29 (.bool false) (by rfl) (by kernel_rfl) ?_
            refine sx_skip 30 (by rfl) (by rfl) (by rfl) ?_
            refine sx_skip 31 (by rfl) (by rfl) (by rfl) ?_
            refine sx_skip 32 (by rfl) (by rfl) (by rfl) ?_
            refine sx_skip 33 (by rfl) (by rfl) (by rfl) ?_
            refine sx_skip 34 (by rfl) (by rfl) (by rfl) ?_
            refine sx_skip 35 (by rfl) (by rfl) (by rfl) ?_
            refine sx_skip 36 (by rfl) (by rfl) (by rfl) ?_
            refine sx_skip 37 (by rfl) (by rfl) (by rfl) ?_
            refine sx_skip 38 (by rfl) (by rfl) (by rfl) ?_
            refine sx_skip 39 (by rfl) (by rfl) (by rfl) ?_
            refine sx_rd 40 (.bool false) (by rfl) (by kernel_rfl) ?_
            refine sx_nil ?_
            refine ex_then_n ?_
            refine sx_else false (by rfl) rfl ?_
            refine wp_skip ?_
            refine ex_then_n ?_
            refine wp_seq ?_
            refine sx_drawT [0,2,4] (.rd 1 (.rd 3 (.rd 5 (.alt 6 (.alt 7 (.alt 8 (.alt 9 (.rd 10 (.fin)) .non) .non) .non) .non)))) 11 (C:=Hp w (blk g_3 #[.slice A0_0 l0_0.length c0_0,.slice A0_1 l0_1.length c0_1,.slice A0_2 l0_2.length c0_2,.int .i64 a0_3,.int .i64 a0_4] 31 :: cs)) (by kernel_rfl) (by kernel_rfl) (fun d _ _ _ _ h => by cases d <;> exact h) (fun W h => h.drew) hp ?_
            refine preI_read rfl ?_
            refine sxq_val 41 (.pointer (some ⟨g_3,0,none⟩)) (by rfl) (fun W _ => (by kernel_rfl)) ?_
            refine sxq_nil ?_
            refine preI_read rfl ?_
            refine sxq_val 43 (.pointer (some ⟨g_3,1,none⟩)) (by rfl) (fun W _ => (by kernel_rfl)) ?_
            refine sxq_nil ?_
            refine preI_read rfl ?_
            refine sxq_val 45 (.pointer (some ⟨g_3,2,none⟩)) (by rfl) (fun W _ => (by kernel_rfl)) ?_
            refine sxq_nil ?_
            refine preI_nil ?_
            intro W_53 hp
            refine treeI_rd rfl ?_
            refine sxq_val 42 (.slice A0_0 l0_0.length c0_0) (by rfl) (fun W hp => (ld1 (t:=29) (p:=(.tmp 41)) (by rfl) (by rfl) (by kernel_rfl) (hp.cell 0 (by rfl) 0 _ (by rfl)))) ?_
            refine sxq_nil ?_
            refine treeI_rd rfl ?_
            refine sxq_val 44 (.slice A0_1 l0_1.length c0_1) (by rfl) (fun W hp => (ld1 (t:=29) (p:=(.tmp 43)) (by rfl) (by rfl) (by kernel_rfl) (hp.cell 0 (by rfl) 1 _ (by rfl)))) ?_
            refine sxq_nil ?_
            refine treeI_rd rfl ?_
            refine sxq_val 46 (.slice A0_2 l0_2.length c0_2) (by rfl) (fun W hp => (ld1 (t:=23) (p:=(.tmp 45)) (by rfl) (by rfl) (by kernel_rfl) (hp.cell 0 (by rfl) 2 _ (by rfl)))) ?_
            refine sxq_nil ?_
            refine treeI_ev rfl ?_
            refine sx_call 47 (by rfl) (by kernel_rfl) ((impl_tilesOf.calls _ A0_2 c0_2 l0_2 _ _ (hC0_2 _ hp.tail) hc0_2 hv_47).mono ?_)
            rintro _ W_59 ⟨v_55,rfl,hR_54,hb⟩
            refine ⟨_,rfl,?_⟩
            obtain ⟨A_56,c_57,rfl,hcc_c_57,_⟩:=Kd.R_reads hR_54
            obtain ⟨F_58,hp⟩ : ∃ F,Hp w (row k53 53 w.heap.size (.slice A_56 t_48.length c_57) t_48 F :: blk g_3 #[.slice A0_0 l0_0.length c0_0,.slice A0_1 l0_1.length c0_1,.slice A0_2 l0_2.length c0_2,.int .i64 a0_3,.int .i64 a0_4] 31 :: cs) _:=⟨_,Hp.made hp hb hR_54⟩
            refine step_fin hp.tail ?_
            refine treeI_ev rfl ?_
            refine sx_litb 48 (by rfl) hp #[.slice A0_0 l0_0.length c0_0,.slice A0_1 l0_1.length c0_1,.slice A_56 t_48.length c_57] 29 3 (fun W => by kernel_rfl) ?_
            intro g_60 W_61 hp
            refine step_fin hp.tail.tail ?_
            refine treeI_ev rfl ?_
            refine sx_call 49 (by rfl) (by kernel_rfl) ((slices_Concat_impl_Tile_impl_Tile.calls _ (some ⟨g_60,0,none⟩) 3 ([l0_0,l0_1,t_48]) _ _ (lit_C3 (hp.at_ 0 _ (by rfl)) hc0_0 (hC0_0 _ hp.tail.tail.tail) hc0_1 (hC0_1 _ hp.tail.tail.tail) (row_len (hp.at_ 1 _ (by rfl))).2 (row_C (hp.at_ 1 _ (by rfl)))) (Nat.le_refl _) hv_49).mono ?_)
            rintro _ W_67 ⟨v_63,rfl,hR_62,hb⟩
            refine ⟨_,rfl,?_⟩
            obtain ⟨A_64,c_65,rfl,hcc_c_65,_⟩:=Kd.R_reads hR_62
            obtain ⟨F_66,hp⟩ : ∃ F,Hp w (row k53 53 w.heap.size (.slice A_64 t_50.length c_65) t_50 F :: blk g_60 #[.slice A0_0 l0_0.length c0_0,.slice A0_1 l0_1.length c0_1,.slice A_56 t_48.length c_57] 29 :: row k53 53 w.heap.size (.slice A_56 t_48.length c_57) t_48 F_58 :: blk g_3 #[.slice A0_0 l0_0.length c0_0,.slice A0_1 l0_1.length c0_1,.slice A0_2 l0_2.length c0_2,.int .i64 a0_3,.int .i64 a0_4] 31 :: cs) _:=⟨_,Hp.made hp hb hR_62⟩
            refine step_fin hp.tail.tail.tail ?_
            refine treeI_ev rfl ?_
            refine sx_call 50 (by rfl) (by kernel_rfl) ((impl_areDifferent_impl_Tile.calls _ A_64 c_65 t_50 _ _ (row_C (hp.at_ 0 _ (by rfl))) (row_len (hp.at_ 0 _ (by rfl))).2 hv_51).mono ?_)
            rintro _ W_68 ⟨rfl,hb⟩
            refine ⟨_,rfl,?_⟩
            replace hp:=hp.below hb
            clear hb
            refine step_fin hp.tail.tail.tail ?_
            refine treeI_rd rfl ?_
            refine sxq_val 2 (.bool t_52) (by rfl) (fun W hp => (by kernel_rfl)) ?_
            refine sxq_nil ?_
            refine treeI_fin ?_
            refine sx_nil ?_
            refine ex_then_n ?_
            refine wp_ret ?_
            refine sx_end (.bool t_52) (res1 2 (by rfl)) ?_
            obtain rfl:=Option.some.inj h
            exact ⟨rfl,hc2 _ (hp.tail.tail.tail.tail)⟩
      ·
        rw [if_neg hc_11] at h
        rcases k with _|k
        · simp [impl_IsGame.j0] at h
        simp only [impl_IsGame.j0] at h
        rw [if_pos (by simp)] at h
        refine sx_region ?_
        refine sx_rd 3 (.pointer (some ⟨g_3,0,none⟩)) (by rfl) (by kernel_rfl) ?_
        refine sx_rd 4 (.slice A0_0 l0_0.length c0_0) (by rfl) (ld1 (t:=29) (p:=(.tmp 3)) (by rfl) (by rfl) (by kernel_rfl) (hp.cell 0 (by rfl) 0 _ (by rfl))) ?_
        refine sx_call 5 (by rfl) (by kernel_rfl) ((impl_IsHand.calls _ A0_0 c0_0 l0_0 _ _ (hC0_0 _ hp.tail) hc0_0 hv_1).mono ?_)
        rintro _ W_69 ⟨rfl,hb⟩
        refine ⟨_,rfl,?_⟩
        replace hp:=hp.below hb
        clear hb
        refine sx_rd 6 (.bool false) (by rfl) (bv (show (!t_2) = false from by rw [hc_5];rfl) (by kernel_rfl)) ?_
        refine sx_rd 7 (.bool false) (by rfl) (by kernel_rfl) ?_
        refine sx_want (by rfl) ?_
        refine sx_rd 8 (.pointer (some ⟨g_3,1,none⟩)) (by rfl) (by kernel_rfl) ?_
        refine sx_want (by rfl) ?_
        refine sx_rd 9 (.slice A0_1 l0_1.length c0_1) (by rfl) (ld1 (t:=29) (p:=(.tmp 8)) (by rfl) (by rfl) (by kernel_rfl) (hp.cell 0 (by rfl) 1 _ (by rfl))) ?_
        refine sx_want (by rfl) ?_
        refine sx_call 10 (by rfl) (by kernel_rfl) ((impl_IsHand.calls _ A0_1 c0_1 l0_1 _ _ (hC0_1 _ hp.tail) hc0_1 hv_6).mono ?_)
        rintro _ W_70 ⟨rfl,hb⟩
        refine ⟨_,rfl,?_⟩
        replace hp:=hp.below hb
        clear hb
        refine sx_want (by rfl) ?_
        refine sx_rd 11 (.bool false) (by rfl) (bv (show (!t_7) = false from by rw [hc_8];rfl) (by kernel_rfl)) ?_
        refine sx_rd 12 (.bool false) (by rfl) (by kernel_rfl) ?_
        refine sx_rd 13 (.bool false) (by rfl) (by kernel_rfl) ?_
        refine sx_want (by rfl) ?_
        refine sx_rd 14 (.pointer (some ⟨g_3,3,none⟩)) (by rfl) (by kernel_rfl) ?_
        refine sx_want (by rfl) ?_
        refine sx_rd 15 (.int .i64 a0_3) (by rfl) (ld1 (t:=3) (p:=(.tmp 14)) (by rfl) (by rfl) (by kernel_rfl) (hp.cell 0 (by rfl) 3 _ (by rfl))) ?_
        refine sx_want (by rfl) ?_
        refine sx_call 16 (by rfl) (by kernel_rfl) ((impl_within.calls a0_3 0 1 _ _ hv_9).mono ?_)
        rintro _ W_71 ⟨rfl,hb⟩
        refine ⟨_,rfl,?_⟩
        replace hp:=hp.below hb.below
        clear hb
        refine sx_want (by rfl) ?_
        refine sx_rd 17 (.bool true) (by rfl) (bv (show (!t_10) = true from by rw [(Bool.eq_false_iff.mpr hc_11)];rfl) (by kernel_rfl)) ?_
        refine sx_rd 18 (.bool true) (by rfl) (by kernel_rfl) ?_
        refine sx_rd 19 (.bool true) (by rfl) (by kernel_rfl) ?_
        refine sx_skip 20 (by rfl) (by rfl) (by rfl) ?_
        refine sx_skip 21 (by rfl) (by rfl) (by rfl) ?_
        refine sx_skip 22 (by rfl) (by rfl) (by rfl) ?_
        refine sx_skip 23 (by rfl) (by rfl) (by rfl) ?_
        refine sx_rd 24 (.bool true) (by rfl) (by kernel_rfl) ?_
        refine sx_nil ?_
        refine ex_then_n ?_
        refine sx_then true (by rfl) rfl ?_
        refine wp_seq ?_
        refine sx_region ?_
        refine sx_rd 2 (.bool false) (by rfl) (by kernel_rfl) ?_
        refine sx_nil ?_
        refine ex_then_n ?_
        refine wp_ret ?_
        refine ex_then_r ?_
        refine sx_end (.bool false) (res1 2 (by rfl)) ?_
        obtain rfl:=Option.some.inj h
        exact ⟨rfl,hc2 _ (hp.tail)⟩
    ·
      rw [if_neg hc_8] at h
      rcases k with _|k
      · simp [impl_IsGame.j0] at h
      simp only [impl_IsGame.j0] at h
      rw [if_pos (by simp)] at h
      refine sx_region ?_
      refine sx_rd 3 (.pointer (some ⟨g_3,0,none⟩)) (by rfl) (by kernel_rfl) ?_
      refine sx_rd 4 (.slice A0_0 l0_0.length c0_0) (by rfl) (ld1 (t:=29) (p:=(.tmp 3)) (by rfl) (by rfl) (by kernel_rfl) (hp.cell 0 (by rfl) 0 _ (by rfl))) ?_
      refine sx_call 5 (by rfl) (by kernel_rfl) ((impl_IsHand.calls _ A0_0 c0_0 l0_0 _ _ (hC0_0 _ hp.tail) hc0_0 hv_1).mono ?_)
      rintro _ W_72 ⟨rfl,hb⟩
      refine ⟨_,rfl,?_⟩
      replace hp:=hp.below hb
      clear hb
      refine sx_rd 6 (.bool false) (by rfl) (bv (show (!t_2) = false from by rw [hc_5];rfl) (by kernel_rfl)) ?_
      refine sx_rd 7 (.bool false) (by rfl) (by kernel_rfl) ?_
      refine sx_want (by rfl) ?_
      refine sx_rd 8 (.pointer (some ⟨g_3,1,none⟩)) (by rfl) (by kernel_rfl) ?_
      refine sx_want (by rfl) ?_
      refine sx_rd 9 (.slice A0_1 l0_1.length c0_1) (by rfl) (ld1 (t:=29) (p:=(.tmp 8)) (by rfl) (by rfl) (by kernel_rfl) (hp.cell 0 (by rfl) 1 _ (by rfl))) ?_
      refine sx_want (by rfl) ?_
      refine sx_call 10 (by rfl) (by kernel_rfl) ((impl_IsHand.calls _ A0_1 c0_1 l0_1 _ _ (hC0_1 _ hp.tail) hc0_1 hv_6).mono ?_)
      rintro _ W_73 ⟨rfl,hb⟩
      refine ⟨_,rfl,?_⟩
      replace hp:=hp.below hb
      clear hb
      refine sx_want (by rfl) ?_
      refine sx_rd 11 (.bool true) (by rfl) (bv (show (!t_7) = true from by rw [(Bool.eq_false_iff.mpr hc_8)];rfl) (by kernel_rfl)) ?_
      refine sx_rd 12 (.bool true) (by rfl) (by kernel_rfl) ?_
      refine sx_rd 13 (.bool true) (by rfl) (by kernel_rfl) ?_
      refine sx_skip 14 (by rfl) (by rfl) (by rfl) ?_
      refine sx_skip 15 (by rfl) (by rfl) (by rfl) ?_
      refine sx_skip 16 (by rfl) (by rfl) (by rfl) ?_
      refine sx_skip 17 (by rfl) (by rfl) (by rfl) ?_
      refine sx_rd 18 (.bool true) (by rfl) (by kernel_rfl) ?_
      refine sx_rd 19 (.bool true) (by rfl) (by kernel_rfl) ?_
      refine sx_skip 20 (by rfl) (by rfl) (by rfl) ?_
      refine sx_skip 21 (by rfl) (by rfl) (by rfl) ?_
      refine sx_skip 22 (by rfl) (by rfl) (by rfl) ?_
      refine sx_skip 23 (by rfl) (by rfl) (by rfl) ?_
      refine sx_rd 24 (.bool true) (by rfl) (by kernel_rfl) ?_
      refine sx_nil ?_
      refine ex_then_n ?_
      refine sx_then true (by rfl) rfl ?_
      refine wp_seq ?_
      refine sx_region ?_
      refine sx_rd 2 (.bool false) (by rfl) (by kernel_rfl) ?_
      refine sx_nil ?_
      refine ex_then_n ?_
      refine wp_ret ?_
      refine ex_then_r ?_
      refine sx_end (.bool false) (res1 2 (by rfl)) ?_
      obtain rfl:=Option.some.inj h
      exact ⟨rfl,hc2 _ (hp.tail)⟩
  ·
    rw [if_neg hc_5] at h
    rcases k with _|k
    · simp [impl_IsGame.j0] at h
    simp only [impl_IsGame.j0] at h
    rw [if_pos (by simp)] at h
    refine sx_region ?_
    refine sx_rd 3 (.pointer (some ⟨g_3,0,none⟩)) (by rfl) (by kernel_rfl) ?_
    refine sx_rd 4 (.slice A0_0 l0_0.length c0_0) (by rfl) (ld1 (t:=29) (p:=(.tmp 3)) (by rfl) (by rfl) (by kernel_rfl) (hp.cell 0 (by rfl) 0 _ (by rfl))) ?_
    refine sx_call 5 (by rfl) (by kernel_rfl) ((impl_IsHand.calls _ A0_0 c0_0 l0_0 _ _ (hC0_0 _ hp.tail) hc0_0 hv_1).mono ?_)
    rintro _ W_74 ⟨rfl,hb⟩
    refine ⟨_,rfl,?_⟩
    replace hp:=hp.below hb
    clear hb
    refine sx_rd 6 (.bool true) (by rfl) (bv (show (!t_2) = true from by rw [(Bool.eq_false_iff.mpr hc_5)];rfl) (by kernel_rfl)) ?_
    refine sx_rd 7 (.bool true) (by rfl) (by kernel_rfl) ?_
    refine sx_skip 8 (by rfl) (by rfl) (by rfl) ?_
    refine sx_skip 9 (by rfl) (by rfl) (by rfl) ?_
    refine sx_skip 10 (by rfl) (by rfl) (by rfl) ?_
    refine sx_skip 11 (by rfl) (by rfl) (by rfl) ?_
    refine sx_rd 12 (.bool true) (by rfl) (by kernel_rfl) ?_
    refine sx_rd 13 (.bool true) (by rfl) (by kernel_rfl) ?_
    refine sx_skip 14 (by rfl) (by rfl) (by rfl) ?_
    refine sx_skip 15 (by rfl) (by rfl) (by rfl) ?_
    refine sx_skip 16 (by rfl) (by rfl) (by rfl) ?_
    refine sx_skip 17 (by rfl) (by rfl) (by rfl) ?_
    refine sx_rd 18 (.bool true) (by rfl) (by kernel_rfl) ?_
    refine sx_rd 19 (.bool true) (by rfl) (by kernel_rfl) ?_
    refine sx_skip 20 (by rfl) (by rfl) (by rfl) ?_
    refine sx_skip 21 (by rfl) (by rfl) (by rfl) ?_
    refine sx_skip 22 (by rfl) (by rfl) (by rfl) ?_
    refine sx_skip 23 (by rfl) (by rfl) (by rfl) ?_
    refine sx_rd 24 (.bool true) (by rfl) (by kernel_rfl) ?_
    refine sx_nil ?_
    refine ex_then_n ?_
    refine sx_then true (by rfl) rfl ?_
    refine wp_seq ?_
    refine sx_region ?_
    refine sx_rd 2 (.bool false) (by rfl) (by kernel_rfl) ?_
    refine sx_nil ?_
    refine ex_then_n ?_
    refine wp_ret ?_
    refine ex_then_r ?_
    refine sx_end (.bool false) (res1 2 (by rfl)) ?_
    obtain rfl:=Option.some.inj h
    exact ⟨rfl,hc2 _ (hp.tail)⟩
end
section
open Go.RowKit Go.Proofs.YtjaojemmbeddfaaGreatW.PrintWords Go.Proofs.YtjaojemmbeddfaaGreatW.PrintLast Go.Proofs.YtjaojemmbeddfaaGreatW.PrintMore
attribute [local go_sem] max2_int min2_int max_two min_two max_three min_three max_four min_four   -- for this text's walks alone
set_option linter.unusedVariables false
set_option linter.unusedSimpArgs false

def impl_isSmall.f (k : Nat) (l0_0 : List (S_Tile)) (l0_1 : List (S_Tile)) (l0_2 : List Int) (a0_3 : Int) (a0_4 : Int) : Option (Bool):=(impl_IsGame.f k l0_0 l0_1 l0_2 a0_3 a0_4).bind fun t315 => (if t315 = true then (some (decide ((wrap64 ((l0_0.length : Int) + (l0_1.length : Int))) ≤ 8))) else (some false))
set_option maxRecDepth 100000 in
set_option maxHeartbeats 40000000 in
theorem impl_isSmall.calls (k : Nat) (A0_0 : Option Addr) (c0_0 : Nat) (l0_0 : List (S_Tile)) (A0_1 : Option Addr) (c0_1 : Nat) (l0_1 : List (S_Tile)) (A0_2 : Option Addr) (c0_2 : Nat) (l0_2 : List Int) (a0_3 : Int) (a0_4 : Int) (r : Bool) (w : World) (hr0_0 : Kd.C k53 w A0_0 l0_0.length l0_0) (hc0_0 : l0_0.length ≤ c0_0) (hr0_1 : Kd.C k53 w A0_1 l0_1.length l0_1) (hc0_1 : l0_1.length ≤ c0_1) (hr0_2 : Kd.C (Kd.int .i64) w A0_2 l0_2.length l0_2) (hc0_2 : l0_2.length ≤ c0_2) (h : impl_isSmall.f k l0_0 l0_1 l0_2 a0_3 a0_4 = some r) :
    Calls Tryz.prog 21 #[.agg #[.slice A0_0 l0_0.length c0_0,.slice A0_1 l0_1.length c0_1,.slice A0_2 l0_2.length c0_2,.int .i64 a0_3,.int .i64 a0_4]] w fun e w' => e = .returned (.bool r) ∧ Below w.heap.size w w':=by
  obtain ⟨cs,hcs⟩ : ∃ cs,cs = [old w w.heap.size]:=⟨_,rfl⟩
  have hp : Hp w cs w:=by rw [hcs];exact Hp.old_start w
  have hc2 : ∀ W,Hp w cs W → Below w.heap.size w W:=fun W h => by rw [hcs] at h;exact h.since 0 _ rfl
  have hC0_0 : ∀ W,Hp w cs W → Kd.C k53 W A0_0 l0_0.length l0_0:=fun W h => Kd.C_below hr0_0 (hc2 W h)
  have hC0_1 : ∀ W,Hp w cs W → Kd.C k53 W A0_1 l0_1.length l0_1:=fun W h => Kd.C_below hr0_1 (hc2 W h)
  have hC0_2 : ∀ W,Hp w cs W → Kd.C (Kd.int .i64) W A0_2 l0_2.length l0_2:=fun W h => Kd.C_below hr0_2 (hc2 W h)
  clear hcs
  unfold impl_isSmall.f at h
  obtain ⟨t_2,hv_1,h⟩:=Option.bind_eq_some_iff.mp h
  try dsimp only at h
  refine sx_enter (N:=15) (l:=[.agg #[.slice A0_0 l0_0.length c0_0,.slice A0_1 l0_1.length c0_1,.slice A0_2 l0_2.length c0_2,.int .i64 a0_3,.int .i64 a0_4]]) Tryz.func21 rfl rfl rfl ?_
  refine wp_seq ?_
  refine sx_region ?_
  refine sx_box 1 hp #[.slice A0_0 l0_0.length c0_0,.slice A0_1 l0_1.length c0_1,.slice A0_2 l0_2.length c0_2,.int .i64 a0_3,.int .i64 a0_4] 31 (by rfl) (fun W => by kernel_rfl) ?_
  intro g_3 W_4 hp
  refine sx_rd 2 (.bool false) (by rfl) (by kernel_rfl) ?_
  refine sx_nil ?_
  refine ex_then_n ?_
  refine wp_seq ?_
  by_cases hc_5 : t_2 = true
  ·
    rw [if_pos hc_5] at h
    refine sx_region ?_
    refine sx_rd 3 (.agg #[.slice A0_0 l0_0.length c0_0,.slice A0_1 l0_1.length c0_1,.slice A0_2 l0_2.length c0_2,.int .i64 a0_3,.int .i64 a0_4]) (by rfl) (ldn (t:=31) (p:=(.tmp 1)) (by rfl) (by rfl) (by kernel_rfl) (by kernel_rfl) (by kernel_rfl) (hp.at_ 0 _ (by rfl))) ?_
    refine sx_call 4 (by rfl) (by kernel_rfl) ((impl_IsGame.calls _ _ A0_0 c0_0 l0_0 _ A0_1 c0_1 l0_1 A0_2 c0_2 l0_2 a0_3 a0_4 _ _ (Kd.V_mk hc0_0 (Kd.C_F k53_heap (hC0_0 _ hp.tail))) (Kd.V_mk hc0_1 (Kd.C_F k53_heap (hC0_1 _ hp.tail))) (hC0_2 _ hp.tail) hc0_2 hv_1).mono ?_)
    rintro _ W_6 ⟨rfl,hb⟩
    refine ⟨.bool true,congrArg (fun b => Ending.returned (.bool b)) hc_5,?_⟩
    replace hp:=hp.below hb
    clear hb
    refine sx_rd 5 (.bool true) (by rfl) (by kernel_rfl) ?_
    refine sx_want (by rfl) ?_
    refine sx_rd 6 (.pointer (some ⟨g_3,0,none⟩)) (by rfl) (by kernel_rfl) ?_
    refine sx_want (by rfl) ?_
    refine sx_rd 7 (.slice A0_0 l0_0.length c0_0) (by rfl) (ld1 (t:=29) (p:=(.tmp 6)) (by rfl) (by rfl) (by kernel_rfl) (hp.cell 0 (by rfl) 0 _ (by rfl))) ?_
    refine sx_want (by rfl) ?_
    refine sx_rd 8 (.int .i64 (l0_0.length : Int)) (by rfl) (by kernel_rfl) ?_
    refine sx_want (by rfl) ?_
    refine sx_rd 9 (.pointer (some ⟨g_3,1,none⟩)) (by rfl) (by kernel_rfl) ?_
    refine sx_want (by rfl) ?_
    refine sx_rd 10 (.slice A0_1 l0_1.length c0_1) (by rfl) (ld1 (t:=29) (p:=(.tmp 9)) (by rfl) (by rfl) (by kernel_rfl) (hp.cell 0 (by rfl) 1 _ (by rfl))) ?_
    refine sx_want (by rfl) ?_
    refine sx_rd 11 (.int .i64 (l0_1.length : Int)) (by rfl) (by kernel_rfl) ?_
    refine sx_want (by rfl) ?_
    refine sx_rd 12 (.int .i64 (wrap64 ((l0_0.length : Int) + (l0_1.length : Int)))) (by rfl) (wr_w (by kernel_rfl)) ?_
    refine sx_want (by rfl) ?_
    refine sx_rd 13 (.bool (decide ((wrap64 ((l0_0.length : Int) + (l0_1.length : Int))) ≤ 8))) (by rfl) (by kernel_rfl) ?_
    refine sx_rd 14 (.bool (decide ((wrap64 ((l0_0.length : Int) + (l0_1.length : Int))) ≤ 8))) (by rfl) (by kernel_rfl) ?_
    refine sx_rd 2 (.bool (decide ((wrap64 ((l0_0.length : Int) + (l0_1.length : Int))) ≤ 8))) (by rfl) (by kernel_rfl) ?_
    refine sx_nil ?_
    refine ex_then_n ?_
    refine wp_ret ?_
    refine sx_end (.bool (decide ((wrap64 ((l0_0.length : Int) + (l0_1.length : Int))) ≤ 8))) (res1 2 (by rfl)) ?_
    obtain rfl:=Option.some.inj h
    exact ⟨rfl,hc2 _ (hp.tail)⟩
  ·
    rw [if_neg hc_5] at h
    refine sx_region ?_
    refine sx_rd 3 (.agg #[.slice A0_0 l0_0.length c0_0,.slice A0_1 l0_1.length c0_1,.slice A0_2 l0_2.length c0_2,.int .i64 a0_3,.int .i64 a0_4]) (by rfl) (ldn (t:=31) (p:=(.tmp 1)) (by rfl) (by rfl) (by kernel_rfl) (by kernel_rfl) (by kernel_rfl) (hp.at_ 0 _ (by rfl))) ?_
    refine sx_call 4 (by rfl) (by kernel_rfl) ((impl_IsGame.calls _ _ A0_0 c0_0 l0_0 _ A0_1 c0_1 l0_1 A0_2 c0_2 l0_2 a0_3 a0_4 _ _ (Kd.V_mk hc0_0 (Kd.C_F k53_heap (hC0_0 _ hp.tail))) (Kd.V_mk hc0_1 (Kd.C_F k53_heap (hC0_1 _ hp.tail))) (hC0_2 _ hp.tail) hc0_2 hv_1).mono ?_)
    rintro _ W_7 ⟨rfl,hb⟩
    refine ⟨.bool false,congrArg (fun b => Ending.returned (.bool b)) (Bool.eq_false_iff.mpr hc_5),?_⟩
    replace hp:=hp.below hb
    clear hb
    refine sx_rd 5 (.bool false) (by rfl) (by kernel_rfl) ?_
    refine sx_skip 6 (by rfl) (by rfl) (by rfl) ?_
    refine sx_skip 7 (by rfl) (by rfl) (by rfl) ?_
    refine sx_skip 8 (by rfl) (by rfl) (by rfl) ?_
    refine sx_skip 9 (by rfl) (by rfl) (by rfl) ?_
    refine sx_skip 10 (by rfl) (by rfl) (by rfl) ?_
    refine sx_skip 11 (by rfl) (by rfl) (by rfl) ?_
    refine sx_skip 12 (by rfl) (by rfl) (by rfl) ?_
    refine sx_skip 13 (by rfl) (by rfl) (by rfl) ?_
    refine sx_rd 14 (.bool false) (by rfl) (by kernel_rfl) ?_
    refine sx_rd 2 (.bool false) (by rfl) (by kernel_rfl) ?_
    refine sx_nil ?_
    refine ex_then_n ?_
    refine wp_ret ?_
    refine sx_end (.bool false) (res1 2 (by rfl)) ?_
    obtain rfl:=Option.some.inj h
    exact ⟨rfl,hc2 _ (hp.tail)⟩
end
section
open Go.RowKit Go.Proofs.YtjaojemmbeddfaaGreatW.PrintWords Go.Proofs.YtjaojemmbeddfaaGreatW.PrintLast Go.Proofs.YtjaojemmbeddfaaGreatW.PrintMore
attribute [local go_sem] max2_int min2_int max_two min_two max_three min_three max_four min_four   -- for this text's walks alone
set_option linter.unusedVariables false
set_option linter.unusedSimpArgs false

def impl_handText.l0 : Nat → List ByteArray → List (S_Tile) → Int → Int → Option (ByteArray)
  | 0,_,_,_,_ => none
  | k + 1,x3,x10,x11,x12 => if x12 < x11 then (if 0 ≤ x12 then (if x12 < (x10.length : Int) then ((impl_Tile_digits.f ((rd_Tile x10 x12).f0) ((rd_Tile x10 x12).f1)).bind fun t333 => (if x3.length < 8796093022208 then (impl_handText.l0 k (x3 ++ [t333]) x10 x11 (wrap64 (x12 + 1))) else (none))) else (none)) else (none)) else ((strings_Join.f x3 (⟨#[44]⟩ : ByteArray)).bind fun t337 => (some t337))
def impl_handText.f (k : Nat) (l0 : List (S_Tile)) : Option (ByteArray):=if (l0.length : Int) = 0 then (some (⟨#[45]⟩ : ByteArray)) else (impl_handText.l0 k (([] : List ByteArray)) l0 (l0.length : Int) 0)
set_option maxRecDepth 100000 in
set_option maxHeartbeats 40000000 in
theorem impl_handText.calls (k : Nat) (A0 : Option Addr) (c0 : Nat) (l0 : List (S_Tile)) (r : ByteArray) (w : World) (hr0 : Kd.C k53 w A0 l0.length l0) (hc0 : l0.length ≤ c0) (h : impl_handText.f k l0 = some r) :
    Calls Tryz.prog 57 #[.slice A0 l0.length c0] w fun e w' => e = .returned (.string r) ∧ Below w.heap.size w w':=by
  obtain ⟨cs,hcs⟩ : ∃ cs,cs = [old w w.heap.size]:=⟨_,rfl⟩
  have hp : Hp w cs w:=by rw [hcs];exact Hp.old_start w
  have hc2 : ∀ W,Hp w cs W → Below w.heap.size w W:=fun W h => by rw [hcs] at h;exact h.since 0 _ rfl
  have hC0 : ∀ W,Hp w cs W → Kd.C k53 W A0 l0.length l0:=fun W h => Kd.C_below hr0 (hc2 W h)
  clear hcs
  unfold impl_handText.f at h
  refine sx_enter (N:=24) (l:=[.slice A0 l0.length c0]) Tryz.func57 rfl rfl rfl ?_
  refine wp_seq ?_
  refine sx_region ?_
  refine sx_rd 2 (.string (⟨#[]⟩ : ByteArray)) (by rfl) (by kernel_rfl) ?_
  refine sx_nil ?_
  refine ex_then_n ?_
  refine wp_seq ?_
  refine wp_seq ?_
  refine sx_region ?_
  refine sx_rd 6 (.slice A0 l0.length c0) (by rfl) (by kernel_rfl) ?_
  refine sx_rd 7 (.int .i64 (l0.length : Int)) (by rfl) (by kernel_rfl) ?_
  refine sx_rd 8 (.bool ((l0.length : Int) == 0)) (by rfl) (by kernel_rfl) ?_
  refine sx_nil ?_
  refine ex_then_n ?_
  by_cases hc_1 : (l0.length : Int) = 0
  ·
    rw [if_pos hc_1] at h
    refine sx_then ((l0.length : Int) == 0) (by rfl) (beq_iff_eq.mpr hc_1) ?_
    refine wp_seq ?_
    refine sx_region ?_
    refine sx_rd 2 (.string (⟨#[45]⟩ : ByteArray)) (by rfl) (by kernel_rfl) ?_
    refine sx_nil ?_
    refine ex_then_n ?_
    refine wp_ret ?_
    refine ex_then_r ?_
    refine sx_end (.string (⟨#[45]⟩ : ByteArray)) (res1 2 (by rfl)) ?_
    obtain rfl:=Option.some.inj h
    exact ⟨rfl,hc2 _ (hp)⟩
  ·
    rw [if_neg hc_1] at h
    refine sx_else ((l0.length : Int) == 0) (by rfl) (beq_eq_false_iff_ne.mpr hc_1) ?_
    refine wp_skip ?_
    refine ex_then_n ?_
    refine wp_seq ?_
    refine sx_region ?_
    refine sx_lit 9 (by rfl) Kd.string w.heap.size 9 ([] : List ByteArray) [] (fun W => by kernel_rfl) (Reps.none _ _) (by simp) hp.size hp ?_
    intro g_2 F_3 W_4 hp hz;clear hz
    refine sx_rd 3 (.slice (some ⟨g_2,0,none⟩) (([] : List ByteArray).length) (([] : List ByteArray).length)) (by rfl) (by kernel_rfl) ?_
    refine sx_nil ?_
    refine ex_then_n ?_
    refine wp_seq ?_
    refine wp_seq ?_
    refine sx_region ?_
    refine sx_rd 10 (.slice A0 l0.length c0) (by rfl) (by kernel_rfl) ?_
    refine sx_rd 11 (.int .i64 (l0.length : Int)) (by rfl) (by kernel_rfl) ?_
    refine sx_rd 12 (.int .i64 0) (by rfl) (by kernel_rfl) ?_
    refine sx_nil ?_
    refine ex_then_n ?_
    refine wp_block ?_
    refine wp_loop_ghost (fun n_ a_ W => ∃ (r_ : List (Nat × Value)) (k_7 : Nat) (x_6 : Int) (x_5 : List ByteArray) (A_8 : Option Addr) (n_9 c_10 : Nat) (F_11 : Nat → Prop),n_ = k_7 + 1 ∧ a_ = fr 24 ([(3,.slice A_8 n_9 c_10),(10,.slice A0 l0.length c0),(11,.int .i64 (l0.length : Int)),(12,.int .i64 x_6)] ++ r_) ∧ Hp w (row Kd.string 9 w.heap.size (.slice A_8 n_9 c_10) x_5 F_11 :: cs) W ∧ (impl_handText.l0 k_7 x_5 l0 (l0.length : Int) x_6 = some r) ∧ (k_7 ≤ k)) _ ⟨_,k,0,(([] : List ByteArray)),_,_,_,_,rfl,fr_front [(3,.slice (some ⟨g_2,0,none⟩) (([] : List ByteArray).length) (([] : List ByteArray).length)),(10,.slice A0 l0.length c0),(11,.int .i64 (l0.length : Int)),(12,.int .i64 0)] ⟨rfl,rfl,rfl,rfl,trivial⟩,(hp.take [0] 1 (by decide) (by simp)),h,(Nat.le_refl _)⟩ ?_
    rintro _ _ W_13 ⟨r_,k_7,x_6,x_5,A_8,n_9,c_10,F_11,rfl,rfl,hp,h,hk_12⟩
    obtain ⟨rfl,-⟩:=row_len (hp.at_ 0 _ (by rfl))
    rcases k_7 with _|k_7
    · simp [impl_handText.l0] at h
    simp only [impl_handText.l0] at h
    refine wp_seq ?_
    refine sx_region ?_
    refine sx_rd 13 (.bool (decide (x_6 < (l0.length : Int)))) (by rfl) (by kernel_rfl) ?_
    refine sx_nil ?_
    refine ex_then_n ?_
    refine wp_seq ?_
    by_cases hc_14 : x_6 < (l0.length : Int)
    ·
      rw [if_pos hc_14] at h
      by_cases hc_15 : 0 ≤ x_6
      case neg => rw [if_neg hc_15] at h;cases h
      rw [if_pos hc_15] at h
      by_cases hc_16 : x_6 < (l0.length : Int)
      case neg => rw [if_neg hc_16] at h;cases h
      rw [if_pos hc_16] at h
      obtain ⟨t_18,hv_17,h⟩:=Option.bind_eq_some_iff.mp h
      try dsimp only at h
      by_cases hc_19 : x_5.length < 8796093022208
      case neg => rw [if_neg hc_19] at h;cases h
      rw [if_pos hc_19] at h
      refine sx_then (decide (x_6 < (l0.length : Int))) (by rfl) (decide_eq_true hc_14) ?_
      refine wp_skip ?_
      refine ex_then_n ?_
      refine wp_seq ?_
      refine wp_block ?_
      refine wp_seq ?_
      refine sx_region ?_
      refine sx_rd 14 (.pointer (some (adr A0 x_6 2))) (by rfl) (ix_run (d:=k53) (hC0 _ hp.tail) (t:=29) (by rfl) (by rfl) (by rfl) Tryz.underlying29 (by kernel_rfl) (by omega) (by omega)) ?_
      refine sx_rd 15 (.agg #[.int .i64 ((rd_Tile l0 x_6).f0),.int .i64 ((rd_Tile l0 x_6).f1)]) (by rfl) (el_run (d:=k53) (hC0 _ hp.tail) z53 x_6 (by omega) (by omega) (cells:=[.int .i64 ((rd_Tile l0 x_6).f0),.int .i64 ((rd_Tile l0 x_6).f1)]) (fun cs h => k53_open h) 0 [.int .i64 ((rd_Tile l0 x_6).f0),.int .i64 ((rd_Tile l0 x_6).f1)] (by rfl) (t:=53) (p:=(.tmp 14)) (by rfl) (by rfl) (by kernel_rfl) (by kernel_rfl)) ?_
      refine sx_box 5 hp #[.int .i64 0,.int .i64 0] 53 (by rfl) (fun W => by kernel_rfl) ?_
      intro g_20 W_21 hp
      refine sx_store (t:=53) (p:=(.tmp 5)) (x:=(.tmp 15)) (by rfl) (by rfl) 0 (by rfl) 0 [.int .i64 ((rd_Tile l0 x_6).f0),.int .i64 ((rd_Tile l0 x_6).f1)] (by rfl) (by rfl) (by kernel_rfl) (by simp [Value.oneCell']) (by show 2 ≤ 2;omega) #[.int .i64 ((rd_Tile l0 x_6).f0),.int .i64 ((rd_Tile l0 x_6).f1)] (by rfl) hp ?_
      intro W_22 hp;simp only [List.set_cons_succ,List.set_cons_zero] at hp
      refine sx_nil ?_
      refine ex_then_n ?_
      refine sx_region ?_
      refine sx_rd 16 (.slice A_8 x_5.length c_10) (by rfl) (by kernel_rfl) ?_
      refine sx_rd 17 (.agg #[.int .i64 ((rd_Tile l0 x_6).f0),.int .i64 ((rd_Tile l0 x_6).f1)]) (by rfl) (ldn (t:=53) (p:=(.tmp 5)) (by rfl) (by rfl) (by kernel_rfl) (by kernel_rfl) (by kernel_rfl) (hp.at_ 0 _ (by rfl))) ?_
      refine sx_call 18 (by rfl) (by kernel_rfl) ((impl_Tile_digits.calls ((rd_Tile l0 x_6).f0) ((rd_Tile l0 x_6).f1) _ _ hv_17).mono ?_)
      rintro _ W_23 ⟨rfl,hb⟩
      refine ⟨_,rfl,?_⟩
      replace hp:=hp.below hb
      clear hb
      refine sx_lit 19 (by rfl) Kd.string w.heap.size 9 ([t_18]) [.string t_18] (fun W => by kernel_rfl) (Reps.snoc (cs:=[]) (Reps.none _ _) rfl rfl) (by simp) hp.size hp ?_
      intro g_24 F_25 W_26 hp hz;clear hz
      refine sx_append 20 (by rfl) Kd.string 2 (by rfl) (.string ByteArray.empty) 16 (by rfl) Tryz.underlying64 (by kernel_rfl) rfl (by decide) (by decide) ([t_18]) (by rfl) (by rfl) (row_C (hp.at_ 0 _ (by rfl))) (fun x cs h => h) hp.size (by first|omega|(simp;omega)) hp ?_
      intro A_27 c_28 F_29 W_30 hp hz;clear hz;simp only [List.set_cons_succ,List.set_cons_zero] at hp
      refine sx_rd 3 (.slice A_27 ((x_5 ++ [t_18]).length) c_28) (by rfl) (by kernel_rfl) ?_
      refine sx_nil ?_
      refine ex_blk_n ?_
      refine ex_then_n ?_
      refine sx_region ?_
      refine sx_rd 21 (.int .i64 (wrap64 (x_6 + 1))) (by rfl) (wr_w (by kernel_rfl)) ?_
      refine sx_rd 12 (.int .i64 (wrap64 (x_6 + 1))) (by rfl) (by kernel_rfl) ?_
      refine sx_nil ?_
      refine ex_then_n ?_
      exact ⟨_,(by omega),_,k_7,(wrap64 (x_6 + 1)),(x_5 ++ [t_18]),_,_,_,_,rfl,fr_front [(3,.slice A_27 ((x_5 ++ [t_18]).length) c_28),(10,.slice A0 l0.length c0),(11,.int .i64 (l0.length : Int)),(12,.int .i64 (wrap64 (x_6 + 1)))] ⟨rfl,rfl,rfl,rfl,trivial⟩,(hp.take [2] 3 (by decide) (by simp)),h,(by omega)⟩
    ·
      rw [if_neg hc_14] at h
      obtain ⟨t_32,hv_31,h⟩:=Option.bind_eq_some_iff.mp h
      try dsimp only at h
      refine sx_else (decide (x_6 < (l0.length : Int))) (by rfl) (decide_eq_false hc_14) ?_
      refine wp_exit ?_
      refine ex_then_e (ex_then_e (ex_blk_here ?_))
      refine ex_then_n ?_
      refine wp_seq ?_
      refine sx_region ?_
      refine sx_rd 22 (.slice A_8 x_5.length c_10) (by rfl) (by kernel_rfl) ?_
      refine sx_call 23 (by rfl) (by kernel_rfl) ((strings_Join.calls A_8 c_10 x_5 (⟨#[44]⟩ : ByteArray) _ _ (row_C (hp.at_ 0 _ (by rfl))) (row_len (hp.at_ 0 _ (by rfl))).2 hv_31).mono ?_)
      rintro _ W_33 ⟨rfl,hb⟩
      refine ⟨_,rfl,?_⟩
      replace hp:=hp.below hb
      clear hb
      refine sx_rd 2 (.string t_32) (by rfl) (by kernel_rfl) ?_
      refine sx_nil ?_
      refine ex_then_n ?_
      refine wp_ret ?_
      refine sx_end (.string t_32) (res1 2 (by rfl)) ?_
      obtain rfl:=Option.some.inj h
      exact ⟨rfl,hc2 _ (hp.tail)⟩
end
section
open Go.RowKit Go.Proofs.YtjaojemmbeddfaaGreatW.PrintWords Go.Proofs.YtjaojemmbeddfaaGreatW.PrintLast Go.Proofs.YtjaojemmbeddfaaGreatW.PrintMore
attribute [local go_sem] max2_int min2_int max_two min_two max_three min_three max_four min_four   -- for this text's walks alone
set_option linter.unusedVariables false
set_option linter.unusedSimpArgs false

def impl_laid.f (k : Nat) (l0 : List Int) (a1 : ByteArray) : Option (List Int):=(impl_moved.f a1).bind fun bt375 => (if (l0.length : Int) = 0 then (some (([bt375.1,bt375.2] : List Int))) else ((impl_ends.f l0).bind fun bt381 => (if 2 < (a1.size : Int) then (if (bt a1 2) = 108 then ((impl_Tile_other.f bt375.1 bt375.2 bt381.1).bind fun t383 => ((slices_Concat_int_int.f k (([(([t383] : List Int)),l0] : List (List Int)))).bind fun t390 => (some t390))) else ((impl_Tile_other.f bt375.1 bt375.2 bt381.2).bind fun t393 => ((slices_Concat_int_int.f k (([l0,(([t393] : List Int))] : List (List Int)))).bind fun t400 => (some t400)))) else (none))))
set_option maxRecDepth 100000 in
set_option maxHeartbeats 40000000 in
theorem impl_laid.calls (k : Nat) (P0_ : Nat → Prop) (A0 : Option Addr) (c0 : Nat) (l0 : List Int) (a1 : ByteArray) (r : List Int) (w : World) (hs0 : Kd.V (Kd.int .i64) 3 w w.heap.size (fun k_ => P0_ k_) (.slice A0 l0.length c0) l0) (h : impl_laid.f k l0 a1 = some r) :
    Calls Tryz.prog 67 #[.slice A0 l0.length c0,.string a1] w fun e w' => ∃ v0_ : Value,e = .returned (v0_) ∧ Kd.R (Kd.int .i64) 3 w' w.heap.size (fun k_ => (w.heap.size ≤ k_)) v0_ r ∧ Below w.heap.size w w':=by
  obtain ⟨cs,hcs⟩ : ∃ cs,cs = [old w w.heap.size]:=⟨_,rfl⟩
  have hp : Hp w cs w:=by rw [hcs];exact Hp.old_start w
  have hc2 : ∀ W,Hp w cs W → Below w.heap.size w W:=fun W h => by rw [hcs] at h;exact h.since 0 _ rfl
  have hC0 : ∀ W,Hp w cs W → Kd.C (Kd.int .i64) W A0 l0.length l0:=fun W h => (Kd.V_reads' (Kd.V_below hs0 (hc2 W h))).2.2
  have hc0 : l0.length ≤ c0:=(Kd.V_reads' hs0).2.1
  clear hcs
  unfold impl_laid.f at h
  obtain ⟨⟨t_2,t_3⟩,hv_1,h⟩:=Option.bind_eq_some_iff.mp h
  try dsimp only at h
  refine sx_enter (N:=40) (l:=[.slice A0 l0.length c0,.string a1]) Tryz.func67 rfl rfl rfl ?_
  refine wp_seq ?_
  refine sx_region ?_
  refine sx_rd 4 (.slice none 0 0) (by rfl) (by kernel_rfl) ?_
  refine sx_nil ?_
  refine ex_then_n ?_
  refine wp_seq ?_
  refine sx_region ?_
  refine sx_rd 8 (.string a1) (by rfl) (by kernel_rfl) ?_
  refine sx_call 9 (by rfl) (by kernel_rfl) ((impl_moved.calls a1 _ _ _ hv_1).mono ?_)
  rintro _ W_4 ⟨rfl,hb⟩
  refine ⟨_,rfl,?_⟩
  replace hp:=hp.below hb
  clear hb
  refine sx_box 5 hp #[.int .i64 0,.int .i64 0] 53 (by rfl) (fun W => by kernel_rfl) ?_
  intro g_5 W_6 hp
  refine sx_store (t:=53) (p:=(.tmp 5)) (x:=(.tmp 9)) (by rfl) (by rfl) 0 (by rfl) 0 [.int .i64 t_2,.int .i64 t_3] (by rfl) (by rfl) (by kernel_rfl) (by simp [Value.oneCell']) (by show 2 ≤ 2;omega) #[.int .i64 t_2,.int .i64 t_3] (by rfl) hp ?_
  intro W_7 hp;simp only [List.set_cons_succ,List.set_cons_zero] at hp
  refine sx_nil ?_
  refine ex_then_n ?_
  refine wp_seq ?_
  refine wp_seq ?_
  refine sx_region ?_
  refine sx_rd 10 (.slice A0 l0.length c0) (by rfl) (by kernel_rfl) ?_
  refine sx_rd 11 (.int .i64 (l0.length : Int)) (by rfl) (by kernel_rfl) ?_
  refine sx_rd 12 (.bool ((l0.length : Int) == 0)) (by rfl) (by kernel_rfl) ?_
  refine sx_nil ?_
  refine ex_then_n ?_
  by_cases hc_8 : (l0.length : Int) = 0
  ·
    rw [if_pos hc_8] at h
    refine sx_then ((l0.length : Int) == 0) (by rfl) (beq_iff_eq.mpr hc_8) ?_
    refine wp_seq ?_
    refine sx_region ?_
    refine sx_rd 13 (.pointer (some ⟨g_5,0,none⟩)) (by rfl) (by kernel_rfl) ?_
    refine sx_rd 14 (.int .i64 t_2) (by rfl) (ld1 (t:=3) (p:=(.tmp 13)) (by rfl) (by rfl) (by kernel_rfl) (hp.cell 0 (by rfl) 0 _ (by rfl))) ?_
    refine sx_rd 15 (.pointer (some ⟨g_5,1,none⟩)) (by rfl) (by kernel_rfl) ?_
    refine sx_rd 16 (.int .i64 t_3) (by rfl) (ld1 (t:=3) (p:=(.tmp 15)) (by rfl) (by rfl) (by kernel_rfl) (hp.cell 0 (by rfl) 1 _ (by rfl))) ?_
    refine sx_lit 17 (by rfl) (Kd.int .i64) w.heap.size 3 ([t_2,t_3]) [.int .i64 t_2,.int .i64 t_3] (fun W => by kernel_rfl) (reps_ints [t_2,t_3]) (by simp) hp.size hp ?_
    intro g_9 F_10 W_11 hp hz;clear hz
    refine sx_rd 4 (.slice (some ⟨g_9,0,none⟩) ([t_2,t_3].length) ([t_2,t_3].length)) (by rfl) (by kernel_rfl) ?_
    refine sx_nil ?_
    refine ex_then_n ?_
    refine wp_ret ?_
    refine ex_then_r ?_
    refine sx_end (.slice (some ⟨g_9,0,none⟩) ([t_2,t_3].length) ([t_2,t_3].length)) (res1 4 (by rfl)) ?_
    obtain rfl:=Option.some.inj h
    exact ⟨_,rfl,Kd.R_mono (Kd.R_bound (row_R (hp.at_ 0 _ (by rfl)))) (fun k hk => hk.2.1),hc2 _ (hp.tail.tail)⟩
  ·
    rw [if_neg hc_8] at h
    obtain ⟨⟨t_13,t_14⟩,hv_12,h⟩:=Option.bind_eq_some_iff.mp h
    try dsimp only at h
    by_cases hc_15 : 2 < (a1.size : Int)
    case neg => rw [if_neg hc_15] at h;cases h
    rw [if_pos hc_15] at h
    refine sx_else ((l0.length : Int) == 0) (by rfl) (beq_eq_false_iff_ne.mpr hc_8) ?_
    refine wp_skip ?_
    refine ex_then_n ?_
    refine wp_seq ?_
    refine sx_region ?_
    refine sx_rd 19 (.slice A0 l0.length c0) (by rfl) (by kernel_rfl) ?_
    refine sx_call 20 (by rfl) (by kernel_rfl) ((impl_ends.calls A0 c0 l0 _ _ _ (hC0 _ hp.tail) hc0 hv_12).mono ?_)
    rintro _ W_16 ⟨rfl,hb⟩
    refine ⟨_,rfl,?_⟩
    replace hp:=hp.below hb.below
    clear hb
    refine sx_rd 18 (.tuple #[.int .i64 t_13,.int .i64 t_14]) (by rfl) (by kernel_rfl) ?_
    refine sx_rd 21 (.int .i64 t_13) (by rfl) (by kernel_rfl) ?_
    refine sx_rd 22 (.int .i64 t_14) (by rfl) (by kernel_rfl) ?_
    refine sx_rd 6 (.int .i64 t_13) (by rfl) (by kernel_rfl) ?_
    refine sx_rd 7 (.int .i64 t_14) (by rfl) (by kernel_rfl) ?_
    refine sx_nil ?_
    refine ex_then_n ?_
    refine wp_seq ?_
    refine wp_seq ?_
    refine sx_region ?_
    refine sx_rd 23 (.string a1) (by rfl) (by kernel_rfl) ?_
    refine sx_rd 24 (.int .u8 (bt a1 2)) (by rfl) (stri_run (by rfl) (by rfl) (by rfl) Tryz.underlying9 (by omega) (by omega)) ?_
    refine sx_rd 25 (.bool ((bt a1 2) == 108)) (by rfl) (by kernel_rfl) ?_
    refine sx_nil ?_
    refine ex_then_n ?_
    by_cases hc_17 : (bt a1 2) = 108
    ·
      rw [if_pos hc_17] at h
      obtain ⟨t_19,hv_18,h⟩:=Option.bind_eq_some_iff.mp h
      try dsimp only at h
      obtain ⟨t_21,hv_20,h⟩:=Option.bind_eq_some_iff.mp h
      try dsimp only at h
      refine sx_then ((bt a1 2) == 108) (by rfl) (beq_iff_eq.mpr hc_17) ?_
      refine wp_seq ?_
      refine sx_region ?_
      refine sx_rd 26 (.agg #[.int .i64 t_2,.int .i64 t_3]) (by rfl) (ldn (t:=53) (p:=(.tmp 5)) (by rfl) (by rfl) (by kernel_rfl) (by kernel_rfl) (by kernel_rfl) (hp.at_ 0 _ (by rfl))) ?_
      refine sx_rd 27 (.int .i64 t_13) (by rfl) (by kernel_rfl) ?_
      refine sx_call 28 (by rfl) (by kernel_rfl) ((impl_Tile_other.calls t_2 t_3 t_13 _ _ hv_18).mono ?_)
      rintro _ W_22 ⟨rfl,hb⟩
      refine ⟨_,rfl,?_⟩
      replace hp:=hp.below hb
      clear hb
      refine sx_lit 29 (by rfl) (Kd.int .i64) w.heap.size 3 ([t_19]) [.int .i64 t_19] (fun W => by kernel_rfl) (Reps.snoc (cs:=[]) (Reps.none _ _) rfl rfl) (by simp) hp.size hp ?_
      intro g_23 F_24 W_25 hp hz;clear hz
      refine sx_rd 30 (.slice A0 l0.length c0) (by rfl) (by kernel_rfl) ?_
      refine sx_litb 31 (by rfl) hp #[.slice (some ⟨g_23,0,none⟩) ([t_19].length) ([t_19].length),.slice A0 l0.length c0] 23 2 (fun W => by kernel_rfl) ?_
      intro g_26 W_27 hp
      refine sx_call 32 (by rfl) (by kernel_rfl) ((slices_Concat_int_int.calls _ (some ⟨g_26,0,none⟩) 2 ([[t_19],l0]) _ _ (lit_C2 (hp.at_ 0 _ (by rfl)) (row_len (hp.at_ 1 _ (by rfl))).2 (row_C (hp.at_ 1 _ (by rfl))) hc0 (hC0 _ hp.tail.tail.tail)) (Nat.le_refl _) hv_20).mono ?_)
      rintro _ W_33 ⟨v_29,rfl,hR_28,hb⟩
      refine ⟨_,rfl,?_⟩
      obtain ⟨A_30,c_31,rfl,hcc_c_31,_⟩:=Kd.R_reads hR_28
      obtain ⟨F_32,hp⟩ : ∃ F,Hp w (row (Kd.int .i64) 3 w.heap.size (.slice A_30 t_21.length c_31) t_21 F :: blk g_26 #[.slice (some ⟨g_23,0,none⟩) ([t_19].length) ([t_19].length),.slice A0 l0.length c0] 23 :: row (Kd.int .i64) 3 w.heap.size (.slice (some ⟨g_23,0,none⟩) ([t_19].length) ([t_19].length)) ([t_19]) F_24 :: blk g_5 #[.int .i64 t_2,.int .i64 t_3] 53 :: cs) _:=⟨_,Hp.made hp hb hR_28⟩
      refine sx_rd 4 (.slice A_30 t_21.length c_31) (by rfl) (by kernel_rfl) ?_
      refine sx_nil ?_
      refine ex_then_n ?_
      refine wp_ret ?_
      refine ex_then_r ?_
      refine sx_end (.slice A_30 t_21.length c_31) (res1 4 (by rfl)) ?_
      obtain rfl:=Option.some.inj h
      exact ⟨_,rfl,Kd.R_mono (Kd.R_bound (row_R (hp.at_ 0 _ (by rfl)))) (fun k hk => hk.2.1),hc2 _ (hp.tail.tail.tail.tail)⟩
    ·
      rw [if_neg hc_17] at h
      obtain ⟨t_35,hv_34,h⟩:=Option.bind_eq_some_iff.mp h
      try dsimp only at h
      obtain ⟨t_37,hv_36,h⟩:=Option.bind_eq_some_iff.mp h
      try dsimp only at h
      refine sx_else ((bt a1 2) == 108) (by rfl) (beq_eq_false_iff_ne.mpr hc_17) ?_
      refine wp_skip ?_
      refine ex_then_n ?_
      refine wp_seq ?_
      refine sx_region ?_
      refine sx_rd 33 (.slice A0 l0.length c0) (by rfl) (by kernel_rfl) ?_
      refine sx_rd 34 (.agg #[.int .i64 t_2,.int .i64 t_3]) (by rfl) (ldn (t:=53) (p:=(.tmp 5)) (by rfl) (by rfl) (by kernel_rfl) (by kernel_rfl) (by kernel_rfl) (hp.at_ 0 _ (by rfl))) ?_
      refine sx_rd 35 (.int .i64 t_14) (by rfl) (by kernel_rfl) ?_
      refine sx_call 36 (by rfl) (by kernel_rfl) ((impl_Tile_other.calls t_2 t_3 t_14 _ _ hv_34).mono ?_)
      rintro _ W_38 ⟨rfl,hb⟩
      refine ⟨_,rfl,?_⟩
      replace hp:=hp.below hb
      clear hb
      refine sx_lit 37 (by rfl) (Kd.int .i64) w.heap.size 3 ([t_35]) [.int .i64 t_35] (fun W => by kernel_rfl) (Reps.snoc (cs:=[]) (Reps.none _ _) rfl rfl) (by simp) hp.size hp ?_
      intro g_39 F_40 W_41 hp hz;clear hz
      refine sx_litb 38 (by rfl) hp #[.slice A0 l0.length c0,.slice (some ⟨g_39,0,none⟩) ([t_35].length) ([t_35].length)] 23 2 (fun W => by kernel_rfl) ?_
      intro g_42 W_43 hp
      refine sx_call 39 (by rfl) (by kernel_rfl) ((slices_Concat_int_int.calls _ (some ⟨g_42,0,none⟩) 2 ([l0,[t_35]]) _ _ (lit_C2 (hp.at_ 0 _ (by rfl)) hc0 (hC0 _ hp.tail.tail.tail) (row_len (hp.at_ 1 _ (by rfl))).2 (row_C (hp.at_ 1 _ (by rfl)))) (Nat.le_refl _) hv_36).mono ?_)
      rintro _ W_49 ⟨v_45,rfl,hR_44,hb⟩
      refine ⟨_,rfl,?_⟩
      obtain ⟨A_46,c_47,rfl,hcc_c_47,_⟩:=Kd.R_reads hR_44
      obtain ⟨F_48,hp⟩ : ∃ F,Hp w (row (Kd.int .i64) 3 w.heap.size (.slice A_46 t_37.length c_47) t_37 F :: blk g_42 #[.slice A0 l0.length c0,.slice (some ⟨g_39,0,none⟩) ([t_35].length) ([t_35].length)] 23 :: row (Kd.int .i64) 3 w.heap.size (.slice (some ⟨g_39,0,none⟩) ([t_35].length) ([t_35].length)) ([t_35]) F_40 :: blk g_5 #[.int .i64 t_2,.int .i64 t_3] 53 :: cs) _:=⟨_,Hp.made hp hb hR_44⟩
      refine sx_rd 4 (.slice A_46 t_37.length c_47) (by rfl) (by kernel_rfl) ?_
      refine sx_nil ?_
      refine ex_then_n ?_
      refine wp_ret ?_
      refine sx_end (.slice A_46 t_37.length c_47) (res1 4 (by rfl)) ?_
      obtain rfl:=Option.some.inj h
      exact ⟨_,rfl,Kd.R_mono (Kd.R_bound (row_R (hp.at_ 0 _ (by rfl)))) (fun k hk => hk.2.1),hc2 _ (hp.tail.tail.tail.tail)⟩
end
end Go.Proofs.YtjaojemmbeddfaaGreat.Hd
