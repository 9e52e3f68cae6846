/- spec.SwapGame, by hand. -/
import Derived.Test.YtdcjapdkbocgmaaPGame
import Derived.Test.YtdcjapdkbocgmaaPPlOwn
import Derived.Test.YtdcjapdkbocgmaaMSx3
namespace Go.Proofs.Ytdcjapdkbocgmaa.Hd
open Go.RowKit Go.Proofs.Ytdcjapdkbocgmaa.Pure Go.Proofs.YtdcjapdkbocgmaaW.PrintWords Go.Proofs.YtdcjapdkbocgmaaW.PrintLast Go.Proofs.YtdcjapdkbocgmaaW.PrintMore
set_option linter.unusedVariables false
set_option linter.unusedSimpArgs false
theorem game_turn {f s : List S_Tile} {r : List Int} {t p : Int} (h : gameB f s r t p = true) : 0 ≤ t ∧ t ≤ 1 := by
 unfold gameB inB at h
 simp only [Bool.and_eq_true, decide_eq_true_eq] at h
 omega
def spec_SwapGame.f (f s : List S_Tile) (r : List Int) (t p : Int) : Option (List S_Tile × List S_Tile × List Int × Int × Int × Bool) := if f.length ≤ 1048576 ∧ s.length ≤ 1048576 ∧ r.length ≤ 1048576 then (if gameB f s r t p = true then some (s, f, r, 1 - t, p, true) else some ([], [], [], 0, 0, false)) else none
set_option maxRecDepth 100000 in
set_option maxHeartbeats 40000000 in
theorem spec_SwapGame.calls (A0_0 : Option Addr) (c0_0 : Nat) (l0_0 : List S_Tile) (A0_1 : Option Addr) (c0_1 : Nat) (l0_1 : List S_Tile) (A0_2 : Option Addr) (c0_2 : Nat) (l0_2 : List Int) (a0_3 : Int) (a0_4 : Int) (r0 : List S_Tile) (r1 : List S_Tile) (r2 : List Int) (r3 : Int) (r4 : Int) (r5 : Bool) (w : World) (hr0_0 : Kd.C k82 w A0_0 l0_0.length l0_0) (hc0_0 : l0_0.length ≤ c0_0) (hr0_1 : Kd.C k82 w A0_1 l0_1.length l0_1) (hc0_1 : l0_1.length ≤ c0_1) (hr0_2 : Kd.C (Kd.int .i64) w A0_2 l0_2.length l0_2) (hc0_2 : l0_2.length ≤ c0_2) (h : spec_SwapGame.f l0_0 l0_1 l0_2 a0_3 a0_4 = some (r0, r1, r2, r3, r4, r5)) :
  Calls Try.prog 20 #[.agg #[.slice A0_0 l0_0.length c0_0, .slice A0_1 l0_1.length c0_1, .slice A0_2 l0_2.length c0_2, .int .i64 a0_3, .int .i64 a0_4]] w fun e w' => ∃ v0_ v1_ v2_ : Value, e = .returned (.tuple #[.agg #[v0_, v1_, v2_, .int .i64 r3, .int .i64 r4], .bool r5]) ∧ Kd.R k82 82 w' w.heap.size (fun k_ => some k_ ≠ (v1_ : Value).ownBlock) v0_ r0 ∧ Kd.R k82 82 w' w.heap.size (fun k_ => some k_ ≠ (v0_ : Value).ownBlock) v1_ r1 ∧ Kd.R (Kd.int .i64) 3 w' w.heap.size (fun _ => True) v2_ r2 ∧ Below w.heap.size w w' := by
 unfold spec_SwapGame.f at h
 by_cases hsz : l0_0.length ≤ 1048576 ∧ l0_1.length ≤ 1048576 ∧ l0_2.length ≤ 1048576
 case neg => rw [if_neg hsz] at h; cases h
 rw [if_pos hsz] at h
 obtain ⟨hz0, hz1, hz2⟩ := hsz
 obtain ⟨cs, hcs⟩ : ∃ cs, cs = [old w w.heap.size] := ⟨_, rfl⟩
 have hp : Hp w cs w := by rw [hcs]; exact Hp.old_start w
 have hc2 : ∀ W, Hp w cs W → Below w.heap.size w W := fun W h => by rw [hcs] at h; exact h.since 0 _ rfl
 have hC0_0 : ∀ W, Hp w cs W → Kd.C k82 W A0_0 l0_0.length l0_0 := fun W h => Kd.C_below hr0_0 (hc2 W h)
 have hC0_1 : ∀ W, Hp w cs W → Kd.C k82 W A0_1 l0_1.length l0_1 := fun W h => Kd.C_below hr0_1 (hc2 W h)
 have hC0_2 : ∀ W, Hp w cs W → Kd.C (Kd.int .i64) W A0_2 l0_2.length l0_2 := fun W h => Kd.C_below hr0_2 (hc2 W h)
 clear hcs
 refine sx_enter (N := 24) (l := [.agg #[.slice A0_0 l0_0.length c0_0, .slice A0_1 l0_1.length c0_1, .slice A0_2 l0_2.length c0_2, .int .i64 a0_3, .int .i64 a0_4]]) Try.func20 rfl rfl rfl ?_
 refine wp_seq ?_
 refine sx_region ?_
 refine sx_box 1 hp #[.slice A0_0 l0_0.length c0_0, .slice A0_1 l0_1.length c0_1, .slice A0_2 l0_2.length c0_2, .int .i64 a0_3, .int .i64 a0_4] 39 (by rfl) (fun W => by kernel_rfl) ?_
 intro g_1 W_2 hp
 refine sx_box 2 hp #[.slice none 0 0, .slice none 0 0, .slice none 0 0, .int .i64 0, .int .i64 0] 39 (by rfl) (fun W => by kernel_rfl) ?_
 intro g_3 W_4 hp
 refine sx_rd 3 (.bool false) (by rfl) (by kernel_rfl) ?_
 refine sx_nil ?_
 refine ex_then_n ?_
 refine wp_seq ?_
 refine wp_seq ?_
 refine sx_region ?_
 refine sx_rd 6 (.agg #[.slice A0_0 l0_0.length c0_0, .slice A0_1 l0_1.length c0_1, .slice A0_2 l0_2.length c0_2, .int .i64 a0_3, .int .i64 a0_4]) (by rfl) (ldn (t := 39) (p := (.tmp 1)) (by rfl) (by rfl) (by kernel_rfl) (by kernel_rfl) (by kernel_rfl) (hp.at_ 1 _ (by rfl))) ?_
 obtain ⟨k_5, hk_k_5⟩ := Ev.rounds (plGood_ev l0_0 l0_1 l0_2 a0_3 a0_4 (by omega) (by omega) (by omega))
 refine sx_call 7 (by rfl) (by kernel_rfl) ((spec_plGood.calls k_5 A0_0 c0_0 l0_0 A0_1 c0_1 l0_1 A0_2 c0_2 l0_2 a0_3 a0_4 _ _ (hC0_0 _ hp.tail.tail) hc0_0 (hC0_1 _ hp.tail.tail) hc0_1 (hC0_2 _ hp.tail.tail) hc0_2 hk_k_5).mono ?_)
 rintro _ W_6 ⟨rfl, hb⟩
 refine ⟨_, rfl, ?_⟩
 replace hp := hp.below hb
 clear hb
 refine sx_rd 8 (.bool (!(gameB l0_0 l0_1 l0_2 a0_3 a0_4))) (by rfl) (by kernel_rfl) ?_
 refine sx_nil ?_
 refine ex_then_n ?_
 refine sx_cond (!(gameB l0_0 l0_1 l0_2 a0_3 a0_4)) (by rfl) (fun c_7 => ?_) (fun c_7 => ?_)
 ·
  refine wp_seq ?_
  refine sx_region ?_
  refine sx_rd 9 (.agg #[.slice none 0 0, .slice none 0 0, .slice none 0 0, .int .i64 0, .int .i64 0]) (by rfl) (by kernel_rfl) ?_
  refine sx_store (t := 39) (p := (.tmp 2)) (x := (.tmp 9)) (by rfl) (by rfl) 0 (by rfl) 0 [.slice none 0 0, .slice none 0 0, .slice none 0 0, .int .i64 0, .int .i64 0] (by rfl) (by rfl) (by kernel_rfl) (by simp [Value.oneCell']) (by show 5 ≤ 5; omega) #[.slice none 0 0, .slice none 0 0, .slice none 0 0, .int .i64 0, .int .i64 0] (by rfl) hp ?_
  intro W_8 hp; simp only [List.set_cons_succ, List.set_cons_zero] at hp
  refine sx_rd 3 (.bool false) (by rfl) (by kernel_rfl) ?_
  refine sx_nil ?_
  refine ex_then_n ?_
  refine wp_ret ?_
  refine ex_then_r ?_
  refine sx_end (.tuple #[.agg #[.slice none 0 0, .slice none 0 0, .slice none 0 0, .int .i64 0, .int .i64 0], .bool false]) (rescT (p := 2) (u := 3) (by rfl) (by rfl) (by kernel_rfl) (by kernel_rfl) (hp.at_ 0 _ (by rfl))) ?_
  rw [if_neg (by rw [(not_eq c_7)]; simp)] at h
  simp only [Option.some.injEq, Prod.mk.injEq] at h; obtain ⟨rfl, rfl, rfl, rfl, rfl, rfl⟩ := h
  exact ⟨_, _, _, rfl, Kd.R_nil _ _ _ _ _, Kd.R_nil _ _ _ _ _, Kd.R_nil _ _ _ _ _, hc2 _ (hp.tail.tail)⟩
 ·
  have hturn := game_turn (show (gameB l0_0 l0_1 l0_2 a0_3 a0_4) = true from by have q := c_7; simpa using q)
  refine wp_skip ?_
  refine ex_then_n ?_
  refine wp_seq ?_
  refine sx_region ?_
  refine sx_rd 10 (.agg #[.slice A0_0 l0_0.length c0_0, .slice A0_1 l0_1.length c0_1, .slice A0_2 l0_2.length c0_2, .int .i64 a0_3, .int .i64 a0_4]) (by rfl) (ldn (t := 39) (p := (.tmp 1)) (by rfl) (by rfl) (by kernel_rfl) (by kernel_rfl) (by kernel_rfl) (hp.at_ 1 _ (by rfl))) ?_
  refine sx_call 11 (by rfl) (by kernel_rfl) ((spec_plOwn.calls A0_0 c0_0 l0_0 A0_1 c0_1 l0_1 A0_2 c0_2 l0_2 a0_3 a0_4 _ _ _ _ _ _ (hC0_0 _ hp.tail.tail) hc0_0 (hC0_1 _ hp.tail.tail) hc0_1 (hC0_2 _ hp.tail.tail) hc0_2 (plOwn_eq l0_0 l0_1 l0_2 a0_3 a0_4 (by omega) (by omega) (by omega))).mono ?_)
  rintro _ W_24 ⟨v_12, v_13, v_14, rfl, hR_9, hR_10, hR_11, hb⟩
  refine ⟨_, rfl, ?_⟩
  obtain ⟨A_15, c_16, rfl, hcc_c_16, _⟩ := Kd.R_reads hR_9
  obtain ⟨A_18, c_19, rfl, hcc_c_19, _⟩ := Kd.R_reads hR_10
  obtain ⟨A_21, c_22, rfl, hcc_c_22, _⟩ := Kd.R_reads hR_11
  obtain ⟨F_17, F_20, F_23, hp⟩ : ∃ F_17 F_20 F_23, Hp w (row k82 82 w.heap.size (.slice A_15 l0_0.length c_16) l0_0 F_17 :: row k82 82 w.heap.size (.slice A_18 l0_1.length c_19) l0_1 F_20 :: row (Kd.int .i64) 3 w.heap.size (.slice A_21 l0_2.length c_22) l0_2 F_23 :: blk g_3 #[.slice none 0 0, .slice none 0 0, .slice none 0 0, .int .i64 0, .int .i64 0] 39 :: blk g_1 #[.slice A0_0 l0_0.length c0_0, .slice A0_1 l0_1.length c0_1, .slice A0_2 l0_2.length c0_2, .int .i64 a0_3, .int .i64 a0_4] 39 :: cs) _ := ⟨_, _, _, Hp.made3 hp hb rfl rfl rfl hR_9 hR_10 hR_11 (ok_apart hR_9 (fun k hk => hk)) (typed_apart hR_9 hR_11 (by decide)) (typed_apart hR_10 hR_11 (by decide))⟩
  refine sx_box 4 hp #[.slice none 0 0, .slice none 0 0, .slice none 0 0, .int .i64 0, .int .i64 0] 39 (by rfl) (fun W => by kernel_rfl) ?_
  intro g_25 W_26 hp
  refine sx_store (t := 39) (p := (.tmp 4)) (x := (.tmp 11)) (by rfl) (by rfl) 0 (by rfl) 0 [.slice A_15 l0_0.length c_16, .slice A_18 l0_1.length c_19, .slice A_21 l0_2.length c_22, .int .i64 a0_3, .int .i64 a0_4] (by rfl) (by rfl) (by kernel_rfl) (by simp [Value.oneCell']) (by show 5 ≤ 5; omega) #[.slice A_15 l0_0.length c_16, .slice A_18 l0_1.length c_19, .slice A_21 l0_2.length c_22, .int .i64 a0_3, .int .i64 a0_4] (by rfl) hp ?_
  intro W_27 hp; simp only [List.set_cons_succ, List.set_cons_zero] at hp
  refine sx_nil ?_
  refine ex_then_n ?_
  refine wp_seq ?_
  refine sx_region ?_
  refine sx_rd 12 (.pointer (some ⟨g_25, 0, none⟩)) (by rfl) (by kernel_rfl) ?_
  refine sx_rd 13 (.slice A_15 l0_0.length c_16) (by rfl) (ld1 (t := 37) (p := (.tmp 12)) (by rfl) (by rfl) (by kernel_rfl) (hp.cell 0 (by rfl) 0 _ (by rfl))) ?_
  refine sx_rd 5 (.slice A_15 l0_0.length c_16) (by rfl) (by kernel_rfl) ?_
  refine sx_nil ?_
  refine ex_then_n ?_
  refine wp_seq ?_
  refine sx_region ?_
  refine sx_rd 14 (.pointer (some ⟨g_25, 1, none⟩)) (by rfl) (by kernel_rfl) ?_
  refine sx_rd 15 (.slice A_18 l0_1.length c_19) (by rfl) (ld1 (t := 37) (p := (.tmp 14)) (by rfl) (by rfl) (by kernel_rfl) (hp.cell 0 (by rfl) 1 _ (by rfl))) ?_
  refine sx_rd 16 (.pointer (some ⟨g_25, 0, none⟩)) (by rfl) (by kernel_rfl) ?_
  refine sx_store (t := 37) (p := (.tmp 16)) (x := (.tmp 15)) (by rfl) (by rfl) 0 (by rfl) 0 [.slice A_18 l0_1.length c_19] (by rfl) (by rfl) (by kernel_rfl) (by simp [Value.oneCell']) (by show 1 ≤ 5; omega) #[.slice A_18 l0_1.length c_19, .slice A_18 l0_1.length c_19, .slice A_21 l0_2.length c_22, .int .i64 a0_3, .int .i64 a0_4] (by rfl) hp ?_
  intro W_28 hp; simp only [List.set_cons_succ, List.set_cons_zero] at hp
  refine sx_nil ?_
  refine ex_then_n ?_
  refine wp_seq ?_
  refine sx_region ?_
  refine sx_rd 17 (.slice A_15 l0_0.length c_16) (by rfl) (by kernel_rfl) ?_
  refine sx_rd 18 (.pointer (some ⟨g_25, 1, none⟩)) (by rfl) (by kernel_rfl) ?_
  refine sx_store (t := 37) (p := (.tmp 18)) (x := (.tmp 17)) (by rfl) (by rfl) 0 (by rfl) 1 [.slice A_15 l0_0.length c_16] (by rfl) (by rfl) (by kernel_rfl) (by simp [Value.oneCell']) (by show 2 ≤ 5; omega) #[.slice A_18 l0_1.length c_19, .slice A_15 l0_0.length c_16, .slice A_21 l0_2.length c_22, .int .i64 a0_3, .int .i64 a0_4] (by rfl) hp ?_
  intro W_29 hp; simp only [List.set_cons_succ, List.set_cons_zero] at hp
  refine sx_nil ?_
  refine ex_then_n ?_
  refine wp_seq ?_
  refine sx_region ?_
  refine sx_rd 19 (.pointer (some ⟨g_1, 3, none⟩)) (by rfl) (by kernel_rfl) ?_
  refine sx_rd 20 (.int .i64 a0_3) (by rfl) (ld1 (t := 3) (p := (.tmp 19)) (by rfl) (by rfl) (by kernel_rfl) (hp.cell 5 (by rfl) 3 _ (by rfl))) ?_
  refine sx_rd 21 (.int .i64 (1 - a0_3)) (by rfl) (wr_ok (by omega) (by kernel_rfl)) ?_
  refine sx_rd 22 (.pointer (some ⟨g_25, 3, none⟩)) (by rfl) (by kernel_rfl) ?_
  refine sx_store (t := 3) (p := (.tmp 22)) (x := (.tmp 21)) (by rfl) (by rfl) 0 (by rfl) 3 [.int .i64 (1 - a0_3)] (by rfl) (by rfl) (by kernel_rfl) (by simp [Value.oneCell']) (by show 4 ≤ 5; omega) #[.slice A_18 l0_1.length c_19, .slice A_15 l0_0.length c_16, .slice A_21 l0_2.length c_22, .int .i64 (1 - a0_3), .int .i64 a0_4] (by rfl) hp ?_
  intro W_30 hp; simp only [List.set_cons_succ, List.set_cons_zero] at hp
  refine sx_nil ?_
  refine ex_then_n ?_
  refine wp_seq ?_
  refine sx_region ?_
  refine sx_rd 23 (.agg #[.slice A_18 l0_1.length c_19, .slice A_15 l0_0.length c_16, .slice A_21 l0_2.length c_22, .int .i64 (1 - a0_3), .int .i64 a0_4]) (by rfl) (ldn (t := 39) (p := (.tmp 4)) (by rfl) (by rfl) (by kernel_rfl) (by kernel_rfl) (by kernel_rfl) (hp.at_ 0 _ (by rfl))) ?_
  refine sx_store (t := 39) (p := (.tmp 2)) (x := (.tmp 23)) (by rfl) (by rfl) 4 (by rfl) 0 [.slice A_18 l0_1.length c_19, .slice A_15 l0_0.length c_16, .slice A_21 l0_2.length c_22, .int .i64 (1 - a0_3), .int .i64 a0_4] (by rfl) (by rfl) (by kernel_rfl) (by simp [Value.oneCell']) (by show 5 ≤ 5; omega) #[.slice A_18 l0_1.length c_19, .slice A_15 l0_0.length c_16, .slice A_21 l0_2.length c_22, .int .i64 (1 - a0_3), .int .i64 a0_4] (by rfl) hp ?_
  intro W_31 hp; simp only [List.set_cons_succ, List.set_cons_zero] at hp
  refine sx_rd 3 (.bool true) (by rfl) (by kernel_rfl) ?_
  refine sx_nil ?_
  refine ex_then_n ?_
  refine wp_ret ?_
  refine sx_end (.tuple #[.agg #[.slice A_18 l0_1.length c_19, .slice A_15 l0_0.length c_16, .slice A_21 l0_2.length c_22, .int .i64 (1 - a0_3), .int .i64 a0_4], .bool true]) (rescT (p := 2) (u := 3) (by rfl) (by rfl) (by kernel_rfl) (by kernel_rfl) (hp.at_ 4 _ (by rfl))) ?_
  rw [if_pos (show (gameB l0_0 l0_1 l0_2 a0_3 a0_4) = true from by have q := (not_eq c_7); simpa using q)] at h
  simp only [Option.some.injEq, Prod.mk.injEq] at h; obtain ⟨rfl, rfl, rfl, rfl, rfl, rfl⟩ := h
  exact ⟨_, _, _, rfl, Kd.R_mono (row_R (hp.at_ 2 _ (by rfl))) (fun k_ hk_ => Hp.apart_rows hp 2 1 (by decide) (by rfl) (by rfl) k_ hk_), Kd.R_mono (row_R (hp.at_ 1 _ (by rfl))) (fun k_ hk_ => Hp.apart_rows hp 1 2 (by decide) (by rfl) (by rfl) k_ hk_), Kd.R_mono (row_R (hp.at_ 3 _ (by rfl))) (fun _ _ => trivial), hc2 _ (hp.tail.tail.tail.tail.tail.tail)⟩
end Go.Proofs.Ytdcjapdkbocgmaa.Hd
