/- spec.PlayMoves, by hand. -/
import Derived.Test.YtkjaahmlnbgnjaaGreatPPlayA
import Derived.Test.YtkjaahmlnbgnjaaGreatPPlOwn
import Derived.Test.YtkjaahmlnbgnjaaGreatMSx5
namespace Go.Proofs.YtkjaahmlnbgnjaaGreat.Hd
open Go.RowKit Go.Proofs.YtkjaahmlnbgnjaaGreat.Pure Go.Proofs.YtkjaahmlnbgnjaaGreatW.PrintWords Go.Proofs.YtkjaahmlnbgnjaaGreatW.PrintLast Go.Proofs.YtkjaahmlnbgnjaaGreatW.PrintMore
set_option linter.unusedVariables false
set_option linter.unusedSimpArgs false
def spec_PlayMoves.f (f s : List S_Tile) (r : List Int) (t p : Int) (l : List ByteArray) : Option (List S_Tile × List S_Tile × List Int × Int × Int × Bool) := if f.length ≤ 1048576 ∧ s.length ≤ 1048576 ∧ r.length ≤ 1048576 then some (resPlayMoves f s r t p l) else none
set_option maxRecDepth 100000 in
set_option maxHeartbeats 40000000 in
theorem spec_PlayMoves.calls (A0_0 : Option Addr) (c0_0 : Nat) (l0_0 : List S_Tile) (A0_1 : Option Addr) (c0_1 : Nat) (l0_1 : List S_Tile) (A0_2 : Option Addr) (c0_2 : Nat) (l0_2 : List Int) (a0_3 : Int) (a0_4 : Int) (A1 : Option Addr) (c1 : Nat) (l1 : List ByteArray) (r0 : List S_Tile) (r1 : List S_Tile) (r2 : List Int) (r3 : Int) (r4 : Int) (r5 : Bool) (w : World) (hr0_0 : Kd.C k59 w A0_0 l0_0.length l0_0) (hc0_0 : l0_0.length ≤ c0_0) (hr0_1 : Kd.C k59 w A0_1 l0_1.length l0_1) (hc0_1 : l0_1.length ≤ c0_1) (hr0_2 : Kd.C (Kd.int .i64) w A0_2 l0_2.length l0_2) (hc0_2 : l0_2.length ≤ c0_2) (hr1 : Kd.C Kd.string w A1 l1.length l1) (hc1 : l1.length ≤ c1) (h : spec_PlayMoves.f l0_0 l0_1 l0_2 a0_3 a0_4 l1 = some (r0, r1, r2, r3, r4, r5)) :
  Calls Tryz.prog 19 #[.agg #[.slice A0_0 l0_0.length c0_0, .slice A0_1 l0_1.length c0_1, .slice A0_2 l0_2.length c0_2, .int .i64 a0_3, .int .i64 a0_4], .slice A1 l1.length c1] w fun e w' => ∃ v0_ v1_ v2_ : Value, e = .returned (.tuple #[.agg #[v0_, v1_, v2_, .int .i64 r3, .int .i64 r4], .bool r5]) ∧ Kd.R k59 59 w' w.heap.size (fun k_ => some k_ ≠ (v1_ : Value).ownBlock) v0_ r0 ∧ Kd.R k59 59 w' w.heap.size (fun k_ => some k_ ≠ (v0_ : Value).ownBlock) v1_ r1 ∧ Kd.R (Kd.int .i64) 3 w' w.heap.size (fun _ => True) v2_ r2 ∧ Below w.heap.size w w' := by
 unfold spec_PlayMoves.f resPlayMoves at h
 by_cases hsz : l0_0.length ≤ 1048576 ∧ l0_1.length ≤ 1048576 ∧ l0_2.length ≤ 1048576
 case neg => rw [if_neg hsz] at h; cases h
 rw [if_pos hsz] at h
 obtain ⟨hy0, hy1, hy2⟩ := hsz
 obtain ⟨cs, hcs⟩ : ∃ cs, cs = [old w w.heap.size] := ⟨_, rfl⟩
 have hp : Hp w cs w := by rw [hcs]; exact Hp.old_start w
 have hc2 : ∀ W, Hp w cs W → Below w.heap.size w W := fun W h => by rw [hcs] at h; exact h.since 0 _ rfl
 have hC0_0 : ∀ W, Hp w cs W → Kd.C k59 W A0_0 l0_0.length l0_0 := fun W h => Kd.C_below hr0_0 (hc2 W h)
 have hC0_1 : ∀ W, Hp w cs W → Kd.C k59 W A0_1 l0_1.length l0_1 := fun W h => Kd.C_below hr0_1 (hc2 W h)
 have hC0_2 : ∀ W, Hp w cs W → Kd.C (Kd.int .i64) W A0_2 l0_2.length l0_2 := fun W h => Kd.C_below hr0_2 (hc2 W h)
 have hC1 : ∀ W, Hp w cs W → Kd.C Kd.string W A1 l1.length l1 := fun W h => Kd.C_below hr1 (hc2 W h)
 clear hcs
 refine sx_enter (N := 40) (l := [.agg #[.slice A0_0 l0_0.length c0_0, .slice A0_1 l0_1.length c0_1, .slice A0_2 l0_2.length c0_2, .int .i64 a0_3, .int .i64 a0_4], .slice A1 l1.length c1]) Tryz.func19 rfl rfl rfl ?_
 refine wp_seq ?_
 refine sx_region ?_
 refine sx_box 2 hp #[.slice A0_0 l0_0.length c0_0, .slice A0_1 l0_1.length c0_1, .slice A0_2 l0_2.length c0_2, .int .i64 a0_3, .int .i64 a0_4] 29 (by rfl) (fun W => by kernel_rfl) ?_
 intro g_1 W_2 hp
 refine sx_box 4 hp #[.slice none 0 0, .slice none 0 0, .slice none 0 0, .int .i64 0, .int .i64 0] 29 (by rfl) (fun W => by kernel_rfl) ?_
 intro g_3 W_4 hp
 refine sx_rd 5 (.bool false) (by rfl) (by kernel_rfl) ?_
 refine sx_nil ?_
 refine ex_then_n ?_
 refine wp_seq ?_
 refine wp_seq ?_
 rcases Bool.eq_false_or_eq_true (!(gameB l0_0 l0_1 l0_2 a0_3 a0_4)) with c_5 | c_5
 ·
  refine sx_region ?_
  refine sx_rd 11 (.agg #[.slice A0_0 l0_0.length c0_0, .slice A0_1 l0_1.length c0_1, .slice A0_2 l0_2.length c0_2, .int .i64 a0_3, .int .i64 a0_4]) (by rfl) (ldn (t := 29) (p := (.tmp 2)) (by rfl) (by rfl) (by kernel_rfl) (by kernel_rfl) (by kernel_rfl) (hp.at_ 1 _ (by rfl))) ?_
  obtain ⟨k_6, hk_k_6⟩ := Ev.rounds (plGood_ev l0_0 l0_1 l0_2 a0_3 a0_4 (by omega) (by omega) (by omega))
  refine sx_call 12 (by rfl) (by kernel_rfl) ((spec_plGood.calls k_6 A0_0 c0_0 l0_0 A0_1 c0_1 l0_1 A0_2 c0_2 l0_2 a0_3 a0_4 _ _ (hC0_0 _ hp.tail.tail) hc0_0 (hC0_1 _ hp.tail.tail) hc0_1 (hC0_2 _ hp.tail.tail) hc0_2 hk_k_6).mono ?_)
  rintro _ W_7 ⟨rfl, hb⟩
  refine ⟨.bool false, congrArg (fun b => Ending.returned (.bool b)) (not_eq c_5), ?_⟩
  replace hp := hp.below hb
  clear hb
  refine sx_rd 13 (.bool true) (by rfl) (by kernel_rfl) ?_
  refine sx_rd 14 (.bool true) (by rfl) (by kernel_rfl) ?_
  refine sx_skip 15 (by rfl) (by rfl) (by rfl) ?_
  refine sx_skip 16 (by rfl) (by rfl) (by rfl) ?_
  refine sx_skip 17 (by rfl) (by rfl) (by rfl) ?_
  refine sx_rd 18 (.bool true) (by rfl) (by kernel_rfl) ?_
  refine sx_nil ?_
  refine ex_then_n ?_
  refine sx_then true (by rfl) rfl ?_
  refine wp_seq ?_
  refine sx_region ?_
  refine sx_rd 19 (.agg #[.slice none 0 0, .slice none 0 0, .slice none 0 0, .int .i64 0, .int .i64 0]) (by rfl) (by kernel_rfl) ?_
  refine sx_store (t := 29) (p := (.tmp 4)) (x := (.tmp 19)) (by rfl) (by rfl) 0 (by rfl) 0 [.slice none 0 0, .slice none 0 0, .slice none 0 0, .int .i64 0, .int .i64 0] (by rfl) (by rfl) (by kernel_rfl) (by simp [Value.oneCell']) (by show 5 ≤ 5; omega) #[.slice none 0 0, .slice none 0 0, .slice none 0 0, .int .i64 0, .int .i64 0] (by rfl) hp ?_
  intro W_8 hp; simp only [List.set_cons_succ, List.set_cons_zero] at hp
  refine sx_rd 5 (.bool false) (by rfl) (by kernel_rfl) ?_
  refine sx_nil ?_
  refine ex_then_n ?_
  refine wp_ret ?_
  refine ex_then_r ?_
  refine sx_end (.tuple #[.agg #[.slice none 0 0, .slice none 0 0, .slice none 0 0, .int .i64 0, .int .i64 0], .bool false]) (rescT (p := 4) (u := 5) (by rfl) (by rfl) (by kernel_rfl) (by kernel_rfl) (hp.at_ 0 _ (by rfl))) ?_
  rw [if_neg (fun q => by have q1 := q.1; rw [(not_eq c_5)] at q1; cases q1)] at h; unfold noGm at h
  simp only [Option.some.injEq, Prod.mk.injEq] at h; obtain ⟨rfl, rfl, rfl, rfl, rfl, rfl⟩ := h
  exact ⟨_, _, _, rfl, Kd.R_nil _ _ _ _ _, Kd.R_nil _ _ _ _ _, Kd.R_nil _ _ _ _ _, hc2 _ (hp.tail.tail)⟩
 ·
  have hgB : (gameB l0_0 l0_1 l0_2 a0_3 a0_4) = true := by have q := c_5; simpa using q
  have hok0 := GmOk.of hgB
  have hz0 := hand_len hok0.f
  have hz1 := hand_len hok0.s
  dsimp only at hz0 hz1
  refine sx_region ?_
  refine sx_rd 11 (.agg #[.slice A0_0 l0_0.length c0_0, .slice A0_1 l0_1.length c0_1, .slice A0_2 l0_2.length c0_2, .int .i64 a0_3, .int .i64 a0_4]) (by rfl) (ldn (t := 29) (p := (.tmp 2)) (by rfl) (by rfl) (by kernel_rfl) (by kernel_rfl) (by kernel_rfl) (hp.at_ 1 _ (by rfl))) ?_
  obtain ⟨k_9, hk_k_9⟩ := Ev.rounds (plGood_ev l0_0 l0_1 l0_2 a0_3 a0_4 (by omega) (by omega) (by omega))
  refine sx_call 12 (by rfl) (by kernel_rfl) ((spec_plGood.calls k_9 A0_0 c0_0 l0_0 A0_1 c0_1 l0_1 A0_2 c0_2 l0_2 a0_3 a0_4 _ _ (hC0_0 _ hp.tail.tail) hc0_0 (hC0_1 _ hp.tail.tail) hc0_1 (hC0_2 _ hp.tail.tail) hc0_2 hk_k_9).mono ?_)
  rintro _ W_10 ⟨rfl, hb⟩
  refine ⟨.bool true, congrArg (fun b => Ending.returned (.bool b)) (not_eq c_5), ?_⟩
  replace hp := hp.below hb
  clear hb
  refine sx_rd 13 (.bool false) (by rfl) (by kernel_rfl) ?_
  refine sx_rd 14 (.bool false) (by rfl) (by kernel_rfl) ?_
  refine sx_want (by rfl) ?_
  refine sx_rd 15 (.slice A1 l1.length c1) (by rfl) (by kernel_rfl) ?_
  refine sx_want (by rfl) ?_
  refine sx_rd 16 (.int .i64 (l1.length : Int)) (by rfl) (by kernel_rfl) ?_
  refine sx_want (by rfl) ?_
  refine sx_rd 17 (.bool (decide ((l1.length : Int) > 100))) (by rfl) (by kernel_rfl) ?_
  refine sx_rd 18 (.bool (decide ((l1.length : Int) > 100))) (by rfl) (by kernel_rfl) ?_
  refine sx_nil ?_
  refine ex_then_n ?_
  refine sx_cond (decide ((l1.length : Int) > 100)) (by rfl) (fun c_11 => ?_) (fun c_11 => ?_)
  ·
   have c_11p := of_decide_eq_true c_11
   refine wp_seq ?_
   refine sx_region ?_
   refine sx_rd 19 (.agg #[.slice none 0 0, .slice none 0 0, .slice none 0 0, .int .i64 0, .int .i64 0]) (by rfl) (by kernel_rfl) ?_
   refine sx_store (t := 29) (p := (.tmp 4)) (x := (.tmp 19)) (by rfl) (by rfl) 0 (by rfl) 0 [.slice none 0 0, .slice none 0 0, .slice none 0 0, .int .i64 0, .int .i64 0] (by rfl) (by rfl) (by kernel_rfl) (by simp [Value.oneCell']) (by show 5 ≤ 5; omega) #[.slice none 0 0, .slice none 0 0, .slice none 0 0, .int .i64 0, .int .i64 0] (by rfl) hp ?_
   intro W_12 hp; simp only [List.set_cons_succ, List.set_cons_zero] at hp
   refine sx_rd 5 (.bool false) (by rfl) (by kernel_rfl) ?_
   refine sx_nil ?_
   refine ex_then_n ?_
   refine wp_ret ?_
   refine ex_then_r ?_
   refine sx_end (.tuple #[.agg #[.slice none 0 0, .slice none 0 0, .slice none 0 0, .int .i64 0, .int .i64 0], .bool false]) (rescT (p := 4) (u := 5) (by rfl) (by rfl) (by kernel_rfl) (by kernel_rfl) (hp.at_ 0 _ (by rfl))) ?_
   rw [if_neg (fun q => by have q2 := q.2; omega)] at h; unfold noGm at h
   simp only [Option.some.injEq, Prod.mk.injEq] at h; obtain ⟨rfl, rfl, rfl, rfl, rfl, rfl⟩ := h
   exact ⟨_, _, _, rfl, Kd.R_nil _ _ _ _ _, Kd.R_nil _ _ _ _ _, Kd.R_nil _ _ _ _ _, hc2 _ (hp.tail.tail)⟩
  ·
   have c_11p := of_decide_eq_false c_11
   refine wp_skip ?_
   refine ex_then_n ?_
   refine wp_seq ?_
   refine sx_region ?_
   refine sx_rd 20 (.agg #[.slice A0_0 l0_0.length c0_0, .slice A0_1 l0_1.length c0_1, .slice A0_2 l0_2.length c0_2, .int .i64 a0_3, .int .i64 a0_4]) (by rfl) (ldn (t := 29) (p := (.tmp 2)) (by rfl) (by rfl) (by kernel_rfl) (by kernel_rfl) (by kernel_rfl) (hp.at_ 1 _ (by rfl))) ?_
   refine sx_call 21 (by rfl) (by kernel_rfl) ((spec_plOwn.calls A0_0 c0_0 l0_0 A0_1 c0_1 l0_1 A0_2 c0_2 l0_2 a0_3 a0_4 _ _ _ _ _ _ (hC0_0 _ hp.tail.tail) hc0_0 (hC0_1 _ hp.tail.tail) hc0_1 (hC0_2 _ hp.tail.tail) hc0_2 (plOwn_eq l0_0 l0_1 l0_2 a0_3 a0_4 (by omega) (by omega) (by omega))).mono ?_)
   rintro _ W_28 ⟨v_16, v_17, v_18, rfl, hR_13, hR_14, hR_15, hb⟩
   refine ⟨_, rfl, ?_⟩
   obtain ⟨A_19, c_20, rfl, hcc_c_20, _⟩ := Kd.R_reads hR_13
   obtain ⟨A_22, c_23, rfl, hcc_c_23, _⟩ := Kd.R_reads hR_14
   obtain ⟨A_25, c_26, rfl, hcc_c_26, _⟩ := Kd.R_reads hR_15
   obtain ⟨F_21, F_24, F_27, hp⟩ : ∃ F_21 F_24 F_27, Hp w (row k59 59 w.heap.size (.slice A_19 l0_0.length c_20) l0_0 F_21 :: row k59 59 w.heap.size (.slice A_22 l0_1.length c_23) l0_1 F_24 :: row (Kd.int .i64) 3 w.heap.size (.slice A_25 l0_2.length c_26) l0_2 F_27 :: blk g_3 #[.slice none 0 0, .slice none 0 0, .slice none 0 0, .int .i64 0, .int .i64 0] 29 :: blk g_1 #[.slice A0_0 l0_0.length c0_0, .slice A0_1 l0_1.length c0_1, .slice A0_2 l0_2.length c0_2, .int .i64 a0_3, .int .i64 a0_4] 29 :: cs) _ := ⟨_, _, _, Hp.made3 hp hb rfl rfl rfl hR_13 hR_14 hR_15 (ok_apart hR_13 (fun k hk => hk)) (typed_apart hR_13 hR_15 (by decide)) (typed_apart hR_14 hR_15 (by decide))⟩
   refine sx_box 6 hp #[.slice none 0 0, .slice none 0 0, .slice none 0 0, .int .i64 0, .int .i64 0] 29 (by rfl) (fun W => by kernel_rfl) ?_
   intro g_29 W_30 hp
   refine sx_store (t := 29) (p := (.tmp 6)) (x := (.tmp 21)) (by rfl) (by rfl) 0 (by rfl) 0 [.slice A_19 l0_0.length c_20, .slice A_22 l0_1.length c_23, .slice A_25 l0_2.length c_26, .int .i64 a0_3, .int .i64 a0_4] (by rfl) (by rfl) (by kernel_rfl) (by simp [Value.oneCell']) (by show 5 ≤ 5; omega) #[.slice A_19 l0_0.length c_20, .slice A_22 l0_1.length c_23, .slice A_25 l0_2.length c_26, .int .i64 a0_3, .int .i64 a0_4] (by rfl) hp ?_
   intro W_31 hp; simp only [List.set_cons_succ, List.set_cons_zero] at hp
   refine sx_nil ?_
   refine ex_then_n ?_
   refine wp_seq ?_
   refine wp_seq ?_
   refine sx_region ?_
   refine sx_rd 22 (.slice A1 l1.length c1) (by rfl) (by kernel_rfl) ?_
   refine sx_rd 23 (.int .i64 (l1.length : Int)) (by rfl) (by kernel_rfl) ?_
   refine sx_rd 24 (.int .i64 0) (by rfl) (by kernel_rfl) ?_
   refine sx_nil ?_
   refine ex_then_n ?_
   refine wp_block ?_
   have e0_32 : l0_0 = (gs (⟨l0_0, l0_1, l0_2, a0_3, a0_4⟩ : Gm) l1 0).f := rfl
   have hp : Hp w (blk g_29 #[.slice A_19 l0_0.length c_20, .slice A_22 l0_1.length c_23, .slice A_25 l0_2.length c_26, .int .i64 a0_3, .int .i64 a0_4] 29 :: row k59 59 w.heap.size (.slice A_19 l0_0.length c_20) ((gs (⟨l0_0, l0_1, l0_2, a0_3, a0_4⟩ : Gm) l1 0).f) F_21 :: row k59 59 w.heap.size (.slice A_22 l0_1.length c_23) l0_1 F_24 :: row (Kd.int .i64) 3 w.heap.size (.slice A_25 l0_2.length c_26) l0_2 F_27 :: blk g_3 #[.slice none 0 0, .slice none 0 0, .slice none 0 0, .int .i64 0, .int .i64 0] 29 :: blk g_1 #[.slice A0_0 l0_0.length c0_0, .slice A0_1 l0_1.length c0_1, .slice A0_2 l0_2.length c0_2, .int .i64 a0_3, .int .i64 a0_4] 29 :: cs) W_31 := by rw [← e0_32]; exact hp
   have e0_33 : l0_1 = (gs (⟨l0_0, l0_1, l0_2, a0_3, a0_4⟩ : Gm) l1 0).s := rfl
   have hp : Hp w (blk g_29 #[.slice A_19 l0_0.length c_20, .slice A_22 l0_1.length c_23, .slice A_25 l0_2.length c_26, .int .i64 a0_3, .int .i64 a0_4] 29 :: row k59 59 w.heap.size (.slice A_19 l0_0.length c_20) ((gs (⟨l0_0, l0_1, l0_2, a0_3, a0_4⟩ : Gm) l1 0).f) F_21 :: row k59 59 w.heap.size (.slice A_22 l0_1.length c_23) ((gs (⟨l0_0, l0_1, l0_2, a0_3, a0_4⟩ : Gm) l1 0).s) F_24 :: row (Kd.int .i64) 3 w.heap.size (.slice A_25 l0_2.length c_26) l0_2 F_27 :: blk g_3 #[.slice none 0 0, .slice none 0 0, .slice none 0 0, .int .i64 0, .int .i64 0] 29 :: blk g_1 #[.slice A0_0 l0_0.length c0_0, .slice A0_1 l0_1.length c0_1, .slice A0_2 l0_2.length c0_2, .int .i64 a0_3, .int .i64 a0_4] 29 :: cs) W_31 := by rw [← e0_33]; exact hp
   have e0_34 : l0_2 = (gs (⟨l0_0, l0_1, l0_2, a0_3, a0_4⟩ : Gm) l1 0).r := rfl
   have hp : Hp w (blk g_29 #[.slice A_19 l0_0.length c_20, .slice A_22 l0_1.length c_23, .slice A_25 l0_2.length c_26, .int .i64 a0_3, .int .i64 a0_4] 29 :: row k59 59 w.heap.size (.slice A_19 l0_0.length c_20) ((gs (⟨l0_0, l0_1, l0_2, a0_3, a0_4⟩ : Gm) l1 0).f) F_21 :: row k59 59 w.heap.size (.slice A_22 l0_1.length c_23) ((gs (⟨l0_0, l0_1, l0_2, a0_3, a0_4⟩ : Gm) l1 0).s) F_24 :: row (Kd.int .i64) 3 w.heap.size (.slice A_25 l0_2.length c_26) ((gs (⟨l0_0, l0_1, l0_2, a0_3, a0_4⟩ : Gm) l1 0).r) F_27 :: blk g_3 #[.slice none 0 0, .slice none 0 0, .slice none 0 0, .int .i64 0, .int .i64 0] 29 :: blk g_1 #[.slice A0_0 l0_0.length c0_0, .slice A0_1 l0_1.length c0_1, .slice A0_2 l0_2.length c0_2, .int .i64 a0_3, .int .i64 a0_4] 29 :: cs) W_31 := by rw [← e0_34]; exact hp
   refine wp_loop_ghost (fun n a W => ∃ (r_ : List (Nat × Value)) (i : Nat) (Aix6x0 : Option Addr) (nix6x0 cix6x0 : Nat) (Fix6x0 : Nat → Prop) (Aix6x1 : Option Addr) (nix6x1 cix6x1 : Nat) (Fix6x1 : Nat → Prop) (Aix6x2 : Option Addr) (nix6x2 cix6x2 : Nat) (Fix6x2 : Nat → Prop), n = l1.length - i ∧ a = fr 40 ([(4, .pointer (some ⟨g_3, 0, none⟩)), (6, .pointer (some ⟨g_29, 0, none⟩)), (22, .slice A1 l1.length c1), (23, .int .i64 (l1.length : Int)), (24, .int .i64 (i : Int))] ++ r_) ∧ Hp w (row k59 59 w.heap.size (.slice Aix6x0 nix6x0 cix6x0) ((gs (⟨l0_0, l0_1, l0_2, a0_3, a0_4⟩ : Gm) l1 i).f) Fix6x0 :: row k59 59 w.heap.size (.slice Aix6x1 nix6x1 cix6x1) ((gs (⟨l0_0, l0_1, l0_2, a0_3, a0_4⟩ : Gm) l1 i).s) Fix6x1 :: row (Kd.int .i64) 3 w.heap.size (.slice Aix6x2 nix6x2 cix6x2) ((gs (⟨l0_0, l0_1, l0_2, a0_3, a0_4⟩ : Gm) l1 i).r) Fix6x2 :: blk g_29 #[.slice Aix6x0 nix6x0 cix6x0, .slice Aix6x1 nix6x1 cix6x1, .slice Aix6x2 nix6x2 cix6x2, .int .i64 ((gs (⟨l0_0, l0_1, l0_2, a0_3, a0_4⟩ : Gm) l1 i).t), .int .i64 ((gs (⟨l0_0, l0_1, l0_2, a0_3, a0_4⟩ : Gm) l1 i).p)] 29 :: blk g_3 #[.slice none 0 0, .slice none 0 0, .slice none 0 0, .int .i64 0, .int .i64 0] 29 :: blk g_1 #[.slice A0_0 l0_0.length c0_0, .slice A0_1 l0_1.length c0_1, .slice A0_2 l0_2.length c0_2, .int .i64 a0_3, .int .i64 a0_4] 29 :: cs) W ∧ (i ≤ l1.length) ∧ (allF (⟨l0_0, l0_1, l0_2, a0_3, a0_4⟩ : Gm) l1 i = true)) _ ⟨_, 0, _, _, _, _, _, _, _, _, _, _, _, _, rfl, fr_front [(4, .pointer (some ⟨g_3, 0, none⟩)), (6, .pointer (some ⟨g_29, 0, none⟩)), (22, .slice A1 l1.length c1), (23, .int .i64 (l1.length : Int)), (24, .int .i64 0)] ⟨rfl, rfl, rfl, rfl, rfl, trivial⟩, (hp.take [1, 2, 3, 0, 4, 5] 6 (by decide) (by simp)), Nat.zero_le _, rfl⟩ ?_
   rintro _ _ W_35 ⟨r_, i, Aix6x0, nix6x0, cix6x0, Fix6x0, Aix6x1, nix6x1, cix6x1, Fix6x1, Aix6x2, nix6x2, cix6x2, Fix6x2, rfl, rfl, hp, hi, hal⟩
   obtain ⟨rfl, hccix6x0⟩ := row_len (hp.at_ 0 _ (by rfl))
   obtain ⟨rfl, hccix6x1⟩ := row_len (hp.at_ 1 _ (by rfl))
   obtain ⟨rfl, hccix6x2⟩ := row_len (hp.at_ 2 _ (by rfl))
   have hoi := gs_ok hok0 l1 i
   have hrw := gs_row (⟨l0_0, l0_1, l0_2, a0_3, a0_4⟩ : Gm) l1 i
   dsimp only at hrw
   have hri : (gs (⟨l0_0, l0_1, l0_2, a0_3, a0_4⟩ : Gm) l1 i).r.length ≤ 2000000 := by omega
   have hz3 := hand_len hoi.f
   have hz4 := hand_len hoi.s
   refine wp_seq ?_
   refine sx_region ?_
   refine sx_rd 25 (.bool (decide ((i : Int) < (l1.length : Int)))) (by rfl) (by kernel_rfl) ?_
   refine sx_nil ?_
   refine ex_then_n ?_
   refine wp_seq ?_
   refine sx_cond (decide ((i : Int) < (l1.length : Int))) (by rfl) (fun c_36 => ?_) (fun c_36 => ?_)
   ·
    have c_36p := of_decide_eq_true c_36
    refine wp_skip ?_
    refine ex_then_n ?_
    refine wp_seq ?_
    refine wp_block ?_
    refine wp_seq ?_
    refine sx_region ?_
    refine sx_rd 26 (.pointer (some (adr A1 (i : Int) 1))) (by rfl) (ix_run (d := Kd.string) (hC1 _ hp.tail.tail.tail.tail.tail.tail) (t := 36) (by rfl) (by rfl) (by rfl) Tryz.underlying36 (by kernel_rfl) (by omega) (by omega)) ?_
    refine sx_rd 27 (.string (rdOf ByteArray.empty l1 (i : Int))) (by rfl) (ld1 (t := 9) (p := (.tmp 26)) (by rfl) (by rfl) (by kernel_rfl) (el_cell (d := Kd.string) (hC1 _ hp.tail.tail.tail.tail.tail.tail) ByteArray.empty (i : Int) (by omega) (by omega) (cells := [.string (rdOf ByteArray.empty l1 (i : Int))]) (fun cs h => h) 0 _ (by rfl))) ?_
    refine sx_rd 8 (.string (rdOf ByteArray.empty l1 (i : Int))) (by rfl) (by kernel_rfl) ?_
    refine sx_nil ?_
    refine ex_then_n ?_
    refine wp_seq ?_
    rcases Bool.eq_false_or_eq_true (fnd (gs (⟨l0_0, l0_1, l0_2, a0_3, a0_4⟩ : Gm) l1 i) (rdOf ByteArray.empty l1 (i : Int))) with c_37 | c_37
    ·
     refine sx_region ?_
     refine sx_rd 29 (.agg #[.slice Aix6x0 (((gs (⟨l0_0, l0_1, l0_2, a0_3, a0_4⟩ : Gm) l1 i).f).length) cix6x0, .slice Aix6x1 (((gs (⟨l0_0, l0_1, l0_2, a0_3, a0_4⟩ : Gm) l1 i).s).length) cix6x1, .slice Aix6x2 (((gs (⟨l0_0, l0_1, l0_2, a0_3, a0_4⟩ : Gm) l1 i).r).length) cix6x2, .int .i64 ((gs (⟨l0_0, l0_1, l0_2, a0_3, a0_4⟩ : Gm) l1 i).t), .int .i64 ((gs (⟨l0_0, l0_1, l0_2, a0_3, a0_4⟩ : Gm) l1 i).p)]) (by rfl) (ldn (t := 29) (p := (.tmp 6)) (by rfl) (by rfl) (by kernel_rfl) (by kernel_rfl) (by kernel_rfl) (hp.at_ 3 _ (by rfl))) ?_
     refine sx_rd 30 (.string (rdOf ByteArray.empty l1 (i : Int))) (by rfl) (by kernel_rfl) ?_
     obtain ⟨k_38, hk_k_38⟩ := Ev.rounds (plFind_t hoi hri c_37)
     refine sx_call 31 (by rfl) (by kernel_rfl) ((spec_plFind.calls k_38 Aix6x0 cix6x0 ((gs (⟨l0_0, l0_1, l0_2, a0_3, a0_4⟩ : Gm) l1 i).f) Aix6x1 cix6x1 ((gs (⟨l0_0, l0_1, l0_2, a0_3, a0_4⟩ : Gm) l1 i).s) Aix6x2 cix6x2 ((gs (⟨l0_0, l0_1, l0_2, a0_3, a0_4⟩ : Gm) l1 i).r) ((gs (⟨l0_0, l0_1, l0_2, a0_3, a0_4⟩ : Gm) l1 i).t) ((gs (⟨l0_0, l0_1, l0_2, a0_3, a0_4⟩ : Gm) l1 i).p) (rdOf ByteArray.empty l1 (i : Int)) _ _ _ _ _ _ _ (row_C (hp.at_ 0 _ (by rfl))) (row_len (hp.at_ 0 _ (by rfl))).2 (row_C (hp.at_ 1 _ (by rfl))) (row_len (hp.at_ 1 _ (by rfl))).2 (row_C (hp.at_ 2 _ (by rfl))) (row_len (hp.at_ 2 _ (by rfl))).2 hk_k_38).mono ?_)
     rintro _ W_54 ⟨v_42, v_43, v_44, rfl, hR_39, hR_40, hR_41, hb⟩
     refine ⟨_, rfl, ?_⟩
     obtain ⟨A_45, c_46, rfl, hcc_c_46, _⟩ := Kd.R_reads hR_39
     obtain ⟨A_48, c_49, rfl, hcc_c_49, _⟩ := Kd.R_reads hR_40
     obtain ⟨A_51, c_52, rfl, hcc_c_52, _⟩ := Kd.R_reads hR_41
     obtain ⟨F_47, F_50, F_53, hp⟩ : ∃ F_47 F_50 F_53, Hp w (row k59 59 w.heap.size (.slice A_45 ((stepM (gs (⟨l0_0, l0_1, l0_2, a0_3, a0_4⟩ : Gm) l1 i) (rdOf ByteArray.empty l1 (i : Int))).f).length c_46) ((stepM (gs (⟨l0_0, l0_1, l0_2, a0_3, a0_4⟩ : Gm) l1 i) (rdOf ByteArray.empty l1 (i : Int))).f) F_47 :: row k59 59 w.heap.size (.slice A_48 ((stepM (gs (⟨l0_0, l0_1, l0_2, a0_3, a0_4⟩ : Gm) l1 i) (rdOf ByteArray.empty l1 (i : Int))).s).length c_49) ((stepM (gs (⟨l0_0, l0_1, l0_2, a0_3, a0_4⟩ : Gm) l1 i) (rdOf ByteArray.empty l1 (i : Int))).s) F_50 :: row (Kd.int .i64) 3 w.heap.size (.slice A_51 ((stepM (gs (⟨l0_0, l0_1, l0_2, a0_3, a0_4⟩ : Gm) l1 i) (rdOf ByteArray.empty l1 (i : Int))).r).length c_52) ((stepM (gs (⟨l0_0, l0_1, l0_2, a0_3, a0_4⟩ : Gm) l1 i) (rdOf ByteArray.empty l1 (i : Int))).r) F_53 :: row k59 59 w.heap.size (.slice Aix6x0 (((gs (⟨l0_0, l0_1, l0_2, a0_3, a0_4⟩ : Gm) l1 i).f).length) cix6x0) ((gs (⟨l0_0, l0_1, l0_2, a0_3, a0_4⟩ : Gm) l1 i).f) Fix6x0 :: row k59 59 w.heap.size (.slice Aix6x1 (((gs (⟨l0_0, l0_1, l0_2, a0_3, a0_4⟩ : Gm) l1 i).s).length) cix6x1) ((gs (⟨l0_0, l0_1, l0_2, a0_3, a0_4⟩ : Gm) l1 i).s) Fix6x1 :: row (Kd.int .i64) 3 w.heap.size (.slice Aix6x2 (((gs (⟨l0_0, l0_1, l0_2, a0_3, a0_4⟩ : Gm) l1 i).r).length) cix6x2) ((gs (⟨l0_0, l0_1, l0_2, a0_3, a0_4⟩ : Gm) l1 i).r) Fix6x2 :: blk g_29 #[.slice Aix6x0 (((gs (⟨l0_0, l0_1, l0_2, a0_3, a0_4⟩ : Gm) l1 i).f).length) cix6x0, .slice Aix6x1 (((gs (⟨l0_0, l0_1, l0_2, a0_3, a0_4⟩ : Gm) l1 i).s).length) cix6x1, .slice Aix6x2 (((gs (⟨l0_0, l0_1, l0_2, a0_3, a0_4⟩ : Gm) l1 i).r).length) cix6x2, .int .i64 ((gs (⟨l0_0, l0_1, l0_2, a0_3, a0_4⟩ : Gm) l1 i).t), .int .i64 ((gs (⟨l0_0, l0_1, l0_2, a0_3, a0_4⟩ : Gm) l1 i).p)] 29 :: blk g_3 #[.slice none 0 0, .slice none 0 0, .slice none 0 0, .int .i64 0, .int .i64 0] 29 :: blk g_1 #[.slice A0_0 l0_0.length c0_0, .slice A0_1 l0_1.length c0_1, .slice A0_2 l0_2.length c0_2, .int .i64 a0_3, .int .i64 a0_4] 29 :: cs) _ := ⟨_, _, _, Hp.made3 hp hb rfl rfl rfl hR_39 hR_40 hR_41 (ok_apart hR_39 (fun k hk => hk)) (typed_apart hR_39 hR_41 (by decide)) (typed_apart hR_40 hR_41 (by decide))⟩
     refine sx_rd 28 (.tuple #[.agg #[.slice A_45 (((stepM (gs (⟨l0_0, l0_1, l0_2, a0_3, a0_4⟩ : Gm) l1 i) (rdOf ByteArray.empty l1 (i : Int))).f).length) c_46, .slice A_48 (((stepM (gs (⟨l0_0, l0_1, l0_2, a0_3, a0_4⟩ : Gm) l1 i) (rdOf ByteArray.empty l1 (i : Int))).s).length) c_49, .slice A_51 (((stepM (gs (⟨l0_0, l0_1, l0_2, a0_3, a0_4⟩ : Gm) l1 i) (rdOf ByteArray.empty l1 (i : Int))).r).length) c_52, .int .i64 ((stepM (gs (⟨l0_0, l0_1, l0_2, a0_3, a0_4⟩ : Gm) l1 i) (rdOf ByteArray.empty l1 (i : Int))).t), .int .i64 ((stepM (gs (⟨l0_0, l0_1, l0_2, a0_3, a0_4⟩ : Gm) l1 i) (rdOf ByteArray.empty l1 (i : Int))).p)], .bool true]) (by rfl) (by kernel_rfl) ?_
     refine sx_rd 32 (.agg #[.slice A_45 (((stepM (gs (⟨l0_0, l0_1, l0_2, a0_3, a0_4⟩ : Gm) l1 i) (rdOf ByteArray.empty l1 (i : Int))).f).length) c_46, .slice A_48 (((stepM (gs (⟨l0_0, l0_1, l0_2, a0_3, a0_4⟩ : Gm) l1 i) (rdOf ByteArray.empty l1 (i : Int))).s).length) c_49, .slice A_51 (((stepM (gs (⟨l0_0, l0_1, l0_2, a0_3, a0_4⟩ : Gm) l1 i) (rdOf ByteArray.empty l1 (i : Int))).r).length) c_52, .int .i64 ((stepM (gs (⟨l0_0, l0_1, l0_2, a0_3, a0_4⟩ : Gm) l1 i) (rdOf ByteArray.empty l1 (i : Int))).t), .int .i64 ((stepM (gs (⟨l0_0, l0_1, l0_2, a0_3, a0_4⟩ : Gm) l1 i) (rdOf ByteArray.empty l1 (i : Int))).p)]) (by rfl) (by kernel_rfl) ?_
     refine sx_rd 33 (.bool true) (by rfl) (by kernel_rfl) ?_
     refine sx_box 9 hp #[.slice none 0 0, .slice none 0 0, .slice none 0 0, .int .i64 0, .int .i64 0] 29 (by rfl) (fun W => by kernel_rfl) ?_
     intro g_55 W_56 hp
     refine sx_store (t := 29) (p := (.tmp 9)) (x := (.tmp 32)) (by rfl) (by rfl) 0 (by rfl) 0 [.slice A_45 (((stepM (gs (⟨l0_0, l0_1, l0_2, a0_3, a0_4⟩ : Gm) l1 i) (rdOf ByteArray.empty l1 (i : Int))).f).length) c_46, .slice A_48 (((stepM (gs (⟨l0_0, l0_1, l0_2, a0_3, a0_4⟩ : Gm) l1 i) (rdOf ByteArray.empty l1 (i : Int))).s).length) c_49, .slice A_51 (((stepM (gs (⟨l0_0, l0_1, l0_2, a0_3, a0_4⟩ : Gm) l1 i) (rdOf ByteArray.empty l1 (i : Int))).r).length) c_52, .int .i64 ((stepM (gs (⟨l0_0, l0_1, l0_2, a0_3, a0_4⟩ : Gm) l1 i) (rdOf ByteArray.empty l1 (i : Int))).t), .int .i64 ((stepM (gs (⟨l0_0, l0_1, l0_2, a0_3, a0_4⟩ : Gm) l1 i) (rdOf ByteArray.empty l1 (i : Int))).p)] (by rfl) (by rfl) (by kernel_rfl) (by simp [Value.oneCell']) (by show 5 ≤ 5; omega) #[.slice A_45 (((stepM (gs (⟨l0_0, l0_1, l0_2, a0_3, a0_4⟩ : Gm) l1 i) (rdOf ByteArray.empty l1 (i : Int))).f).length) c_46, .slice A_48 (((stepM (gs (⟨l0_0, l0_1, l0_2, a0_3, a0_4⟩ : Gm) l1 i) (rdOf ByteArray.empty l1 (i : Int))).s).length) c_49, .slice A_51 (((stepM (gs (⟨l0_0, l0_1, l0_2, a0_3, a0_4⟩ : Gm) l1 i) (rdOf ByteArray.empty l1 (i : Int))).r).length) c_52, .int .i64 ((stepM (gs (⟨l0_0, l0_1, l0_2, a0_3, a0_4⟩ : Gm) l1 i) (rdOf ByteArray.empty l1 (i : Int))).t), .int .i64 ((stepM (gs (⟨l0_0, l0_1, l0_2, a0_3, a0_4⟩ : Gm) l1 i) (rdOf ByteArray.empty l1 (i : Int))).p)] (by rfl) hp ?_
     intro W_57 hp; simp only [List.set_cons_succ, List.set_cons_zero] at hp
     refine sx_rd 10 (.bool true) (by rfl) (by kernel_rfl) ?_
     refine sx_nil ?_
     refine ex_then_n ?_
     refine wp_seq ?_
     refine wp_seq ?_
     refine sx_region ?_
     refine sx_rd 34 (.bool true) (by rfl) (by kernel_rfl) ?_
     refine sx_rd 35 (.bool false) (by rfl) (by kernel_rfl) ?_
     refine sx_nil ?_
     refine ex_then_n ?_
     refine sx_else false (by rfl) rfl ?_
     refine wp_skip ?_
     refine ex_then_n ?_
     refine sx_region ?_
     refine sx_rd 37 (.agg #[.slice A_45 (((stepM (gs (⟨l0_0, l0_1, l0_2, a0_3, a0_4⟩ : Gm) l1 i) (rdOf ByteArray.empty l1 (i : Int))).f).length) c_46, .slice A_48 (((stepM (gs (⟨l0_0, l0_1, l0_2, a0_3, a0_4⟩ : Gm) l1 i) (rdOf ByteArray.empty l1 (i : Int))).s).length) c_49, .slice A_51 (((stepM (gs (⟨l0_0, l0_1, l0_2, a0_3, a0_4⟩ : Gm) l1 i) (rdOf ByteArray.empty l1 (i : Int))).r).length) c_52, .int .i64 ((stepM (gs (⟨l0_0, l0_1, l0_2, a0_3, a0_4⟩ : Gm) l1 i) (rdOf ByteArray.empty l1 (i : Int))).t), .int .i64 ((stepM (gs (⟨l0_0, l0_1, l0_2, a0_3, a0_4⟩ : Gm) l1 i) (rdOf ByteArray.empty l1 (i : Int))).p)]) (by rfl) (ldn (t := 29) (p := (.tmp 9)) (by rfl) (by rfl) (by kernel_rfl) (by kernel_rfl) (by kernel_rfl) (hp.at_ 0 _ (by rfl))) ?_
     refine sx_store (t := 29) (p := (.tmp 6)) (x := (.tmp 37)) (by rfl) (by rfl) 7 (by rfl) 0 [.slice A_45 (((stepM (gs (⟨l0_0, l0_1, l0_2, a0_3, a0_4⟩ : Gm) l1 i) (rdOf ByteArray.empty l1 (i : Int))).f).length) c_46, .slice A_48 (((stepM (gs (⟨l0_0, l0_1, l0_2, a0_3, a0_4⟩ : Gm) l1 i) (rdOf ByteArray.empty l1 (i : Int))).s).length) c_49, .slice A_51 (((stepM (gs (⟨l0_0, l0_1, l0_2, a0_3, a0_4⟩ : Gm) l1 i) (rdOf ByteArray.empty l1 (i : Int))).r).length) c_52, .int .i64 ((stepM (gs (⟨l0_0, l0_1, l0_2, a0_3, a0_4⟩ : Gm) l1 i) (rdOf ByteArray.empty l1 (i : Int))).t), .int .i64 ((stepM (gs (⟨l0_0, l0_1, l0_2, a0_3, a0_4⟩ : Gm) l1 i) (rdOf ByteArray.empty l1 (i : Int))).p)] (by rfl) (by rfl) (by kernel_rfl) (by simp [Value.oneCell']) (by show 5 ≤ 5; omega) #[.slice A_45 (((stepM (gs (⟨l0_0, l0_1, l0_2, a0_3, a0_4⟩ : Gm) l1 i) (rdOf ByteArray.empty l1 (i : Int))).f).length) c_46, .slice A_48 (((stepM (gs (⟨l0_0, l0_1, l0_2, a0_3, a0_4⟩ : Gm) l1 i) (rdOf ByteArray.empty l1 (i : Int))).s).length) c_49, .slice A_51 (((stepM (gs (⟨l0_0, l0_1, l0_2, a0_3, a0_4⟩ : Gm) l1 i) (rdOf ByteArray.empty l1 (i : Int))).r).length) c_52, .int .i64 ((stepM (gs (⟨l0_0, l0_1, l0_2, a0_3, a0_4⟩ : Gm) l1 i) (rdOf ByteArray.empty l1 (i : Int))).t), .int .i64 ((stepM (gs (⟨l0_0, l0_1, l0_2, a0_3, a0_4⟩ : Gm) l1 i) (rdOf ByteArray.empty l1 (i : Int))).p)] (by rfl) hp ?_
     intro W_58 hp; simp only [List.set_cons_succ, List.set_cons_zero] at hp
     refine sx_nil ?_
     refine ex_blk_n ?_
     refine ex_then_n ?_
     refine sx_region ?_
     refine sx_rd 38 (.int .i64 ((i : Int) + 1)) (by rfl) (wr_ok (by omega) (by kernel_rfl)) ?_
     refine sx_rd 24 (.int .i64 ((i : Int) + 1)) (by rfl) (by kernel_rfl) ?_
     refine sx_nil ?_
     refine ex_then_n ?_
     have hq_59 : (stepM (gs (⟨l0_0, l0_1, l0_2, a0_3, a0_4⟩ : Gm) l1 i) (rdOf ByteArray.empty l1 (i : Int))).f = (gs (⟨l0_0, l0_1, l0_2, a0_3, a0_4⟩ : Gm) l1 (i + 1)).f := rfl
     rw [hq_59] at hp
     have hq_60 : (stepM (gs (⟨l0_0, l0_1, l0_2, a0_3, a0_4⟩ : Gm) l1 i) (rdOf ByteArray.empty l1 (i : Int))).s = (gs (⟨l0_0, l0_1, l0_2, a0_3, a0_4⟩ : Gm) l1 (i + 1)).s := rfl
     rw [hq_60] at hp
     have hq_61 : (stepM (gs (⟨l0_0, l0_1, l0_2, a0_3, a0_4⟩ : Gm) l1 i) (rdOf ByteArray.empty l1 (i : Int))).r = (gs (⟨l0_0, l0_1, l0_2, a0_3, a0_4⟩ : Gm) l1 (i + 1)).r := rfl
     rw [hq_61] at hp
     have hq_62 : (stepM (gs (⟨l0_0, l0_1, l0_2, a0_3, a0_4⟩ : Gm) l1 i) (rdOf ByteArray.empty l1 (i : Int))).t = (gs (⟨l0_0, l0_1, l0_2, a0_3, a0_4⟩ : Gm) l1 (i + 1)).t := rfl
     rw [hq_62] at hp
     have hq_63 : (stepM (gs (⟨l0_0, l0_1, l0_2, a0_3, a0_4⟩ : Gm) l1 i) (rdOf ByteArray.empty l1 (i : Int))).p = (gs (⟨l0_0, l0_1, l0_2, a0_3, a0_4⟩ : Gm) l1 (i + 1)).p := rfl
     rw [hq_63] at hp
     exact ⟨_, (by omega), _, (i + 1), _, _, _, _, _, _, _, _, _, _, _, _, rfl, fr_front [(4, .pointer (some ⟨g_3, 0, none⟩)), (6, .pointer (some ⟨g_29, 0, none⟩)), (22, .slice A1 l1.length c1), (23, .int .i64 (l1.length : Int)), (24, .int .i64 ((i + 1 : Nat) : Int))] ⟨rfl, rfl, rfl, rfl, rfl, trivial⟩, (hp.take [1, 2, 3, 7, 8, 9] 10 (by decide) (by simp)), (by omega), (allF_next hal c_37)⟩
    ·
     refine sx_region ?_
     refine sx_rd 29 (.agg #[.slice Aix6x0 (((gs (⟨l0_0, l0_1, l0_2, a0_3, a0_4⟩ : Gm) l1 i).f).length) cix6x0, .slice Aix6x1 (((gs (⟨l0_0, l0_1, l0_2, a0_3, a0_4⟩ : Gm) l1 i).s).length) cix6x1, .slice Aix6x2 (((gs (⟨l0_0, l0_1, l0_2, a0_3, a0_4⟩ : Gm) l1 i).r).length) cix6x2, .int .i64 ((gs (⟨l0_0, l0_1, l0_2, a0_3, a0_4⟩ : Gm) l1 i).t), .int .i64 ((gs (⟨l0_0, l0_1, l0_2, a0_3, a0_4⟩ : Gm) l1 i).p)]) (by rfl) (ldn (t := 29) (p := (.tmp 6)) (by rfl) (by rfl) (by kernel_rfl) (by kernel_rfl) (by kernel_rfl) (hp.at_ 3 _ (by rfl))) ?_
     refine sx_rd 30 (.string (rdOf ByteArray.empty l1 (i : Int))) (by rfl) (by kernel_rfl) ?_
     obtain ⟨k_64, hk_k_64⟩ := Ev.rounds (plFind_n hoi hri c_37)
     refine sx_call 31 (by rfl) (by kernel_rfl) ((spec_plFind.calls k_64 Aix6x0 cix6x0 ((gs (⟨l0_0, l0_1, l0_2, a0_3, a0_4⟩ : Gm) l1 i).f) Aix6x1 cix6x1 ((gs (⟨l0_0, l0_1, l0_2, a0_3, a0_4⟩ : Gm) l1 i).s) Aix6x2 cix6x2 ((gs (⟨l0_0, l0_1, l0_2, a0_3, a0_4⟩ : Gm) l1 i).r) ((gs (⟨l0_0, l0_1, l0_2, a0_3, a0_4⟩ : Gm) l1 i).t) ((gs (⟨l0_0, l0_1, l0_2, a0_3, a0_4⟩ : Gm) l1 i).p) (rdOf ByteArray.empty l1 (i : Int)) _ _ _ _ _ _ _ (row_C (hp.at_ 0 _ (by rfl))) (row_len (hp.at_ 0 _ (by rfl))).2 (row_C (hp.at_ 1 _ (by rfl))) (row_len (hp.at_ 1 _ (by rfl))).2 (row_C (hp.at_ 2 _ (by rfl))) (row_len (hp.at_ 2 _ (by rfl))).2 hk_k_64).mono ?_)
     rintro _ W_80 ⟨v_68, v_69, v_70, rfl, hR_65, hR_66, hR_67, hb⟩
     refine ⟨_, rfl, ?_⟩
     obtain ⟨A_71, c_72, rfl, hcc_c_72, _⟩ := Kd.R_reads hR_65
     obtain ⟨A_74, c_75, rfl, hcc_c_75, _⟩ := Kd.R_reads hR_66
     obtain ⟨A_77, c_78, rfl, hcc_c_78, _⟩ := Kd.R_reads hR_67
     obtain ⟨F_73, F_76, F_79, hp⟩ : ∃ F_73 F_76 F_79, Hp w (row k59 59 w.heap.size (.slice A_71 ([] : List S_Tile).length c_72) ([] : List S_Tile) F_73 :: row k59 59 w.heap.size (.slice A_74 ([] : List S_Tile).length c_75) ([] : List S_Tile) F_76 :: row (Kd.int .i64) 3 w.heap.size (.slice A_77 ([] : List Int).length c_78) ([] : List Int) F_79 :: row k59 59 w.heap.size (.slice Aix6x0 (((gs (⟨l0_0, l0_1, l0_2, a0_3, a0_4⟩ : Gm) l1 i).f).length) cix6x0) ((gs (⟨l0_0, l0_1, l0_2, a0_3, a0_4⟩ : Gm) l1 i).f) Fix6x0 :: row k59 59 w.heap.size (.slice Aix6x1 (((gs (⟨l0_0, l0_1, l0_2, a0_3, a0_4⟩ : Gm) l1 i).s).length) cix6x1) ((gs (⟨l0_0, l0_1, l0_2, a0_3, a0_4⟩ : Gm) l1 i).s) Fix6x1 :: row (Kd.int .i64) 3 w.heap.size (.slice Aix6x2 (((gs (⟨l0_0, l0_1, l0_2, a0_3, a0_4⟩ : Gm) l1 i).r).length) cix6x2) ((gs (⟨l0_0, l0_1, l0_2, a0_3, a0_4⟩ : Gm) l1 i).r) Fix6x2 :: blk g_29 #[.slice Aix6x0 (((gs (⟨l0_0, l0_1, l0_2, a0_3, a0_4⟩ : Gm) l1 i).f).length) cix6x0, .slice Aix6x1 (((gs (⟨l0_0, l0_1, l0_2, a0_3, a0_4⟩ : Gm) l1 i).s).length) cix6x1, .slice Aix6x2 (((gs (⟨l0_0, l0_1, l0_2, a0_3, a0_4⟩ : Gm) l1 i).r).length) cix6x2, .int .i64 ((gs (⟨l0_0, l0_1, l0_2, a0_3, a0_4⟩ : Gm) l1 i).t), .int .i64 ((gs (⟨l0_0, l0_1, l0_2, a0_3, a0_4⟩ : Gm) l1 i).p)] 29 :: blk g_3 #[.slice none 0 0, .slice none 0 0, .slice none 0 0, .int .i64 0, .int .i64 0] 29 :: blk g_1 #[.slice A0_0 l0_0.length c0_0, .slice A0_1 l0_1.length c0_1, .slice A0_2 l0_2.length c0_2, .int .i64 a0_3, .int .i64 a0_4] 29 :: cs) _ := ⟨_, _, _, Hp.made3 hp hb rfl rfl rfl hR_65 hR_66 hR_67 (ok_apart hR_65 (fun k hk => hk)) (typed_apart hR_65 hR_67 (by decide)) (typed_apart hR_66 hR_67 (by decide))⟩
     refine sx_rd 28 (.tuple #[.agg #[.slice A_71 (([] : List S_Tile).length) c_72, .slice A_74 (([] : List S_Tile).length) c_75, .slice A_77 (([] : List Int).length) c_78, .int .i64 0, .int .i64 0], .bool false]) (by rfl) (by kernel_rfl) ?_
     refine sx_rd 32 (.agg #[.slice A_71 (([] : List S_Tile).length) c_72, .slice A_74 (([] : List S_Tile).length) c_75, .slice A_77 (([] : List Int).length) c_78, .int .i64 0, .int .i64 0]) (by rfl) (by kernel_rfl) ?_
     refine sx_rd 33 (.bool false) (by rfl) (by kernel_rfl) ?_
     refine sx_box 9 hp #[.slice none 0 0, .slice none 0 0, .slice none 0 0, .int .i64 0, .int .i64 0] 29 (by rfl) (fun W => by kernel_rfl) ?_
     intro g_81 W_82 hp
     refine sx_store (t := 29) (p := (.tmp 9)) (x := (.tmp 32)) (by rfl) (by rfl) 0 (by rfl) 0 [.slice A_71 (([] : List S_Tile).length) c_72, .slice A_74 (([] : List S_Tile).length) c_75, .slice A_77 (([] : List Int).length) c_78, .int .i64 0, .int .i64 0] (by rfl) (by rfl) (by kernel_rfl) (by simp [Value.oneCell']) (by show 5 ≤ 5; omega) #[.slice A_71 (([] : List S_Tile).length) c_72, .slice A_74 (([] : List S_Tile).length) c_75, .slice A_77 (([] : List Int).length) c_78, .int .i64 0, .int .i64 0] (by rfl) hp ?_
     intro W_83 hp; simp only [List.set_cons_succ, List.set_cons_zero] at hp
     refine sx_rd 10 (.bool false) (by rfl) (by kernel_rfl) ?_
     refine sx_nil ?_
     refine ex_then_n ?_
     refine wp_seq ?_
     refine wp_seq ?_
     refine sx_region ?_
     refine sx_rd 34 (.bool false) (by rfl) (by kernel_rfl) ?_
     refine sx_rd 35 (.bool true) (by rfl) (by kernel_rfl) ?_
     refine sx_nil ?_
     refine ex_then_n ?_
     refine sx_then true (by rfl) rfl ?_
     refine wp_seq ?_
     refine sx_region ?_
     refine sx_rd 36 (.agg #[.slice none 0 0, .slice none 0 0, .slice none 0 0, .int .i64 0, .int .i64 0]) (by rfl) (by kernel_rfl) ?_
     refine sx_store (t := 29) (p := (.tmp 4)) (x := (.tmp 36)) (by rfl) (by rfl) 8 (by rfl) 0 [.slice none 0 0, .slice none 0 0, .slice none 0 0, .int .i64 0, .int .i64 0] (by rfl) (by rfl) (by kernel_rfl) (by simp [Value.oneCell']) (by show 5 ≤ 5; omega) #[.slice none 0 0, .slice none 0 0, .slice none 0 0, .int .i64 0, .int .i64 0] (by rfl) hp ?_
     intro W_84 hp; simp only [List.set_cons_succ, List.set_cons_zero] at hp
     refine sx_rd 5 (.bool false) (by rfl) (by kernel_rfl) ?_
     refine sx_nil ?_
     refine ex_then_n ?_
     refine wp_ret ?_
     refine ex_then_r (ex_blk_r (ex_then_r (ex_then_r (ex_blk_r (ex_then_r ?_)))))
     refine sx_end (.tuple #[.agg #[.slice none 0 0, .slice none 0 0, .slice none 0 0, .int .i64 0, .int .i64 0], .bool false]) (rescT (p := 4) (u := 5) (by rfl) (by rfl) (by kernel_rfl) (by kernel_rfl) (hp.at_ 8 _ (by rfl))) ?_
     rw [if_pos ⟨hgB, by omega⟩] at h; unfold resPlay at h; rw [if_neg (by rw [allF_fail (i := i) c_37 l1.length (by omega)]; simp)] at h; unfold noGm at h
     simp only [Option.some.injEq, Prod.mk.injEq] at h; obtain ⟨rfl, rfl, rfl, rfl, rfl, rfl⟩ := h
     exact ⟨_, _, _, rfl, Kd.R_nil _ _ _ _ _, Kd.R_nil _ _ _ _ _, Kd.R_nil _ _ _ _ _, hc2 _ (hp.tail.tail.tail.tail.tail.tail.tail.tail.tail.tail)⟩
   ·
    have c_36p := of_decide_eq_false c_36
    refine wp_exit ?_
    refine ex_then_e (ex_then_e (ex_blk_here ?_))
    refine ex_then_n ?_
    refine wp_seq ?_
    refine sx_region ?_
    refine sx_rd 39 (.agg #[.slice Aix6x0 (((gs (⟨l0_0, l0_1, l0_2, a0_3, a0_4⟩ : Gm) l1 i).f).length) cix6x0, .slice Aix6x1 (((gs (⟨l0_0, l0_1, l0_2, a0_3, a0_4⟩ : Gm) l1 i).s).length) cix6x1, .slice Aix6x2 (((gs (⟨l0_0, l0_1, l0_2, a0_3, a0_4⟩ : Gm) l1 i).r).length) cix6x2, .int .i64 ((gs (⟨l0_0, l0_1, l0_2, a0_3, a0_4⟩ : Gm) l1 i).t), .int .i64 ((gs (⟨l0_0, l0_1, l0_2, a0_3, a0_4⟩ : Gm) l1 i).p)]) (by rfl) (ldn (t := 29) (p := (.tmp 6)) (by rfl) (by rfl) (by kernel_rfl) (by kernel_rfl) (by kernel_rfl) (hp.at_ 3 _ (by rfl))) ?_
    refine sx_store (t := 29) (p := (.tmp 4)) (x := (.tmp 39)) (by rfl) (by rfl) 4 (by rfl) 0 [.slice Aix6x0 (((gs (⟨l0_0, l0_1, l0_2, a0_3, a0_4⟩ : Gm) l1 i).f).length) cix6x0, .slice Aix6x1 (((gs (⟨l0_0, l0_1, l0_2, a0_3, a0_4⟩ : Gm) l1 i).s).length) cix6x1, .slice Aix6x2 (((gs (⟨l0_0, l0_1, l0_2, a0_3, a0_4⟩ : Gm) l1 i).r).length) cix6x2, .int .i64 ((gs (⟨l0_0, l0_1, l0_2, a0_3, a0_4⟩ : Gm) l1 i).t), .int .i64 ((gs (⟨l0_0, l0_1, l0_2, a0_3, a0_4⟩ : Gm) l1 i).p)] (by rfl) (by rfl) (by kernel_rfl) (by simp [Value.oneCell']) (by show 5 ≤ 5; omega) #[.slice Aix6x0 (((gs (⟨l0_0, l0_1, l0_2, a0_3, a0_4⟩ : Gm) l1 i).f).length) cix6x0, .slice Aix6x1 (((gs (⟨l0_0, l0_1, l0_2, a0_3, a0_4⟩ : Gm) l1 i).s).length) cix6x1, .slice Aix6x2 (((gs (⟨l0_0, l0_1, l0_2, a0_3, a0_4⟩ : Gm) l1 i).r).length) cix6x2, .int .i64 ((gs (⟨l0_0, l0_1, l0_2, a0_3, a0_4⟩ : Gm) l1 i).t), .int .i64 ((gs (⟨l0_0, l0_1, l0_2, a0_3, a0_4⟩ : Gm) l1 i).p)] (by rfl) hp ?_
    intro W_85 hp; simp only [List.set_cons_succ, List.set_cons_zero] at hp
    refine sx_rd 5 (.bool true) (by rfl) (by kernel_rfl) ?_
    refine sx_nil ?_
    refine ex_then_n ?_
    refine wp_ret ?_
    refine sx_end (.tuple #[.agg #[.slice Aix6x0 (((gs (⟨l0_0, l0_1, l0_2, a0_3, a0_4⟩ : Gm) l1 i).f).length) cix6x0, .slice Aix6x1 (((gs (⟨l0_0, l0_1, l0_2, a0_3, a0_4⟩ : Gm) l1 i).s).length) cix6x1, .slice Aix6x2 (((gs (⟨l0_0, l0_1, l0_2, a0_3, a0_4⟩ : Gm) l1 i).r).length) cix6x2, .int .i64 ((gs (⟨l0_0, l0_1, l0_2, a0_3, a0_4⟩ : Gm) l1 i).t), .int .i64 ((gs (⟨l0_0, l0_1, l0_2, a0_3, a0_4⟩ : Gm) l1 i).p)], .bool true]) (rescT (p := 4) (u := 5) (by rfl) (by rfl) (by kernel_rfl) (by kernel_rfl) (hp.at_ 4 _ (by rfl))) ?_
    obtain rfl : i = l1.length := by omega
    rw [if_pos ⟨hgB, by omega⟩] at h; unfold resPlay at h; rw [if_pos hal] at h; unfold Gm.out at h
    simp only [Option.some.injEq, Prod.mk.injEq] at h; obtain ⟨rfl, rfl, rfl, rfl, rfl, rfl⟩ := h
    exact ⟨_, _, _, rfl, Kd.R_mono (row_R (hp.at_ 0 _ (by rfl))) (fun k_ hk_ => Hp.apart_rows hp 0 1 (by decide) (by rfl) (by rfl) k_ hk_), Kd.R_mono (row_R (hp.at_ 1 _ (by rfl))) (fun k_ hk_ => Hp.apart_rows hp 1 0 (by decide) (by rfl) (by rfl) k_ hk_), Kd.R_mono (row_R (hp.at_ 2 _ (by rfl))) (fun _ _ => trivial), hc2 _ (hp.tail.tail.tail.tail.tail.tail)⟩
end Go.Proofs.YtkjaahmlnbgnjaaGreat.Hd
