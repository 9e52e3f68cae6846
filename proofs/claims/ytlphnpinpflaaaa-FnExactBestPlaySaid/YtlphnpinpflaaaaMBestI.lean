/- impl.BestPlay, by hand. -/
import Derived.Test.YtlphnpinpflaaaaPBestI
import Derived.Test.YtlphnpinpflaaaaMSx2
namespace Go.Proofs.Ytlphnpinpflaaaa.Hd
open Go.RowKit Go.Proofs.Ytlphnpinpflaaaa.Pure Go.Proofs.YtlphnpinpflaaaaW.PrintWords Go.Proofs.YtlphnpinpflaaaaW.PrintLast Go.Proofs.YtlphnpinpflaaaaW.PrintMore
set_option linter.unusedVariables false
set_option linter.unusedSimpArgs false
def impl_BestPlay.f (l : List S_Play) (hand : List S_Tile) : Option (Int × Int × Int × Int × Bool) := if l.length ≤ 1048576 ∧ hand.length ≤ 1048576 then (if (bestOn l hand (resPlaysFor l hand).1.length).2 < 0 then some (0, 0, 0, 0, false) else some ((bestOn l hand (resPlaysFor l hand).1.length).1.f0.f0, (bestOn l hand (resPlaysFor l hand).1.length).1.f0.f1, (bestOn l hand (resPlaysFor l hand).1.length).1.f1, (bestOn l hand (resPlaysFor l hand).1.length).2, true)) else none
set_option maxRecDepth 100000 in
set_option maxHeartbeats 40000000 in
theorem impl_BestPlay.calls (A0 : Option Addr) (c0 : Nat) (l0 : List S_Play) (A1 : Option Addr) (c1 : Nat) (l1 : List S_Tile) (r0 : Int) (r1 : Int) (r2 : Int) (r3 : Int) (r4 : Bool) (w : World) (hr0 : Kd.C k53 w A0 l0.length l0) (hc0 : l0.length ≤ c0) (hr1 : Kd.C k51 w A1 l1.length l1) (hc1 : l1.length ≤ c1) (h : impl_BestPlay.f l0 l1 = some (r0, r1, r2, r3, r4)) :
    Calls Try.prog 40 #[.slice A0 l0.length c0, .slice A1 l1.length c1] w fun e w' => e = .returned (.tuple #[.agg #[.int .i64 r0, .int .i64 r1, .int .i64 r2], .int .i64 r3, .bool r4]) ∧ Below w.heap.size w w' := by
  unfold impl_BestPlay.f at h
  by_cases hsz : l0.length ≤ 1048576 ∧ l1.length ≤ 1048576
  case neg => rw [if_neg hsz] at h; cases h
  rw [if_pos hsz] at h
  obtain ⟨hlen, hlen1⟩ := hsz
  obtain ⟨cs, hcs⟩ : ∃ cs, cs = [old w w.heap.size] := ⟨_, rfl⟩
  have hp : Hp w cs w := by rw [hcs]; exact Hp.old_start w
  have hc2 : ∀ W, Hp w cs W → Below w.heap.size w W := fun W h => by rw [hcs] at h; exact h.since 0 _ rfl
  have hC0 : ∀ W, Hp w cs W → Kd.C k53 W A0 l0.length l0 := fun W h => Kd.C_below hr0 (hc2 W h)
  have hC1 : ∀ W, Hp w cs W → Kd.C k51 W A1 l1.length l1 := fun W h => Kd.C_below hr1 (hc2 W h)
  clear hcs
  refine sx_enter (N := 51) (l := [.slice A0 l0.length c0, .slice A1 l1.length c1]) Try.func40 rfl rfl rfl ?_
  refine wp_seq ?_
  refine sx_region ?_
  refine sx_box 4 hp #[.int .i64 0, .int .i64 0, .int .i64 0] 53 (by rfl) (fun W => by kernel_rfl) ?_
  intro g_1 W_2 hp
  refine sx_rd 5 (.int .i64 0) (by rfl) (by kernel_rfl) ?_
  refine sx_rd 6 (.bool false) (by rfl) (by kernel_rfl) ?_
  refine sx_nil ?_
  refine ex_then_n ?_
  refine wp_seq ?_
  refine sx_region ?_
  refine sx_rd 17 (.slice A0 l0.length c0) (by rfl) (by kernel_rfl) ?_
  refine sx_rd 18 (.slice A1 l1.length c1) (by rfl) (by kernel_rfl) ?_
  obtain ⟨k_3, hk_k_3⟩ := Ev.rounds (implPlaysFor_ev l0 l1 hlen hlen1)
  refine sx_call 19 (by rfl) (by kernel_rfl) ((impl_PlaysFor.calls k_3 A0 c0 l0 A1 c1 l1 _ _ _ (hC0 _ hp.tail) hc0 (hC1 _ hp.tail) hc1 hk_k_3).mono ?_)
  rintro _ W_9 ⟨v_5, rfl, hR_4, hb⟩
  refine ⟨_, rfl, ?_⟩
  obtain ⟨A_6, c_7, rfl, hcc_c_7, _⟩ := Kd.R_reads hR_4
  obtain ⟨F_8, hp⟩ : ∃ F, Hp w (row k53 53 w.heap.size (.slice A_6 ((resPlaysFor l0 l1).1).length c_7) ((resPlaysFor l0 l1).1) F :: blk g_1 #[.int .i64 0, .int .i64 0, .int .i64 0] 53 :: cs) _ := ⟨_, Hp.made hp hb hR_4⟩
  refine sx_rd 16 (.tuple #[.slice A_6 (((resPlaysFor l0 l1).1).length) c_7, .bool ((resPlaysFor l0 l1).2)]) (by rfl) (by kernel_rfl) ?_
  refine sx_rd 20 (.slice A_6 (((resPlaysFor l0 l1).1).length) c_7) (by rfl) (by kernel_rfl) ?_
  refine sx_rd 21 (.bool ((resPlaysFor l0 l1).2)) (by rfl) (by kernel_rfl) ?_
  refine sx_rd 7 (.slice A_6 (((resPlaysFor l0 l1).1).length) c_7) (by rfl) (by kernel_rfl) ?_
  refine sx_rd 8 (.bool ((resPlaysFor l0 l1).2)) (by rfl) (by kernel_rfl) ?_
  refine sx_nil ?_
  refine ex_then_n ?_
  refine wp_seq ?_
  refine sx_region ?_
  refine sx_rd 22 (.agg #[.int .i64 0, .int .i64 0, .int .i64 0]) (by rfl) (by kernel_rfl) ?_
  refine sx_box 9 hp #[.int .i64 0, .int .i64 0, .int .i64 0] 53 (by rfl) (fun W => by kernel_rfl) ?_
  intro g_10 W_11 hp
  refine sx_store (t := 53) (p := (.tmp 9)) (x := (.tmp 22)) (by rfl) (by rfl) 0 (by rfl) 0 [.int .i64 0, .int .i64 0, .int .i64 0] (by rfl) (by rfl) (by kernel_rfl) (by simp [Value.oneCell']) (by show 3 ≤ 3; omega) #[.int .i64 0, .int .i64 0, .int .i64 0] (by rfl) hp ?_
  intro W_12 hp; simp only [List.set_cons_succ, List.set_cons_zero] at hp
  refine sx_rd 10 (.int .i64 (-1)) (by rfl) (by kernel_rfl) ?_
  refine sx_nil ?_
  refine ex_then_n ?_
  refine wp_seq ?_
  refine wp_seq ?_
  refine sx_region ?_
  refine sx_rd 23 (.slice A_6 (((resPlaysFor l0 l1).1).length) c_7) (by rfl) (by kernel_rfl) ?_
  refine sx_rd 24 (.int .i64 (((resPlaysFor l0 l1).1).length : Int)) (by rfl) (by kernel_rfl) ?_
  refine sx_rd 25 (.int .i64 0) (by rfl) (by kernel_rfl) ?_
  refine sx_nil ?_
  refine ex_then_n ?_
  refine wp_block ?_
  have hrl := resPlaysFor_len l0 l1
  refine wp_loop_ghost (fun n a W => ∃ (r : List (Nat × Value)) (i : Nat) , n = (resPlaysFor l0 l1).1.length - i ∧ a = fr 51 ([(0, .slice A0 l0.length c0), (4, .pointer (some ⟨g_1, 0, none⟩)), (9, .pointer (some ⟨g_10, 0, none⟩)), (10, .int .i64 ((bestOn l0 l1 i).2)), (23, .slice A_6 (((resPlaysFor l0 l1).1).length) c_7), (24, .int .i64 (((resPlaysFor l0 l1).1).length : Int)), (25, .int .i64 (i : Int))] ++ r) ∧ Hp w (blk g_10 #[.int .i64 ((bestOn l0 l1 i).1.f0.f0), .int .i64 ((bestOn l0 l1 i).1.f0.f1), .int .i64 ((bestOn l0 l1 i).1.f1)] 53 :: row k53 53 w.heap.size (.slice A_6 (((resPlaysFor l0 l1).1).length) c_7) ((resPlaysFor l0 l1).1) F_8 :: blk g_1 #[.int .i64 0, .int .i64 0, .int .i64 0] 53 :: cs) W ∧ (i ≤ (resPlaysFor l0 l1).1.length)) _ ⟨_, 0, rfl, fr_front [(0, .slice A0 l0.length c0), (4, .pointer (some ⟨g_1, 0, none⟩)), (9, .pointer (some ⟨g_10, 0, none⟩)), (10, .int .i64 (-1)), (23, .slice A_6 (((resPlaysFor l0 l1).1).length) c_7), (24, .int .i64 (((resPlaysFor l0 l1).1).length : Int)), (25, .int .i64 0)] ⟨rfl, rfl, rfl, rfl, rfl, rfl, rfl, trivial⟩, (hp.take [0, 1, 2] 3 (by decide) (by simp)), Nat.zero_le _⟩ ?_
  rintro _ _ W_13 ⟨r, i, rfl, rfl, hp, hi⟩
  refine wp_seq ?_
  refine sx_region ?_
  refine sx_rd 26 (.bool (decide ((i : Int) < (((resPlaysFor l0 l1).1).length : Int)))) (by rfl) (by kernel_rfl) ?_
  refine sx_nil ?_
  refine ex_then_n ?_
  refine wp_seq ?_
  refine sx_cond (decide ((i : Int) < (((resPlaysFor l0 l1).1).length : Int))) (by rfl) (fun c_14 => ?_) (fun c_14 => ?_)
  ·
    have c_14p := of_decide_eq_true c_14
    refine wp_skip ?_
    refine ex_then_n ?_
    refine wp_seq ?_
    refine wp_block ?_
    refine wp_seq ?_
    refine sx_region ?_
    refine sx_rd 27 (.pointer (some (adr A_6 (i : Int) 3))) (by rfl) (ix_run (d := k53) (row_C (hp.at_ 1 _ (by rfl))) (t := 26) (by rfl) (by rfl) (by rfl) Try.underlying26 (by kernel_rfl) (by omega) (by omega)) ?_
    refine sx_rd 28 (.agg #[.int .i64 ((rd_Play ((resPlaysFor l0 l1).1) (i : Int)).f0.f0), .int .i64 ((rd_Play ((resPlaysFor l0 l1).1) (i : Int)).f0.f1), .int .i64 ((rd_Play ((resPlaysFor l0 l1).1) (i : Int)).f1)]) (by rfl) (el_run (d := k53) (row_C (hp.at_ 1 _ (by rfl))) z53 (i : Int) (by omega) (by omega) (cells := [.int .i64 ((rd_Play ((resPlaysFor l0 l1).1) (i : Int)).f0.f0), .int .i64 ((rd_Play ((resPlaysFor l0 l1).1) (i : Int)).f0.f1), .int .i64 ((rd_Play ((resPlaysFor l0 l1).1) (i : Int)).f1)]) (fun cs h => k53_open h) 0 [.int .i64 ((rd_Play ((resPlaysFor l0 l1).1) (i : Int)).f0.f0), .int .i64 ((rd_Play ((resPlaysFor l0 l1).1) (i : Int)).f0.f1), .int .i64 ((rd_Play ((resPlaysFor l0 l1).1) (i : Int)).f1)] (by rfl) (t := 53) (p := (.tmp 27)) (by rfl) (by rfl) (by kernel_rfl) (by kernel_rfl)) ?_
    refine sx_box 12 hp #[.int .i64 0, .int .i64 0, .int .i64 0] 53 (by rfl) (fun W => by kernel_rfl) ?_
    intro g_15 W_16 hp
    refine sx_store (t := 53) (p := (.tmp 12)) (x := (.tmp 28)) (by rfl) (by rfl) 0 (by rfl) 0 [.int .i64 ((rd_Play ((resPlaysFor l0 l1).1) (i : Int)).f0.f0), .int .i64 ((rd_Play ((resPlaysFor l0 l1).1) (i : Int)).f0.f1), .int .i64 ((rd_Play ((resPlaysFor l0 l1).1) (i : Int)).f1)] (by rfl) (by rfl) (by kernel_rfl) (by simp [Value.oneCell']) (by show 3 ≤ 3; omega) #[.int .i64 ((rd_Play ((resPlaysFor l0 l1).1) (i : Int)).f0.f0), .int .i64 ((rd_Play ((resPlaysFor l0 l1).1) (i : Int)).f0.f1), .int .i64 ((rd_Play ((resPlaysFor l0 l1).1) (i : Int)).f1)] (by rfl) hp ?_
    intro W_17 hp; simp only [List.set_cons_succ, List.set_cons_zero] at hp
    refine sx_nil ?_
    refine ex_then_n ?_
    refine wp_seq ?_
    obtain ⟨s2, hso, hpt⟩ := best_spread l0 l1 i (by omega)
    refine sx_drawI (fun a W => ∃ (r : List (Nat × Value)) (gm_46 : Nat) (Am_47 : Option Addr) (cm_48 : Nat) (Am_49 : Option Addr) (cm_50 : Nat) (Fm_51 : Nat → Prop) (Fm_52 : Nat → Prop), a = fr 51 ([(0, .slice A0 l0.length c0), (4, .pointer (some ⟨g_1, 0, none⟩)), (9, .pointer (some ⟨g_10, 0, none⟩)), (10, .int .i64 ((bestOn l0 l1 i).2)), (12, .pointer (some ⟨g_15, 0, none⟩)), (13, .pointer (some ⟨gm_46, 0, none⟩)), (23, .slice A_6 (((resPlaysFor l0 l1).1).length) c_7), (24, .int .i64 (((resPlaysFor l0 l1).1).length : Int)), (25, .int .i64 (i : Int))] ++ r) ∧ Hp w (blk gm_46 #[.slice Am_47 s2.ar.length cm_48, .slice Am_49 s2.ti.length cm_50, .int .i64 s2.sp, .bool s2.w0, .bool s2.w1] 70 :: row k85 85 w.heap.size (.slice Am_47 s2.ar.length cm_48) s2.ar Fm_51 :: row k51 51 w.heap.size (.slice Am_49 s2.ti.length cm_50) s2.ti Fm_52 :: blk g_15 #[.int .i64 ((rd_Play ((resPlaysFor l0 l1).1) (i : Int)).f0.f0), .int .i64 ((rd_Play ((resPlaysFor l0 l1).1) (i : Int)).f0.f1), .int .i64 ((rd_Play ((resPlaysFor l0 l1).1) (i : Int)).f1)] 53 :: blk g_10 #[.int .i64 ((bestOn l0 l1 i).1.f0.f0), .int .i64 ((bestOn l0 l1 i).1.f0.f1), .int .i64 ((bestOn l0 l1 i).1.f1)] 53 :: row k53 53 w.heap.size (.slice A_6 (((resPlaysFor l0 l1).1).length) c_7) ((resPlaysFor l0 l1).1) F_8 :: blk g_1 #[.int .i64 0, .int .i64 0, .int .i64 0] 53 :: cs) W) [0] (.rd 2 (.alt 1 (.alt 3 (.alt 4 (.alt 5 (.rd 6 (.rd 7 (.rd 8 (.alt 9 (.alt 10 (.rd 11 (.fin)) .non) .non)))) (.alt 9 (.alt 5 (.rd 6 (.rd 7 (.rd 8 (.alt 10 (.rd 11 (.fin)) .non)))) .non) (.non))) (.alt 9 (.alt 4 (.alt 5 (.rd 6 (.rd 7 (.rd 8 (.alt 10 (.rd 11 (.fin)) .non)))) .non) .non) (.non))) (.alt 9 (.alt 3 (.alt 4 (.alt 5 (.rd 6 (.rd 7 (.rd 8 (.alt 10 (.rd 11 (.fin)) .non)))) .non) .non) .non) (.non))) (.alt 3 (.alt 1 (.alt 4 (.alt 5 (.rd 6 (.rd 7 (.rd 8 (.alt 9 (.alt 10 (.rd 11 (.fin)) .non) .non)))) (.alt 9 (.alt 5 (.rd 6 (.rd 7 (.rd 8 (.alt 10 (.rd 11 (.fin)) .non)))) .non) (.non))) (.alt 9 (.alt 4 (.alt 5 (.rd 6 (.rd 7 (.rd 8 (.alt 10 (.rd 11 (.fin)) .non)))) .non) .non) (.non))) (.alt 9 (.alt 1 (.alt 4 (.alt 5 (.rd 6 (.rd 7 (.rd 8 (.alt 10 (.rd 11 (.fin)) .non)))) .non) .non) .non) (.non))) (.alt 9 (.alt 1 (.alt 3 (.alt 4 (.alt 5 (.rd 6 (.rd 7 (.rd 8 (.alt 10 (.rd 11 (.fin)) .non)))) .non) .non) .non) (.alt 3 (.alt 1 (.alt 4 (.alt 5 (.rd 6 (.rd 7 (.rd 8 (.alt 10 (.rd 11 (.fin)) .non)))) .non) .non) .non) (.non))) (.non))))) 12 (C := Hp w (blk g_15 #[.int .i64 ((rd_Play ((resPlaysFor l0 l1).1) (i : Int)).f0.f0), .int .i64 ((rd_Play ((resPlaysFor l0 l1).1) (i : Int)).f0.f1), .int .i64 ((rd_Play ((resPlaysFor l0 l1).1) (i : Int)).f1)] 53 :: blk g_10 #[.int .i64 ((bestOn l0 l1 i).1.f0.f0), .int .i64 ((bestOn l0 l1 i).1.f0.f1), .int .i64 ((bestOn l0 l1 i).1.f1)] 53 :: row k53 53 w.heap.size (.slice A_6 (((resPlaysFor l0 l1).1).length) c_7) ((resPlaysFor l0 l1).1) F_8 :: blk g_1 #[.int .i64 0, .int .i64 0, .int .i64 0] 53 :: cs)) (by kernel_rfl) (by kernel_rfl) (fun d _ _ _ _ h => by cases d <;> exact h) (fun W h => h.drew) hp ?_ ?_
    ·
      refine preI_read rfl ?_
      refine sxq_val 30 (.slice A0 l0.length c0) (by rfl) (fun W _ => (by kernel_rfl)) ?_
      refine sxq_nil ?_
      refine preI_nil ?_
      intro W_18 hp
      refine treeI_rd rfl ?_
      refine sxq_val 32 (.agg #[.int .i64 ((rd_Play ((resPlaysFor l0 l1).1) (i : Int)).f0.f0), .int .i64 ((rd_Play ((resPlaysFor l0 l1).1) (i : Int)).f0.f1), .int .i64 ((rd_Play ((resPlaysFor l0 l1).1) (i : Int)).f1)]) (by rfl) (fun W hp => (ldn (t := 53) (p := (.tmp 12)) (by rfl) (by rfl) (by kernel_rfl) (by kernel_rfl) (by kernel_rfl) (hp.at_ 0 _ (by rfl)))) ?_
      refine sxq_nil ?_
      refine treeI_alt rfl ?_ ?_
      ·
        refine sx_call 31 (by rfl) (by kernel_rfl) ((slices_Clone_impl_Play_impl_Play.calls A0 c0 l0 _ _ (hC0 _ hp.tail.tail.tail.tail) hc0 (clone_playeq l0 (by omega))).mono ?_)
        rintro _ W_24 ⟨v_20, rfl, hR_19, hb⟩
        refine ⟨_, rfl, ?_⟩
        obtain ⟨A_21, c_22, rfl, hcc_c_22, _⟩ := Kd.R_reads hR_19
        obtain ⟨F_23, hp⟩ : ∃ F, Hp w (row k53 53 w.heap.size (.slice A_21 l0.length c_22) l0 F :: blk g_15 #[.int .i64 ((rd_Play ((resPlaysFor l0 l1).1) (i : Int)).f0.f0), .int .i64 ((rd_Play ((resPlaysFor l0 l1).1) (i : Int)).f0.f1), .int .i64 ((rd_Play ((resPlaysFor l0 l1).1) (i : Int)).f1)] 53 :: blk g_10 #[.int .i64 ((bestOn l0 l1 i).1.f0.f0), .int .i64 ((bestOn l0 l1 i).1.f0.f1), .int .i64 ((bestOn l0 l1 i).1.f1)] 53 :: row k53 53 w.heap.size (.slice A_6 (((resPlaysFor l0 l1).1).length) c_7) ((resPlaysFor l0 l1).1) F_8 :: blk g_1 #[.int .i64 0, .int .i64 0, .int .i64 0] 53 :: cs) _ := ⟨_, Hp.made hp hb hR_19⟩
        refine step_fin hp.tail ?_
        refine treeI_alt rfl ?_ ?_
        ·
          refine sx_lit 33 (by rfl) k53 w.heap.size 53 ([(rd_Play ((resPlaysFor l0 l1).1) (i : Int))]) [.int .i64 ((rd_Play ((resPlaysFor l0 l1).1) (i : Int)).f0.f0), .int .i64 ((rd_Play ((resPlaysFor l0 l1).1) (i : Int)).f0.f1), .int .i64 ((rd_Play ((resPlaysFor l0 l1).1) (i : Int)).f1)] (fun W => by kernel_rfl) (play_reps _ _ _) (by simp) hp.size hp ?_
          intro g_25 F_26 W_27 hp hz; clear hz
          refine step_fin hp.tail.tail ?_
          refine treeI_alt rfl ?_ ?_
          ·
            refine sx_append 34 (by rfl) k53 1 (by rfl) (.agg #[.int .i64 0, .int .i64 0, .int .i64 0]) 24 (by rfl) Try.underlying26 (by kernel_rfl) rfl (by decide) (by decide) ([(rd_Play ((resPlaysFor l0 l1).1) (i : Int))]) (by rfl) (by rfl) (row_C (hp.at_ 0 _ (by rfl))) play_kp hp.size (by simp; omega) hp ?_
            intro A_28 c_29 F_30 W_31 hp hz; clear hz; simp only [List.set_cons_succ, List.set_cons_zero] at hp
            refine step_fin hp.tail.tail ?_
            refine treeI_alt rfl ?_ ?_
            ·
              refine sx_call 35 (by rfl) (by kernel_rfl) ((impl_spreadOf.calls A_28 c_29 (l0 ++ [(rd_Play ((resPlaysFor l0 l1).1) (i : Int))]) _ _ _ _ _ _ _ (row_C (hp.at_ 1 _ (by rfl))) (row_len (hp.at_ 1 _ (by rfl))).2 hso).mono ?_)
              rintro _ W_42 ⟨v_34, v_35, rfl, hR_32, hR_33, hb⟩
              refine ⟨_, rfl, ?_⟩
              obtain ⟨A_36, c_37, rfl, hcc_c_37, _⟩ := Kd.R_reads hR_32
              obtain ⟨A_39, c_40, rfl, hcc_c_40, _⟩ := Kd.R_reads hR_33
              obtain ⟨F_38, F_41, hp⟩ : ∃ F_38 F_41, Hp w (row k85 85 w.heap.size (.slice A_36 s2.ar.length c_37) s2.ar F_38 :: row k51 51 w.heap.size (.slice A_39 s2.ti.length c_40) s2.ti F_41 :: row k53 53 w.heap.size (.slice (some ⟨g_25, 0, none⟩) ([(rd_Play ((resPlaysFor l0 l1).1) (i : Int))].length) ([(rd_Play ((resPlaysFor l0 l1).1) (i : Int))].length)) ([(rd_Play ((resPlaysFor l0 l1).1) (i : Int))]) F_26 :: row k53 53 w.heap.size (.slice A_28 ((l0 ++ [(rd_Play ((resPlaysFor l0 l1).1) (i : Int))]).length) c_29) (l0 ++ [(rd_Play ((resPlaysFor l0 l1).1) (i : Int))]) F_30 :: blk g_15 #[.int .i64 ((rd_Play ((resPlaysFor l0 l1).1) (i : Int)).f0.f0), .int .i64 ((rd_Play ((resPlaysFor l0 l1).1) (i : Int)).f0.f1), .int .i64 ((rd_Play ((resPlaysFor l0 l1).1) (i : Int)).f1)] 53 :: blk g_10 #[.int .i64 ((bestOn l0 l1 i).1.f0.f0), .int .i64 ((bestOn l0 l1 i).1.f0.f1), .int .i64 ((bestOn l0 l1 i).1.f1)] 53 :: row k53 53 w.heap.size (.slice A_6 (((resPlaysFor l0 l1).1).length) c_7) ((resPlaysFor l0 l1).1) F_8 :: blk g_1 #[.int .i64 0, .int .i64 0, .int .i64 0] 53 :: cs) _ := ⟨_, _, Hp.made2 hp hb rfl rfl hR_32 hR_33 (typed_apart hR_32 hR_33 (by decide))⟩
              refine step_fin hp.tail.tail.tail.tail ?_
              refine treeI_rd rfl ?_
              refine sxq_val 29 (.tuple #[.agg #[.slice A_36 s2.ar.length c_37, .slice A_39 s2.ti.length c_40, .int .i64 s2.sp, .bool s2.w0, .bool s2.w1], .bool true]) (by rfl) (fun W hp => (by kernel_rfl)) ?_
              refine sxq_nil ?_
              refine treeI_rd rfl ?_
              refine sxq_val 36 (.agg #[.slice A_36 s2.ar.length c_37, .slice A_39 s2.ti.length c_40, .int .i64 s2.sp, .bool s2.w0, .bool s2.w1]) (by rfl) (fun W hp => (by kernel_rfl)) ?_
              refine sxq_nil ?_
              refine treeI_rd rfl ?_
              refine sxq_val 37 (.bool true) (by rfl) (fun W hp => (by kernel_rfl)) ?_
              refine sxq_nil ?_
              refine treeI_ev rfl ?_
              refine sx_box 13 hp #[.slice none 0 0, .slice none 0 0, .int .i64 0, .bool false, .bool false] 70 (by rfl) (fun W => by kernel_rfl) ?_
              intro g_43 W_44 hp
              refine step_fin hp.tail.tail.tail.tail.tail ?_
              refine treeI_ev rfl ?_
              refine sx_store (t := 70) (p := (.tmp 13)) (x := (.tmp 36)) (by rfl) (by rfl) 0 (by rfl) 0 [.slice A_36 s2.ar.length c_37, .slice A_39 s2.ti.length c_40, .int .i64 s2.sp, .bool s2.w0, .bool s2.w1] (by rfl) (by rfl) (by kernel_rfl) (by simp [Value.oneCell']) (by show 5 ≤ 5; omega) #[.slice A_36 s2.ar.length c_37, .slice A_39 s2.ti.length c_40, .int .i64 s2.sp, .bool s2.w0, .bool s2.w1] (by rfl) hp ?_
              intro W_45 hp; simp only [List.set_cons_succ, List.set_cons_zero] at hp
              refine step_fin hp.tail.tail.tail.tail.tail ?_
              refine treeI_rd rfl ?_
              refine sxq_val 14 (.bool true) (by rfl) (fun W hp => (by kernel_rfl)) ?_
              refine sxq_nil ?_
              refine treeI_fin ?_
              exact ⟨_, g_43, A_36, c_37, A_39, c_40, F_38, F_41, fr_front [(0, .slice A0 l0.length c0), (4, .pointer (some ⟨g_1, 0, none⟩)), (9, .pointer (some ⟨g_10, 0, none⟩)), (10, .int .i64 ((bestOn l0 l1 i).2)), (12, .pointer (some ⟨g_15, 0, none⟩)), (13, .pointer (some ⟨g_43, 0, none⟩)), (23, .slice A_6 (((resPlaysFor l0 l1).1).length) c_7), (24, .int .i64 (((resPlaysFor l0 l1).1).length : Int)), (25, .int .i64 (i : Int))] ⟨rfl, rfl, rfl, rfl, rfl, rfl, rfl, rfl, rfl, trivial⟩, (hp.take [0, 1, 2, 5, 6, 7, 8] 9 (by decide) (by simp))⟩
            refine treeI_alt rfl ?_ ?_
            ·
              refine sx_box 13 hp #[.slice none 0 0, .slice none 0 0, .int .i64 0, .bool false, .bool false] 70 (by rfl) (fun W => by kernel_rfl) ?_
              intro g_53 W_54 hp
              refine step_fin hp.tail.tail.tail ?_
              refine treeI_ev rfl ?_
              refine sx_call 35 (by rfl) (by kernel_rfl) ((impl_spreadOf.calls A_28 c_29 (l0 ++ [(rd_Play ((resPlaysFor l0 l1).1) (i : Int))]) _ _ _ _ _ _ _ (row_C (hp.at_ 2 _ (by rfl))) (row_len (hp.at_ 2 _ (by rfl))).2 hso).mono ?_)
              rintro _ W_65 ⟨v_57, v_58, rfl, hR_55, hR_56, hb⟩
              refine ⟨_, rfl, ?_⟩
              obtain ⟨A_59, c_60, rfl, hcc_c_60, _⟩ := Kd.R_reads hR_55
              obtain ⟨A_62, c_63, rfl, hcc_c_63, _⟩ := Kd.R_reads hR_56
              obtain ⟨F_61, F_64, hp⟩ : ∃ F_61 F_64, Hp w (row k85 85 w.heap.size (.slice A_59 s2.ar.length c_60) s2.ar F_61 :: row k51 51 w.heap.size (.slice A_62 s2.ti.length c_63) s2.ti F_64 :: blk g_53 #[.slice none 0 0, .slice none 0 0, .int .i64 0, .bool false, .bool false] 70 :: row k53 53 w.heap.size (.slice (some ⟨g_25, 0, none⟩) ([(rd_Play ((resPlaysFor l0 l1).1) (i : Int))].length) ([(rd_Play ((resPlaysFor l0 l1).1) (i : Int))].length)) ([(rd_Play ((resPlaysFor l0 l1).1) (i : Int))]) F_26 :: row k53 53 w.heap.size (.slice A_28 ((l0 ++ [(rd_Play ((resPlaysFor l0 l1).1) (i : Int))]).length) c_29) (l0 ++ [(rd_Play ((resPlaysFor l0 l1).1) (i : Int))]) F_30 :: blk g_15 #[.int .i64 ((rd_Play ((resPlaysFor l0 l1).1) (i : Int)).f0.f0), .int .i64 ((rd_Play ((resPlaysFor l0 l1).1) (i : Int)).f0.f1), .int .i64 ((rd_Play ((resPlaysFor l0 l1).1) (i : Int)).f1)] 53 :: blk g_10 #[.int .i64 ((bestOn l0 l1 i).1.f0.f0), .int .i64 ((bestOn l0 l1 i).1.f0.f1), .int .i64 ((bestOn l0 l1 i).1.f1)] 53 :: row k53 53 w.heap.size (.slice A_6 (((resPlaysFor l0 l1).1).length) c_7) ((resPlaysFor l0 l1).1) F_8 :: blk g_1 #[.int .i64 0, .int .i64 0, .int .i64 0] 53 :: cs) _ := ⟨_, _, Hp.made2 hp hb rfl rfl hR_55 hR_56 (typed_apart hR_55 hR_56 (by decide))⟩
              refine step_fin hp.tail.tail.tail.tail.tail ?_
              refine treeI_rd rfl ?_
              refine sxq_val 29 (.tuple #[.agg #[.slice A_59 s2.ar.length c_60, .slice A_62 s2.ti.length c_63, .int .i64 s2.sp, .bool s2.w0, .bool s2.w1], .bool true]) (by rfl) (fun W hp => (by kernel_rfl)) ?_
              refine sxq_nil ?_
              refine treeI_rd rfl ?_
              refine sxq_val 36 (.agg #[.slice A_59 s2.ar.length c_60, .slice A_62 s2.ti.length c_63, .int .i64 s2.sp, .bool s2.w0, .bool s2.w1]) (by rfl) (fun W hp => (by kernel_rfl)) ?_
              refine sxq_nil ?_
              refine treeI_rd rfl ?_
              refine sxq_val 37 (.bool true) (by rfl) (fun W hp => (by kernel_rfl)) ?_
              refine sxq_nil ?_
              refine treeI_ev rfl ?_
              refine sx_store (t := 70) (p := (.tmp 13)) (x := (.tmp 36)) (by rfl) (by rfl) 2 (by rfl) 0 [.slice A_59 s2.ar.length c_60, .slice A_62 s2.ti.length c_63, .int .i64 s2.sp, .bool s2.w0, .bool s2.w1] (by rfl) (by rfl) (by kernel_rfl) (by simp [Value.oneCell']) (by show 5 ≤ 5; omega) #[.slice A_59 s2.ar.length c_60, .slice A_62 s2.ti.length c_63, .int .i64 s2.sp, .bool s2.w0, .bool s2.w1] (by rfl) hp ?_
              intro W_66 hp; simp only [List.set_cons_succ, List.set_cons_zero] at hp
              refine step_fin hp.tail.tail.tail.tail.tail ?_
              refine treeI_rd rfl ?_
              refine sxq_val 14 (.bool true) (by rfl) (fun W hp => (by kernel_rfl)) ?_
              refine sxq_nil ?_
              refine treeI_fin ?_
              exact ⟨_, g_53, A_59, c_60, A_62, c_63, F_61, F_64, fr_front [(0, .slice A0 l0.length c0), (4, .pointer (some ⟨g_1, 0, none⟩)), (9, .pointer (some ⟨g_10, 0, none⟩)), (10, .int .i64 ((bestOn l0 l1 i).2)), (12, .pointer (some ⟨g_15, 0, none⟩)), (13, .pointer (some ⟨g_53, 0, none⟩)), (23, .slice A_6 (((resPlaysFor l0 l1).1).length) c_7), (24, .int .i64 (((resPlaysFor l0 l1).1).length : Int)), (25, .int .i64 (i : Int))] ⟨rfl, rfl, rfl, rfl, rfl, rfl, rfl, rfl, rfl, trivial⟩, (hp.take [2, 0, 1, 5, 6, 7, 8] 9 (by decide) (by simp))⟩
            exact treeI_non
          refine treeI_alt rfl ?_ ?_
          ·
            refine sx_box 13 hp #[.slice none 0 0, .slice none 0 0, .int .i64 0, .bool false, .bool false] 70 (by rfl) (fun W => by kernel_rfl) ?_
            intro g_67 W_68 hp
            refine step_fin hp.tail.tail.tail ?_
            refine treeI_ev rfl ?_
            refine sx_append 34 (by rfl) k53 2 (by rfl) (.agg #[.int .i64 0, .int .i64 0, .int .i64 0]) 24 (by rfl) Try.underlying26 (by kernel_rfl) rfl (by decide) (by decide) ([(rd_Play ((resPlaysFor l0 l1).1) (i : Int))]) (by rfl) (by rfl) (row_C (hp.at_ 1 _ (by rfl))) play_kp hp.size (by simp; omega) hp ?_
            intro A_69 c_70 F_71 W_72 hp hz; clear hz; simp only [List.set_cons_succ, List.set_cons_zero] at hp
            refine step_fin hp.tail.tail.tail ?_
            refine treeI_ev rfl ?_
            refine sx_call 35 (by rfl) (by kernel_rfl) ((impl_spreadOf.calls A_69 c_70 (l0 ++ [(rd_Play ((resPlaysFor l0 l1).1) (i : Int))]) _ _ _ _ _ _ _ (row_C (hp.at_ 2 _ (by rfl))) (row_len (hp.at_ 2 _ (by rfl))).2 hso).mono ?_)
            rintro _ W_83 ⟨v_75, v_76, rfl, hR_73, hR_74, hb⟩
            refine ⟨_, rfl, ?_⟩
            obtain ⟨A_77, c_78, rfl, hcc_c_78, _⟩ := Kd.R_reads hR_73
            obtain ⟨A_80, c_81, rfl, hcc_c_81, _⟩ := Kd.R_reads hR_74
            obtain ⟨F_79, F_82, hp⟩ : ∃ F_79 F_82, Hp w (row k85 85 w.heap.size (.slice A_77 s2.ar.length c_78) s2.ar F_79 :: row k51 51 w.heap.size (.slice A_80 s2.ti.length c_81) s2.ti F_82 :: blk g_67 #[.slice none 0 0, .slice none 0 0, .int .i64 0, .bool false, .bool false] 70 :: row k53 53 w.heap.size (.slice (some ⟨g_25, 0, none⟩) ([(rd_Play ((resPlaysFor l0 l1).1) (i : Int))].length) ([(rd_Play ((resPlaysFor l0 l1).1) (i : Int))].length)) ([(rd_Play ((resPlaysFor l0 l1).1) (i : Int))]) F_26 :: row k53 53 w.heap.size (.slice A_69 ((l0 ++ [(rd_Play ((resPlaysFor l0 l1).1) (i : Int))]).length) c_70) (l0 ++ [(rd_Play ((resPlaysFor l0 l1).1) (i : Int))]) F_71 :: blk g_15 #[.int .i64 ((rd_Play ((resPlaysFor l0 l1).1) (i : Int)).f0.f0), .int .i64 ((rd_Play ((resPlaysFor l0 l1).1) (i : Int)).f0.f1), .int .i64 ((rd_Play ((resPlaysFor l0 l1).1) (i : Int)).f1)] 53 :: blk g_10 #[.int .i64 ((bestOn l0 l1 i).1.f0.f0), .int .i64 ((bestOn l0 l1 i).1.f0.f1), .int .i64 ((bestOn l0 l1 i).1.f1)] 53 :: row k53 53 w.heap.size (.slice A_6 (((resPlaysFor l0 l1).1).length) c_7) ((resPlaysFor l0 l1).1) F_8 :: blk g_1 #[.int .i64 0, .int .i64 0, .int .i64 0] 53 :: cs) _ := ⟨_, _, Hp.made2 hp hb rfl rfl hR_73 hR_74 (typed_apart hR_73 hR_74 (by decide))⟩
            refine step_fin hp.tail.tail.tail.tail.tail ?_
            refine treeI_rd rfl ?_
            refine sxq_val 29 (.tuple #[.agg #[.slice A_77 s2.ar.length c_78, .slice A_80 s2.ti.length c_81, .int .i64 s2.sp, .bool s2.w0, .bool s2.w1], .bool true]) (by rfl) (fun W hp => (by kernel_rfl)) ?_
            refine sxq_nil ?_
            refine treeI_rd rfl ?_
            refine sxq_val 36 (.agg #[.slice A_77 s2.ar.length c_78, .slice A_80 s2.ti.length c_81, .int .i64 s2.sp, .bool s2.w0, .bool s2.w1]) (by rfl) (fun W hp => (by kernel_rfl)) ?_
            refine sxq_nil ?_
            refine treeI_rd rfl ?_
            refine sxq_val 37 (.bool true) (by rfl) (fun W hp => (by kernel_rfl)) ?_
            refine sxq_nil ?_
            refine treeI_ev rfl ?_
            refine sx_store (t := 70) (p := (.tmp 13)) (x := (.tmp 36)) (by rfl) (by rfl) 2 (by rfl) 0 [.slice A_77 s2.ar.length c_78, .slice A_80 s2.ti.length c_81, .int .i64 s2.sp, .bool s2.w0, .bool s2.w1] (by rfl) (by rfl) (by kernel_rfl) (by simp [Value.oneCell']) (by show 5 ≤ 5; omega) #[.slice A_77 s2.ar.length c_78, .slice A_80 s2.ti.length c_81, .int .i64 s2.sp, .bool s2.w0, .bool s2.w1] (by rfl) hp ?_
            intro W_84 hp; simp only [List.set_cons_succ, List.set_cons_zero] at hp
            refine step_fin hp.tail.tail.tail.tail.tail ?_
            refine treeI_rd rfl ?_
            refine sxq_val 14 (.bool true) (by rfl) (fun W hp => (by kernel_rfl)) ?_
            refine sxq_nil ?_
            refine treeI_fin ?_
            exact ⟨_, g_67, A_77, c_78, A_80, c_81, F_79, F_82, fr_front [(0, .slice A0 l0.length c0), (4, .pointer (some ⟨g_1, 0, none⟩)), (9, .pointer (some ⟨g_10, 0, none⟩)), (10, .int .i64 ((bestOn l0 l1 i).2)), (12, .pointer (some ⟨g_15, 0, none⟩)), (13, .pointer (some ⟨g_67, 0, none⟩)), (23, .slice A_6 (((resPlaysFor l0 l1).1).length) c_7), (24, .int .i64 (((resPlaysFor l0 l1).1).length : Int)), (25, .int .i64 (i : Int))] ⟨rfl, rfl, rfl, rfl, rfl, rfl, rfl, rfl, rfl, trivial⟩, (hp.take [2, 0, 1, 5, 6, 7, 8] 9 (by decide) (by simp))⟩
          exact treeI_non
        refine treeI_alt rfl ?_ ?_
        ·
          refine sx_box 13 hp #[.slice none 0 0, .slice none 0 0, .int .i64 0, .bool false, .bool false] 70 (by rfl) (fun W => by kernel_rfl) ?_
          intro g_85 W_86 hp
          refine step_fin hp.tail.tail ?_
          refine treeI_ev rfl ?_
          refine sx_lit 33 (by rfl) k53 w.heap.size 53 ([(rd_Play ((resPlaysFor l0 l1).1) (i : Int))]) [.int .i64 ((rd_Play ((resPlaysFor l0 l1).1) (i : Int)).f0.f0), .int .i64 ((rd_Play ((resPlaysFor l0 l1).1) (i : Int)).f0.f1), .int .i64 ((rd_Play ((resPlaysFor l0 l1).1) (i : Int)).f1)] (fun W => by kernel_rfl) (play_reps _ _ _) (by simp) hp.size hp ?_
          intro g_87 F_88 W_89 hp hz; clear hz
          refine step_fin hp.tail.tail.tail ?_
          refine treeI_ev rfl ?_
          refine sx_append 34 (by rfl) k53 2 (by rfl) (.agg #[.int .i64 0, .int .i64 0, .int .i64 0]) 24 (by rfl) Try.underlying26 (by kernel_rfl) rfl (by decide) (by decide) ([(rd_Play ((resPlaysFor l0 l1).1) (i : Int))]) (by rfl) (by rfl) (row_C (hp.at_ 0 _ (by rfl))) play_kp hp.size (by simp; omega) hp ?_
          intro A_90 c_91 F_92 W_93 hp hz; clear hz; simp only [List.set_cons_succ, List.set_cons_zero] at hp
          refine step_fin hp.tail.tail.tail ?_
          refine treeI_ev rfl ?_
          refine sx_call 35 (by rfl) (by kernel_rfl) ((impl_spreadOf.calls A_90 c_91 (l0 ++ [(rd_Play ((resPlaysFor l0 l1).1) (i : Int))]) _ _ _ _ _ _ _ (row_C (hp.at_ 2 _ (by rfl))) (row_len (hp.at_ 2 _ (by rfl))).2 hso).mono ?_)
          rintro _ W_104 ⟨v_96, v_97, rfl, hR_94, hR_95, hb⟩
          refine ⟨_, rfl, ?_⟩
          obtain ⟨A_98, c_99, rfl, hcc_c_99, _⟩ := Kd.R_reads hR_94
          obtain ⟨A_101, c_102, rfl, hcc_c_102, _⟩ := Kd.R_reads hR_95
          obtain ⟨F_100, F_103, hp⟩ : ∃ F_100 F_103, Hp w (row k85 85 w.heap.size (.slice A_98 s2.ar.length c_99) s2.ar F_100 :: row k51 51 w.heap.size (.slice A_101 s2.ti.length c_102) s2.ti F_103 :: row k53 53 w.heap.size (.slice (some ⟨g_87, 0, none⟩) ([(rd_Play ((resPlaysFor l0 l1).1) (i : Int))].length) ([(rd_Play ((resPlaysFor l0 l1).1) (i : Int))].length)) ([(rd_Play ((resPlaysFor l0 l1).1) (i : Int))]) F_88 :: blk g_85 #[.slice none 0 0, .slice none 0 0, .int .i64 0, .bool false, .bool false] 70 :: row k53 53 w.heap.size (.slice A_90 ((l0 ++ [(rd_Play ((resPlaysFor l0 l1).1) (i : Int))]).length) c_91) (l0 ++ [(rd_Play ((resPlaysFor l0 l1).1) (i : Int))]) F_92 :: blk g_15 #[.int .i64 ((rd_Play ((resPlaysFor l0 l1).1) (i : Int)).f0.f0), .int .i64 ((rd_Play ((resPlaysFor l0 l1).1) (i : Int)).f0.f1), .int .i64 ((rd_Play ((resPlaysFor l0 l1).1) (i : Int)).f1)] 53 :: blk g_10 #[.int .i64 ((bestOn l0 l1 i).1.f0.f0), .int .i64 ((bestOn l0 l1 i).1.f0.f1), .int .i64 ((bestOn l0 l1 i).1.f1)] 53 :: row k53 53 w.heap.size (.slice A_6 (((resPlaysFor l0 l1).1).length) c_7) ((resPlaysFor l0 l1).1) F_8 :: blk g_1 #[.int .i64 0, .int .i64 0, .int .i64 0] 53 :: cs) _ := ⟨_, _, Hp.made2 hp hb rfl rfl hR_94 hR_95 (typed_apart hR_94 hR_95 (by decide))⟩
          refine step_fin hp.tail.tail.tail.tail.tail ?_
          refine treeI_rd rfl ?_
          refine sxq_val 29 (.tuple #[.agg #[.slice A_98 s2.ar.length c_99, .slice A_101 s2.ti.length c_102, .int .i64 s2.sp, .bool s2.w0, .bool s2.w1], .bool true]) (by rfl) (fun W hp => (by kernel_rfl)) ?_
          refine sxq_nil ?_
          refine treeI_rd rfl ?_
          refine sxq_val 36 (.agg #[.slice A_98 s2.ar.length c_99, .slice A_101 s2.ti.length c_102, .int .i64 s2.sp, .bool s2.w0, .bool s2.w1]) (by rfl) (fun W hp => (by kernel_rfl)) ?_
          refine sxq_nil ?_
          refine treeI_rd rfl ?_
          refine sxq_val 37 (.bool true) (by rfl) (fun W hp => (by kernel_rfl)) ?_
          refine sxq_nil ?_
          refine treeI_ev rfl ?_
          refine sx_store (t := 70) (p := (.tmp 13)) (x := (.tmp 36)) (by rfl) (by rfl) 3 (by rfl) 0 [.slice A_98 s2.ar.length c_99, .slice A_101 s2.ti.length c_102, .int .i64 s2.sp, .bool s2.w0, .bool s2.w1] (by rfl) (by rfl) (by kernel_rfl) (by simp [Value.oneCell']) (by show 5 ≤ 5; omega) #[.slice A_98 s2.ar.length c_99, .slice A_101 s2.ti.length c_102, .int .i64 s2.sp, .bool s2.w0, .bool s2.w1] (by rfl) hp ?_
          intro W_105 hp; simp only [List.set_cons_succ, List.set_cons_zero] at hp
          refine step_fin hp.tail.tail.tail.tail.tail ?_
          refine treeI_rd rfl ?_
          refine sxq_val 14 (.bool true) (by rfl) (fun W hp => (by kernel_rfl)) ?_
          refine sxq_nil ?_
          refine treeI_fin ?_
          exact ⟨_, g_85, A_98, c_99, A_101, c_102, F_100, F_103, fr_front [(0, .slice A0 l0.length c0), (4, .pointer (some ⟨g_1, 0, none⟩)), (9, .pointer (some ⟨g_10, 0, none⟩)), (10, .int .i64 ((bestOn l0 l1 i).2)), (12, .pointer (some ⟨g_15, 0, none⟩)), (13, .pointer (some ⟨g_85, 0, none⟩)), (23, .slice A_6 (((resPlaysFor l0 l1).1).length) c_7), (24, .int .i64 (((resPlaysFor l0 l1).1).length : Int)), (25, .int .i64 (i : Int))] ⟨rfl, rfl, rfl, rfl, rfl, rfl, rfl, rfl, rfl, trivial⟩, (hp.take [3, 0, 1, 5, 6, 7, 8] 9 (by decide) (by simp))⟩
        exact treeI_non
      refine treeI_alt rfl ?_ ?_
      ·
        refine sx_lit 33 (by rfl) k53 w.heap.size 53 ([(rd_Play ((resPlaysFor l0 l1).1) (i : Int))]) [.int .i64 ((rd_Play ((resPlaysFor l0 l1).1) (i : Int)).f0.f0), .int .i64 ((rd_Play ((resPlaysFor l0 l1).1) (i : Int)).f0.f1), .int .i64 ((rd_Play ((resPlaysFor l0 l1).1) (i : Int)).f1)] (fun W => by kernel_rfl) (play_reps _ _ _) (by simp) hp.size hp ?_
        intro g_106 F_107 W_108 hp hz; clear hz
        refine step_fin hp.tail ?_
        refine treeI_alt rfl ?_ ?_
        ·
          refine sx_call 31 (by rfl) (by kernel_rfl) ((slices_Clone_impl_Play_impl_Play.calls A0 c0 l0 _ _ (hC0 _ hp.tail.tail.tail.tail.tail) hc0 (clone_playeq l0 (by omega))).mono ?_)
          rintro _ W_114 ⟨v_110, rfl, hR_109, hb⟩
          refine ⟨_, rfl, ?_⟩
          obtain ⟨A_111, c_112, rfl, hcc_c_112, _⟩ := Kd.R_reads hR_109
          obtain ⟨F_113, hp⟩ : ∃ F, Hp w (row k53 53 w.heap.size (.slice A_111 l0.length c_112) l0 F :: row k53 53 w.heap.size (.slice (some ⟨g_106, 0, none⟩) ([(rd_Play ((resPlaysFor l0 l1).1) (i : Int))].length) ([(rd_Play ((resPlaysFor l0 l1).1) (i : Int))].length)) ([(rd_Play ((resPlaysFor l0 l1).1) (i : Int))]) F_107 :: blk g_15 #[.int .i64 ((rd_Play ((resPlaysFor l0 l1).1) (i : Int)).f0.f0), .int .i64 ((rd_Play ((resPlaysFor l0 l1).1) (i : Int)).f0.f1), .int .i64 ((rd_Play ((resPlaysFor l0 l1).1) (i : Int)).f1)] 53 :: blk g_10 #[.int .i64 ((bestOn l0 l1 i).1.f0.f0), .int .i64 ((bestOn l0 l1 i).1.f0.f1), .int .i64 ((bestOn l0 l1 i).1.f1)] 53 :: row k53 53 w.heap.size (.slice A_6 (((resPlaysFor l0 l1).1).length) c_7) ((resPlaysFor l0 l1).1) F_8 :: blk g_1 #[.int .i64 0, .int .i64 0, .int .i64 0] 53 :: cs) _ := ⟨_, Hp.made hp hb hR_109⟩
          refine step_fin hp.tail.tail ?_
          refine treeI_alt rfl ?_ ?_
          ·
            refine sx_append 34 (by rfl) k53 0 (by rfl) (.agg #[.int .i64 0, .int .i64 0, .int .i64 0]) 24 (by rfl) Try.underlying26 (by kernel_rfl) rfl (by decide) (by decide) ([(rd_Play ((resPlaysFor l0 l1).1) (i : Int))]) (by rfl) (by rfl) (row_C (hp.at_ 1 _ (by rfl))) play_kp hp.size (by simp; omega) hp ?_
            intro A_115 c_116 F_117 W_118 hp hz; clear hz; simp only [List.set_cons_succ, List.set_cons_zero] at hp
            refine step_fin hp.tail.tail ?_
            refine treeI_alt rfl ?_ ?_
            ·
              refine sx_call 35 (by rfl) (by kernel_rfl) ((impl_spreadOf.calls A_115 c_116 (l0 ++ [(rd_Play ((resPlaysFor l0 l1).1) (i : Int))]) _ _ _ _ _ _ _ (row_C (hp.at_ 0 _ (by rfl))) (row_len (hp.at_ 0 _ (by rfl))).2 hso).mono ?_)
              rintro _ W_129 ⟨v_121, v_122, rfl, hR_119, hR_120, hb⟩
              refine ⟨_, rfl, ?_⟩
              obtain ⟨A_123, c_124, rfl, hcc_c_124, _⟩ := Kd.R_reads hR_119
              obtain ⟨A_126, c_127, rfl, hcc_c_127, _⟩ := Kd.R_reads hR_120
              obtain ⟨F_125, F_128, hp⟩ : ∃ F_125 F_128, Hp w (row k85 85 w.heap.size (.slice A_123 s2.ar.length c_124) s2.ar F_125 :: row k51 51 w.heap.size (.slice A_126 s2.ti.length c_127) s2.ti F_128 :: row k53 53 w.heap.size (.slice A_115 ((l0 ++ [(rd_Play ((resPlaysFor l0 l1).1) (i : Int))]).length) c_116) (l0 ++ [(rd_Play ((resPlaysFor l0 l1).1) (i : Int))]) F_117 :: row k53 53 w.heap.size (.slice (some ⟨g_106, 0, none⟩) ([(rd_Play ((resPlaysFor l0 l1).1) (i : Int))].length) ([(rd_Play ((resPlaysFor l0 l1).1) (i : Int))].length)) ([(rd_Play ((resPlaysFor l0 l1).1) (i : Int))]) F_107 :: blk g_15 #[.int .i64 ((rd_Play ((resPlaysFor l0 l1).1) (i : Int)).f0.f0), .int .i64 ((rd_Play ((resPlaysFor l0 l1).1) (i : Int)).f0.f1), .int .i64 ((rd_Play ((resPlaysFor l0 l1).1) (i : Int)).f1)] 53 :: blk g_10 #[.int .i64 ((bestOn l0 l1 i).1.f0.f0), .int .i64 ((bestOn l0 l1 i).1.f0.f1), .int .i64 ((bestOn l0 l1 i).1.f1)] 53 :: row k53 53 w.heap.size (.slice A_6 (((resPlaysFor l0 l1).1).length) c_7) ((resPlaysFor l0 l1).1) F_8 :: blk g_1 #[.int .i64 0, .int .i64 0, .int .i64 0] 53 :: cs) _ := ⟨_, _, Hp.made2 hp hb rfl rfl hR_119 hR_120 (typed_apart hR_119 hR_120 (by decide))⟩
              refine step_fin hp.tail.tail.tail.tail ?_
              refine treeI_rd rfl ?_
              refine sxq_val 29 (.tuple #[.agg #[.slice A_123 s2.ar.length c_124, .slice A_126 s2.ti.length c_127, .int .i64 s2.sp, .bool s2.w0, .bool s2.w1], .bool true]) (by rfl) (fun W hp => (by kernel_rfl)) ?_
              refine sxq_nil ?_
              refine treeI_rd rfl ?_
              refine sxq_val 36 (.agg #[.slice A_123 s2.ar.length c_124, .slice A_126 s2.ti.length c_127, .int .i64 s2.sp, .bool s2.w0, .bool s2.w1]) (by rfl) (fun W hp => (by kernel_rfl)) ?_
              refine sxq_nil ?_
              refine treeI_rd rfl ?_
              refine sxq_val 37 (.bool true) (by rfl) (fun W hp => (by kernel_rfl)) ?_
              refine sxq_nil ?_
              refine treeI_ev rfl ?_
              refine sx_box 13 hp #[.slice none 0 0, .slice none 0 0, .int .i64 0, .bool false, .bool false] 70 (by rfl) (fun W => by kernel_rfl) ?_
              intro g_130 W_131 hp
              refine step_fin hp.tail.tail.tail.tail.tail ?_
              refine treeI_ev rfl ?_
              refine sx_store (t := 70) (p := (.tmp 13)) (x := (.tmp 36)) (by rfl) (by rfl) 0 (by rfl) 0 [.slice A_123 s2.ar.length c_124, .slice A_126 s2.ti.length c_127, .int .i64 s2.sp, .bool s2.w0, .bool s2.w1] (by rfl) (by rfl) (by kernel_rfl) (by simp [Value.oneCell']) (by show 5 ≤ 5; omega) #[.slice A_123 s2.ar.length c_124, .slice A_126 s2.ti.length c_127, .int .i64 s2.sp, .bool s2.w0, .bool s2.w1] (by rfl) hp ?_
              intro W_132 hp; simp only [List.set_cons_succ, List.set_cons_zero] at hp
              refine step_fin hp.tail.tail.tail.tail.tail ?_
              refine treeI_rd rfl ?_
              refine sxq_val 14 (.bool true) (by rfl) (fun W hp => (by kernel_rfl)) ?_
              refine sxq_nil ?_
              refine treeI_fin ?_
              exact ⟨_, g_130, A_123, c_124, A_126, c_127, F_125, F_128, fr_front [(0, .slice A0 l0.length c0), (4, .pointer (some ⟨g_1, 0, none⟩)), (9, .pointer (some ⟨g_10, 0, none⟩)), (10, .int .i64 ((bestOn l0 l1 i).2)), (12, .pointer (some ⟨g_15, 0, none⟩)), (13, .pointer (some ⟨g_130, 0, none⟩)), (23, .slice A_6 (((resPlaysFor l0 l1).1).length) c_7), (24, .int .i64 (((resPlaysFor l0 l1).1).length : Int)), (25, .int .i64 (i : Int))] ⟨rfl, rfl, rfl, rfl, rfl, rfl, rfl, rfl, rfl, trivial⟩, (hp.take [0, 1, 2, 5, 6, 7, 8] 9 (by decide) (by simp))⟩
            refine treeI_alt rfl ?_ ?_
            ·
              refine sx_box 13 hp #[.slice none 0 0, .slice none 0 0, .int .i64 0, .bool false, .bool false] 70 (by rfl) (fun W => by kernel_rfl) ?_
              intro g_133 W_134 hp
              refine step_fin hp.tail.tail.tail ?_
              refine treeI_ev rfl ?_
              refine sx_call 35 (by rfl) (by kernel_rfl) ((impl_spreadOf.calls A_115 c_116 (l0 ++ [(rd_Play ((resPlaysFor l0 l1).1) (i : Int))]) _ _ _ _ _ _ _ (row_C (hp.at_ 1 _ (by rfl))) (row_len (hp.at_ 1 _ (by rfl))).2 hso).mono ?_)
              rintro _ W_145 ⟨v_137, v_138, rfl, hR_135, hR_136, hb⟩
              refine ⟨_, rfl, ?_⟩
              obtain ⟨A_139, c_140, rfl, hcc_c_140, _⟩ := Kd.R_reads hR_135
              obtain ⟨A_142, c_143, rfl, hcc_c_143, _⟩ := Kd.R_reads hR_136
              obtain ⟨F_141, F_144, hp⟩ : ∃ F_141 F_144, Hp w (row k85 85 w.heap.size (.slice A_139 s2.ar.length c_140) s2.ar F_141 :: row k51 51 w.heap.size (.slice A_142 s2.ti.length c_143) s2.ti F_144 :: blk g_133 #[.slice none 0 0, .slice none 0 0, .int .i64 0, .bool false, .bool false] 70 :: row k53 53 w.heap.size (.slice A_115 ((l0 ++ [(rd_Play ((resPlaysFor l0 l1).1) (i : Int))]).length) c_116) (l0 ++ [(rd_Play ((resPlaysFor l0 l1).1) (i : Int))]) F_117 :: row k53 53 w.heap.size (.slice (some ⟨g_106, 0, none⟩) ([(rd_Play ((resPlaysFor l0 l1).1) (i : Int))].length) ([(rd_Play ((resPlaysFor l0 l1).1) (i : Int))].length)) ([(rd_Play ((resPlaysFor l0 l1).1) (i : Int))]) F_107 :: blk g_15 #[.int .i64 ((rd_Play ((resPlaysFor l0 l1).1) (i : Int)).f0.f0), .int .i64 ((rd_Play ((resPlaysFor l0 l1).1) (i : Int)).f0.f1), .int .i64 ((rd_Play ((resPlaysFor l0 l1).1) (i : Int)).f1)] 53 :: blk g_10 #[.int .i64 ((bestOn l0 l1 i).1.f0.f0), .int .i64 ((bestOn l0 l1 i).1.f0.f1), .int .i64 ((bestOn l0 l1 i).1.f1)] 53 :: row k53 53 w.heap.size (.slice A_6 (((resPlaysFor l0 l1).1).length) c_7) ((resPlaysFor l0 l1).1) F_8 :: blk g_1 #[.int .i64 0, .int .i64 0, .int .i64 0] 53 :: cs) _ := ⟨_, _, Hp.made2 hp hb rfl rfl hR_135 hR_136 (typed_apart hR_135 hR_136 (by decide))⟩
              refine step_fin hp.tail.tail.tail.tail.tail ?_
              refine treeI_rd rfl ?_
              refine sxq_val 29 (.tuple #[.agg #[.slice A_139 s2.ar.length c_140, .slice A_142 s2.ti.length c_143, .int .i64 s2.sp, .bool s2.w0, .bool s2.w1], .bool true]) (by rfl) (fun W hp => (by kernel_rfl)) ?_
              refine sxq_nil ?_
              refine treeI_rd rfl ?_
              refine sxq_val 36 (.agg #[.slice A_139 s2.ar.length c_140, .slice A_142 s2.ti.length c_143, .int .i64 s2.sp, .bool s2.w0, .bool s2.w1]) (by rfl) (fun W hp => (by kernel_rfl)) ?_
              refine sxq_nil ?_
              refine treeI_rd rfl ?_
              refine sxq_val 37 (.bool true) (by rfl) (fun W hp => (by kernel_rfl)) ?_
              refine sxq_nil ?_
              refine treeI_ev rfl ?_
              refine sx_store (t := 70) (p := (.tmp 13)) (x := (.tmp 36)) (by rfl) (by rfl) 2 (by rfl) 0 [.slice A_139 s2.ar.length c_140, .slice A_142 s2.ti.length c_143, .int .i64 s2.sp, .bool s2.w0, .bool s2.w1] (by rfl) (by rfl) (by kernel_rfl) (by simp [Value.oneCell']) (by show 5 ≤ 5; omega) #[.slice A_139 s2.ar.length c_140, .slice A_142 s2.ti.length c_143, .int .i64 s2.sp, .bool s2.w0, .bool s2.w1] (by rfl) hp ?_
              intro W_146 hp; simp only [List.set_cons_succ, List.set_cons_zero] at hp
              refine step_fin hp.tail.tail.tail.tail.tail ?_
              refine treeI_rd rfl ?_
              refine sxq_val 14 (.bool true) (by rfl) (fun W hp => (by kernel_rfl)) ?_
              refine sxq_nil ?_
              refine treeI_fin ?_
              exact ⟨_, g_133, A_139, c_140, A_142, c_143, F_141, F_144, fr_front [(0, .slice A0 l0.length c0), (4, .pointer (some ⟨g_1, 0, none⟩)), (9, .pointer (some ⟨g_10, 0, none⟩)), (10, .int .i64 ((bestOn l0 l1 i).2)), (12, .pointer (some ⟨g_15, 0, none⟩)), (13, .pointer (some ⟨g_133, 0, none⟩)), (23, .slice A_6 (((resPlaysFor l0 l1).1).length) c_7), (24, .int .i64 (((resPlaysFor l0 l1).1).length : Int)), (25, .int .i64 (i : Int))] ⟨rfl, rfl, rfl, rfl, rfl, rfl, rfl, rfl, rfl, trivial⟩, (hp.take [2, 0, 1, 5, 6, 7, 8] 9 (by decide) (by simp))⟩
            exact treeI_non
          refine treeI_alt rfl ?_ ?_
          ·
            refine sx_box 13 hp #[.slice none 0 0, .slice none 0 0, .int .i64 0, .bool false, .bool false] 70 (by rfl) (fun W => by kernel_rfl) ?_
            intro g_147 W_148 hp
            refine step_fin hp.tail.tail.tail ?_
            refine treeI_ev rfl ?_
            refine sx_append 34 (by rfl) k53 1 (by rfl) (.agg #[.int .i64 0, .int .i64 0, .int .i64 0]) 24 (by rfl) Try.underlying26 (by kernel_rfl) rfl (by decide) (by decide) ([(rd_Play ((resPlaysFor l0 l1).1) (i : Int))]) (by rfl) (by rfl) (row_C (hp.at_ 2 _ (by rfl))) play_kp hp.size (by simp; omega) hp ?_
            intro A_149 c_150 F_151 W_152 hp hz; clear hz; simp only [List.set_cons_succ, List.set_cons_zero] at hp
            refine step_fin hp.tail.tail.tail ?_
            refine treeI_ev rfl ?_
            refine sx_call 35 (by rfl) (by kernel_rfl) ((impl_spreadOf.calls A_149 c_150 (l0 ++ [(rd_Play ((resPlaysFor l0 l1).1) (i : Int))]) _ _ _ _ _ _ _ (row_C (hp.at_ 1 _ (by rfl))) (row_len (hp.at_ 1 _ (by rfl))).2 hso).mono ?_)
            rintro _ W_163 ⟨v_155, v_156, rfl, hR_153, hR_154, hb⟩
            refine ⟨_, rfl, ?_⟩
            obtain ⟨A_157, c_158, rfl, hcc_c_158, _⟩ := Kd.R_reads hR_153
            obtain ⟨A_160, c_161, rfl, hcc_c_161, _⟩ := Kd.R_reads hR_154
            obtain ⟨F_159, F_162, hp⟩ : ∃ F_159 F_162, Hp w (row k85 85 w.heap.size (.slice A_157 s2.ar.length c_158) s2.ar F_159 :: row k51 51 w.heap.size (.slice A_160 s2.ti.length c_161) s2.ti F_162 :: blk g_147 #[.slice none 0 0, .slice none 0 0, .int .i64 0, .bool false, .bool false] 70 :: row k53 53 w.heap.size (.slice A_149 ((l0 ++ [(rd_Play ((resPlaysFor l0 l1).1) (i : Int))]).length) c_150) (l0 ++ [(rd_Play ((resPlaysFor l0 l1).1) (i : Int))]) F_151 :: row k53 53 w.heap.size (.slice (some ⟨g_106, 0, none⟩) ([(rd_Play ((resPlaysFor l0 l1).1) (i : Int))].length) ([(rd_Play ((resPlaysFor l0 l1).1) (i : Int))].length)) ([(rd_Play ((resPlaysFor l0 l1).1) (i : Int))]) F_107 :: blk g_15 #[.int .i64 ((rd_Play ((resPlaysFor l0 l1).1) (i : Int)).f0.f0), .int .i64 ((rd_Play ((resPlaysFor l0 l1).1) (i : Int)).f0.f1), .int .i64 ((rd_Play ((resPlaysFor l0 l1).1) (i : Int)).f1)] 53 :: blk g_10 #[.int .i64 ((bestOn l0 l1 i).1.f0.f0), .int .i64 ((bestOn l0 l1 i).1.f0.f1), .int .i64 ((bestOn l0 l1 i).1.f1)] 53 :: row k53 53 w.heap.size (.slice A_6 (((resPlaysFor l0 l1).1).length) c_7) ((resPlaysFor l0 l1).1) F_8 :: blk g_1 #[.int .i64 0, .int .i64 0, .int .i64 0] 53 :: cs) _ := ⟨_, _, Hp.made2 hp hb rfl rfl hR_153 hR_154 (typed_apart hR_153 hR_154 (by decide))⟩
            refine step_fin hp.tail.tail.tail.tail.tail ?_
            refine treeI_rd rfl ?_
            refine sxq_val 29 (.tuple #[.agg #[.slice A_157 s2.ar.length c_158, .slice A_160 s2.ti.length c_161, .int .i64 s2.sp, .bool s2.w0, .bool s2.w1], .bool true]) (by rfl) (fun W hp => (by kernel_rfl)) ?_
            refine sxq_nil ?_
            refine treeI_rd rfl ?_
            refine sxq_val 36 (.agg #[.slice A_157 s2.ar.length c_158, .slice A_160 s2.ti.length c_161, .int .i64 s2.sp, .bool s2.w0, .bool s2.w1]) (by rfl) (fun W hp => (by kernel_rfl)) ?_
            refine sxq_nil ?_
            refine treeI_rd rfl ?_
            refine sxq_val 37 (.bool true) (by rfl) (fun W hp => (by kernel_rfl)) ?_
            refine sxq_nil ?_
            refine treeI_ev rfl ?_
            refine sx_store (t := 70) (p := (.tmp 13)) (x := (.tmp 36)) (by rfl) (by rfl) 2 (by rfl) 0 [.slice A_157 s2.ar.length c_158, .slice A_160 s2.ti.length c_161, .int .i64 s2.sp, .bool s2.w0, .bool s2.w1] (by rfl) (by rfl) (by kernel_rfl) (by simp [Value.oneCell']) (by show 5 ≤ 5; omega) #[.slice A_157 s2.ar.length c_158, .slice A_160 s2.ti.length c_161, .int .i64 s2.sp, .bool s2.w0, .bool s2.w1] (by rfl) hp ?_
            intro W_164 hp; simp only [List.set_cons_succ, List.set_cons_zero] at hp
            refine step_fin hp.tail.tail.tail.tail.tail ?_
            refine treeI_rd rfl ?_
            refine sxq_val 14 (.bool true) (by rfl) (fun W hp => (by kernel_rfl)) ?_
            refine sxq_nil ?_
            refine treeI_fin ?_
            exact ⟨_, g_147, A_157, c_158, A_160, c_161, F_159, F_162, fr_front [(0, .slice A0 l0.length c0), (4, .pointer (some ⟨g_1, 0, none⟩)), (9, .pointer (some ⟨g_10, 0, none⟩)), (10, .int .i64 ((bestOn l0 l1 i).2)), (12, .pointer (some ⟨g_15, 0, none⟩)), (13, .pointer (some ⟨g_147, 0, none⟩)), (23, .slice A_6 (((resPlaysFor l0 l1).1).length) c_7), (24, .int .i64 (((resPlaysFor l0 l1).1).length : Int)), (25, .int .i64 (i : Int))] ⟨rfl, rfl, rfl, rfl, rfl, rfl, rfl, rfl, rfl, trivial⟩, (hp.take [2, 0, 1, 5, 6, 7, 8] 9 (by decide) (by simp))⟩
          exact treeI_non
        refine treeI_alt rfl ?_ ?_
        ·
          refine sx_box 13 hp #[.slice none 0 0, .slice none 0 0, .int .i64 0, .bool false, .bool false] 70 (by rfl) (fun W => by kernel_rfl) ?_
          intro g_165 W_166 hp
          refine step_fin hp.tail.tail ?_
          refine treeI_ev rfl ?_
          refine sx_call 31 (by rfl) (by kernel_rfl) ((slices_Clone_impl_Play_impl_Play.calls A0 c0 l0 _ _ (hC0 _ hp.tail.tail.tail.tail.tail.tail) hc0 (clone_playeq l0 (by omega))).mono ?_)
          rintro _ W_172 ⟨v_168, rfl, hR_167, hb⟩
          refine ⟨_, rfl, ?_⟩
          obtain ⟨A_169, c_170, rfl, hcc_c_170, _⟩ := Kd.R_reads hR_167
          obtain ⟨F_171, hp⟩ : ∃ F, Hp w (row k53 53 w.heap.size (.slice A_169 l0.length c_170) l0 F :: blk g_165 #[.slice none 0 0, .slice none 0 0, .int .i64 0, .bool false, .bool false] 70 :: row k53 53 w.heap.size (.slice (some ⟨g_106, 0, none⟩) ([(rd_Play ((resPlaysFor l0 l1).1) (i : Int))].length) ([(rd_Play ((resPlaysFor l0 l1).1) (i : Int))].length)) ([(rd_Play ((resPlaysFor l0 l1).1) (i : Int))]) F_107 :: blk g_15 #[.int .i64 ((rd_Play ((resPlaysFor l0 l1).1) (i : Int)).f0.f0), .int .i64 ((rd_Play ((resPlaysFor l0 l1).1) (i : Int)).f0.f1), .int .i64 ((rd_Play ((resPlaysFor l0 l1).1) (i : Int)).f1)] 53 :: blk g_10 #[.int .i64 ((bestOn l0 l1 i).1.f0.f0), .int .i64 ((bestOn l0 l1 i).1.f0.f1), .int .i64 ((bestOn l0 l1 i).1.f1)] 53 :: row k53 53 w.heap.size (.slice A_6 (((resPlaysFor l0 l1).1).length) c_7) ((resPlaysFor l0 l1).1) F_8 :: blk g_1 #[.int .i64 0, .int .i64 0, .int .i64 0] 53 :: cs) _ := ⟨_, Hp.made hp hb hR_167⟩
          refine step_fin hp.tail.tail.tail ?_
          refine treeI_ev rfl ?_
          refine sx_append 34 (by rfl) k53 0 (by rfl) (.agg #[.int .i64 0, .int .i64 0, .int .i64 0]) 24 (by rfl) Try.underlying26 (by kernel_rfl) rfl (by decide) (by decide) ([(rd_Play ((resPlaysFor l0 l1).1) (i : Int))]) (by rfl) (by rfl) (row_C (hp.at_ 2 _ (by rfl))) play_kp hp.size (by simp; omega) hp ?_
          intro A_173 c_174 F_175 W_176 hp hz; clear hz; simp only [List.set_cons_succ, List.set_cons_zero] at hp
          refine step_fin hp.tail.tail.tail ?_
          refine treeI_ev rfl ?_
          refine sx_call 35 (by rfl) (by kernel_rfl) ((impl_spreadOf.calls A_173 c_174 (l0 ++ [(rd_Play ((resPlaysFor l0 l1).1) (i : Int))]) _ _ _ _ _ _ _ (row_C (hp.at_ 0 _ (by rfl))) (row_len (hp.at_ 0 _ (by rfl))).2 hso).mono ?_)
          rintro _ W_187 ⟨v_179, v_180, rfl, hR_177, hR_178, hb⟩
          refine ⟨_, rfl, ?_⟩
          obtain ⟨A_181, c_182, rfl, hcc_c_182, _⟩ := Kd.R_reads hR_177
          obtain ⟨A_184, c_185, rfl, hcc_c_185, _⟩ := Kd.R_reads hR_178
          obtain ⟨F_183, F_186, hp⟩ : ∃ F_183 F_186, Hp w (row k85 85 w.heap.size (.slice A_181 s2.ar.length c_182) s2.ar F_183 :: row k51 51 w.heap.size (.slice A_184 s2.ti.length c_185) s2.ti F_186 :: row k53 53 w.heap.size (.slice A_173 ((l0 ++ [(rd_Play ((resPlaysFor l0 l1).1) (i : Int))]).length) c_174) (l0 ++ [(rd_Play ((resPlaysFor l0 l1).1) (i : Int))]) F_175 :: blk g_165 #[.slice none 0 0, .slice none 0 0, .int .i64 0, .bool false, .bool false] 70 :: row k53 53 w.heap.size (.slice (some ⟨g_106, 0, none⟩) ([(rd_Play ((resPlaysFor l0 l1).1) (i : Int))].length) ([(rd_Play ((resPlaysFor l0 l1).1) (i : Int))].length)) ([(rd_Play ((resPlaysFor l0 l1).1) (i : Int))]) F_107 :: blk g_15 #[.int .i64 ((rd_Play ((resPlaysFor l0 l1).1) (i : Int)).f0.f0), .int .i64 ((rd_Play ((resPlaysFor l0 l1).1) (i : Int)).f0.f1), .int .i64 ((rd_Play ((resPlaysFor l0 l1).1) (i : Int)).f1)] 53 :: blk g_10 #[.int .i64 ((bestOn l0 l1 i).1.f0.f0), .int .i64 ((bestOn l0 l1 i).1.f0.f1), .int .i64 ((bestOn l0 l1 i).1.f1)] 53 :: row k53 53 w.heap.size (.slice A_6 (((resPlaysFor l0 l1).1).length) c_7) ((resPlaysFor l0 l1).1) F_8 :: blk g_1 #[.int .i64 0, .int .i64 0, .int .i64 0] 53 :: cs) _ := ⟨_, _, Hp.made2 hp hb rfl rfl hR_177 hR_178 (typed_apart hR_177 hR_178 (by decide))⟩
          refine step_fin hp.tail.tail.tail.tail.tail ?_
          refine treeI_rd rfl ?_
          refine sxq_val 29 (.tuple #[.agg #[.slice A_181 s2.ar.length c_182, .slice A_184 s2.ti.length c_185, .int .i64 s2.sp, .bool s2.w0, .bool s2.w1], .bool true]) (by rfl) (fun W hp => (by kernel_rfl)) ?_
          refine sxq_nil ?_
          refine treeI_rd rfl ?_
          refine sxq_val 36 (.agg #[.slice A_181 s2.ar.length c_182, .slice A_184 s2.ti.length c_185, .int .i64 s2.sp, .bool s2.w0, .bool s2.w1]) (by rfl) (fun W hp => (by kernel_rfl)) ?_
          refine sxq_nil ?_
          refine treeI_rd rfl ?_
          refine sxq_val 37 (.bool true) (by rfl) (fun W hp => (by kernel_rfl)) ?_
          refine sxq_nil ?_
          refine treeI_ev rfl ?_
          refine sx_store (t := 70) (p := (.tmp 13)) (x := (.tmp 36)) (by rfl) (by rfl) 3 (by rfl) 0 [.slice A_181 s2.ar.length c_182, .slice A_184 s2.ti.length c_185, .int .i64 s2.sp, .bool s2.w0, .bool s2.w1] (by rfl) (by rfl) (by kernel_rfl) (by simp [Value.oneCell']) (by show 5 ≤ 5; omega) #[.slice A_181 s2.ar.length c_182, .slice A_184 s2.ti.length c_185, .int .i64 s2.sp, .bool s2.w0, .bool s2.w1] (by rfl) hp ?_
          intro W_188 hp; simp only [List.set_cons_succ, List.set_cons_zero] at hp
          refine step_fin hp.tail.tail.tail.tail.tail ?_
          refine treeI_rd rfl ?_
          refine sxq_val 14 (.bool true) (by rfl) (fun W hp => (by kernel_rfl)) ?_
          refine sxq_nil ?_
          refine treeI_fin ?_
          exact ⟨_, g_165, A_181, c_182, A_184, c_185, F_183, F_186, fr_front [(0, .slice A0 l0.length c0), (4, .pointer (some ⟨g_1, 0, none⟩)), (9, .pointer (some ⟨g_10, 0, none⟩)), (10, .int .i64 ((bestOn l0 l1 i).2)), (12, .pointer (some ⟨g_15, 0, none⟩)), (13, .pointer (some ⟨g_165, 0, none⟩)), (23, .slice A_6 (((resPlaysFor l0 l1).1).length) c_7), (24, .int .i64 (((resPlaysFor l0 l1).1).length : Int)), (25, .int .i64 (i : Int))] ⟨rfl, rfl, rfl, rfl, rfl, rfl, rfl, rfl, rfl, trivial⟩, (hp.take [3, 0, 1, 5, 6, 7, 8] 9 (by decide) (by simp))⟩
        exact treeI_non
      refine treeI_alt rfl ?_ ?_
      ·
        refine sx_box 13 hp #[.slice none 0 0, .slice none 0 0, .int .i64 0, .bool false, .bool false] 70 (by rfl) (fun W => by kernel_rfl) ?_
        intro g_189 W_190 hp
        refine step_fin hp.tail ?_
        refine treeI_alt rfl ?_ ?_
        ·
          refine sx_call 31 (by rfl) (by kernel_rfl) ((slices_Clone_impl_Play_impl_Play.calls A0 c0 l0 _ _ (hC0 _ hp.tail.tail.tail.tail.tail) hc0 (clone_playeq l0 (by omega))).mono ?_)
          rintro _ W_196 ⟨v_192, rfl, hR_191, hb⟩
          refine ⟨_, rfl, ?_⟩
          obtain ⟨A_193, c_194, rfl, hcc_c_194, _⟩ := Kd.R_reads hR_191
          obtain ⟨F_195, hp⟩ : ∃ F, Hp w (row k53 53 w.heap.size (.slice A_193 l0.length c_194) l0 F :: blk g_189 #[.slice none 0 0, .slice none 0 0, .int .i64 0, .bool false, .bool false] 70 :: blk g_15 #[.int .i64 ((rd_Play ((resPlaysFor l0 l1).1) (i : Int)).f0.f0), .int .i64 ((rd_Play ((resPlaysFor l0 l1).1) (i : Int)).f0.f1), .int .i64 ((rd_Play ((resPlaysFor l0 l1).1) (i : Int)).f1)] 53 :: blk g_10 #[.int .i64 ((bestOn l0 l1 i).1.f0.f0), .int .i64 ((bestOn l0 l1 i).1.f0.f1), .int .i64 ((bestOn l0 l1 i).1.f1)] 53 :: row k53 53 w.heap.size (.slice A_6 (((resPlaysFor l0 l1).1).length) c_7) ((resPlaysFor l0 l1).1) F_8 :: blk g_1 #[.int .i64 0, .int .i64 0, .int .i64 0] 53 :: cs) _ := ⟨_, Hp.made hp hb hR_191⟩
          refine step_fin hp.tail.tail ?_
          refine treeI_ev rfl ?_
          refine sx_lit 33 (by rfl) k53 w.heap.size 53 ([(rd_Play ((resPlaysFor l0 l1).1) (i : Int))]) [.int .i64 ((rd_Play ((resPlaysFor l0 l1).1) (i : Int)).f0.f0), .int .i64 ((rd_Play ((resPlaysFor l0 l1).1) (i : Int)).f0.f1), .int .i64 ((rd_Play ((resPlaysFor l0 l1).1) (i : Int)).f1)] (fun W => by kernel_rfl) (play_reps _ _ _) (by simp) hp.size hp ?_
          intro g_197 F_198 W_199 hp hz; clear hz
          refine step_fin hp.tail.tail.tail ?_
          refine treeI_ev rfl ?_
          refine sx_append 34 (by rfl) k53 1 (by rfl) (.agg #[.int .i64 0, .int .i64 0, .int .i64 0]) 24 (by rfl) Try.underlying26 (by kernel_rfl) rfl (by decide) (by decide) ([(rd_Play ((resPlaysFor l0 l1).1) (i : Int))]) (by rfl) (by rfl) (row_C (hp.at_ 0 _ (by rfl))) play_kp hp.size (by simp; omega) hp ?_
          intro A_200 c_201 F_202 W_203 hp hz; clear hz; simp only [List.set_cons_succ, List.set_cons_zero] at hp
          refine step_fin hp.tail.tail.tail ?_
          refine treeI_ev rfl ?_
          refine sx_call 35 (by rfl) (by kernel_rfl) ((impl_spreadOf.calls A_200 c_201 (l0 ++ [(rd_Play ((resPlaysFor l0 l1).1) (i : Int))]) _ _ _ _ _ _ _ (row_C (hp.at_ 1 _ (by rfl))) (row_len (hp.at_ 1 _ (by rfl))).2 hso).mono ?_)
          rintro _ W_214 ⟨v_206, v_207, rfl, hR_204, hR_205, hb⟩
          refine ⟨_, rfl, ?_⟩
          obtain ⟨A_208, c_209, rfl, hcc_c_209, _⟩ := Kd.R_reads hR_204
          obtain ⟨A_211, c_212, rfl, hcc_c_212, _⟩ := Kd.R_reads hR_205
          obtain ⟨F_210, F_213, hp⟩ : ∃ F_210 F_213, Hp w (row k85 85 w.heap.size (.slice A_208 s2.ar.length c_209) s2.ar F_210 :: row k51 51 w.heap.size (.slice A_211 s2.ti.length c_212) s2.ti F_213 :: row k53 53 w.heap.size (.slice (some ⟨g_197, 0, none⟩) ([(rd_Play ((resPlaysFor l0 l1).1) (i : Int))].length) ([(rd_Play ((resPlaysFor l0 l1).1) (i : Int))].length)) ([(rd_Play ((resPlaysFor l0 l1).1) (i : Int))]) F_198 :: row k53 53 w.heap.size (.slice A_200 ((l0 ++ [(rd_Play ((resPlaysFor l0 l1).1) (i : Int))]).length) c_201) (l0 ++ [(rd_Play ((resPlaysFor l0 l1).1) (i : Int))]) F_202 :: blk g_189 #[.slice none 0 0, .slice none 0 0, .int .i64 0, .bool false, .bool false] 70 :: blk g_15 #[.int .i64 ((rd_Play ((resPlaysFor l0 l1).1) (i : Int)).f0.f0), .int .i64 ((rd_Play ((resPlaysFor l0 l1).1) (i : Int)).f0.f1), .int .i64 ((rd_Play ((resPlaysFor l0 l1).1) (i : Int)).f1)] 53 :: blk g_10 #[.int .i64 ((bestOn l0 l1 i).1.f0.f0), .int .i64 ((bestOn l0 l1 i).1.f0.f1), .int .i64 ((bestOn l0 l1 i).1.f1)] 53 :: row k53 53 w.heap.size (.slice A_6 (((resPlaysFor l0 l1).1).length) c_7) ((resPlaysFor l0 l1).1) F_8 :: blk g_1 #[.int .i64 0, .int .i64 0, .int .i64 0] 53 :: cs) _ := ⟨_, _, Hp.made2 hp hb rfl rfl hR_204 hR_205 (typed_apart hR_204 hR_205 (by decide))⟩
          refine step_fin hp.tail.tail.tail.tail.tail ?_
          refine treeI_rd rfl ?_
          refine sxq_val 29 (.tuple #[.agg #[.slice A_208 s2.ar.length c_209, .slice A_211 s2.ti.length c_212, .int .i64 s2.sp, .bool s2.w0, .bool s2.w1], .bool true]) (by rfl) (fun W hp => (by kernel_rfl)) ?_
          refine sxq_nil ?_
          refine treeI_rd rfl ?_
          refine sxq_val 36 (.agg #[.slice A_208 s2.ar.length c_209, .slice A_211 s2.ti.length c_212, .int .i64 s2.sp, .bool s2.w0, .bool s2.w1]) (by rfl) (fun W hp => (by kernel_rfl)) ?_
          refine sxq_nil ?_
          refine treeI_rd rfl ?_
          refine sxq_val 37 (.bool true) (by rfl) (fun W hp => (by kernel_rfl)) ?_
          refine sxq_nil ?_
          refine treeI_ev rfl ?_
          refine sx_store (t := 70) (p := (.tmp 13)) (x := (.tmp 36)) (by rfl) (by rfl) 4 (by rfl) 0 [.slice A_208 s2.ar.length c_209, .slice A_211 s2.ti.length c_212, .int .i64 s2.sp, .bool s2.w0, .bool s2.w1] (by rfl) (by rfl) (by kernel_rfl) (by simp [Value.oneCell']) (by show 5 ≤ 5; omega) #[.slice A_208 s2.ar.length c_209, .slice A_211 s2.ti.length c_212, .int .i64 s2.sp, .bool s2.w0, .bool s2.w1] (by rfl) hp ?_
          intro W_215 hp; simp only [List.set_cons_succ, List.set_cons_zero] at hp
          refine step_fin hp.tail.tail.tail.tail.tail ?_
          refine treeI_rd rfl ?_
          refine sxq_val 14 (.bool true) (by rfl) (fun W hp => (by kernel_rfl)) ?_
          refine sxq_nil ?_
          refine treeI_fin ?_
          exact ⟨_, g_189, A_208, c_209, A_211, c_212, F_210, F_213, fr_front [(0, .slice A0 l0.length c0), (4, .pointer (some ⟨g_1, 0, none⟩)), (9, .pointer (some ⟨g_10, 0, none⟩)), (10, .int .i64 ((bestOn l0 l1 i).2)), (12, .pointer (some ⟨g_15, 0, none⟩)), (13, .pointer (some ⟨g_189, 0, none⟩)), (23, .slice A_6 (((resPlaysFor l0 l1).1).length) c_7), (24, .int .i64 (((resPlaysFor l0 l1).1).length : Int)), (25, .int .i64 (i : Int))] ⟨rfl, rfl, rfl, rfl, rfl, rfl, rfl, rfl, rfl, trivial⟩, (hp.take [4, 0, 1, 5, 6, 7, 8] 9 (by decide) (by simp))⟩
        refine treeI_alt rfl ?_ ?_
        ·
          refine sx_lit 33 (by rfl) k53 w.heap.size 53 ([(rd_Play ((resPlaysFor l0 l1).1) (i : Int))]) [.int .i64 ((rd_Play ((resPlaysFor l0 l1).1) (i : Int)).f0.f0), .int .i64 ((rd_Play ((resPlaysFor l0 l1).1) (i : Int)).f0.f1), .int .i64 ((rd_Play ((resPlaysFor l0 l1).1) (i : Int)).f1)] (fun W => by kernel_rfl) (play_reps _ _ _) (by simp) hp.size hp ?_
          intro g_216 F_217 W_218 hp hz; clear hz
          refine step_fin hp.tail.tail ?_
          refine treeI_ev rfl ?_
          refine sx_call 31 (by rfl) (by kernel_rfl) ((slices_Clone_impl_Play_impl_Play.calls A0 c0 l0 _ _ (hC0 _ hp.tail.tail.tail.tail.tail.tail) hc0 (clone_playeq l0 (by omega))).mono ?_)
          rintro _ W_224 ⟨v_220, rfl, hR_219, hb⟩
          refine ⟨_, rfl, ?_⟩
          obtain ⟨A_221, c_222, rfl, hcc_c_222, _⟩ := Kd.R_reads hR_219
          obtain ⟨F_223, hp⟩ : ∃ F, Hp w (row k53 53 w.heap.size (.slice A_221 l0.length c_222) l0 F :: row k53 53 w.heap.size (.slice (some ⟨g_216, 0, none⟩) ([(rd_Play ((resPlaysFor l0 l1).1) (i : Int))].length) ([(rd_Play ((resPlaysFor l0 l1).1) (i : Int))].length)) ([(rd_Play ((resPlaysFor l0 l1).1) (i : Int))]) F_217 :: blk g_189 #[.slice none 0 0, .slice none 0 0, .int .i64 0, .bool false, .bool false] 70 :: blk g_15 #[.int .i64 ((rd_Play ((resPlaysFor l0 l1).1) (i : Int)).f0.f0), .int .i64 ((rd_Play ((resPlaysFor l0 l1).1) (i : Int)).f0.f1), .int .i64 ((rd_Play ((resPlaysFor l0 l1).1) (i : Int)).f1)] 53 :: blk g_10 #[.int .i64 ((bestOn l0 l1 i).1.f0.f0), .int .i64 ((bestOn l0 l1 i).1.f0.f1), .int .i64 ((bestOn l0 l1 i).1.f1)] 53 :: row k53 53 w.heap.size (.slice A_6 (((resPlaysFor l0 l1).1).length) c_7) ((resPlaysFor l0 l1).1) F_8 :: blk g_1 #[.int .i64 0, .int .i64 0, .int .i64 0] 53 :: cs) _ := ⟨_, Hp.made hp hb hR_219⟩
          refine step_fin hp.tail.tail.tail ?_
          refine treeI_ev rfl ?_
          refine sx_append 34 (by rfl) k53 0 (by rfl) (.agg #[.int .i64 0, .int .i64 0, .int .i64 0]) 24 (by rfl) Try.underlying26 (by kernel_rfl) rfl (by decide) (by decide) ([(rd_Play ((resPlaysFor l0 l1).1) (i : Int))]) (by rfl) (by rfl) (row_C (hp.at_ 1 _ (by rfl))) play_kp hp.size (by simp; omega) hp ?_
          intro A_225 c_226 F_227 W_228 hp hz; clear hz; simp only [List.set_cons_succ, List.set_cons_zero] at hp
          refine step_fin hp.tail.tail.tail ?_
          refine treeI_ev rfl ?_
          refine sx_call 35 (by rfl) (by kernel_rfl) ((impl_spreadOf.calls A_225 c_226 (l0 ++ [(rd_Play ((resPlaysFor l0 l1).1) (i : Int))]) _ _ _ _ _ _ _ (row_C (hp.at_ 0 _ (by rfl))) (row_len (hp.at_ 0 _ (by rfl))).2 hso).mono ?_)
          rintro _ W_239 ⟨v_231, v_232, rfl, hR_229, hR_230, hb⟩
          refine ⟨_, rfl, ?_⟩
          obtain ⟨A_233, c_234, rfl, hcc_c_234, _⟩ := Kd.R_reads hR_229
          obtain ⟨A_236, c_237, rfl, hcc_c_237, _⟩ := Kd.R_reads hR_230
          obtain ⟨F_235, F_238, hp⟩ : ∃ F_235 F_238, Hp w (row k85 85 w.heap.size (.slice A_233 s2.ar.length c_234) s2.ar F_235 :: row k51 51 w.heap.size (.slice A_236 s2.ti.length c_237) s2.ti F_238 :: row k53 53 w.heap.size (.slice A_225 ((l0 ++ [(rd_Play ((resPlaysFor l0 l1).1) (i : Int))]).length) c_226) (l0 ++ [(rd_Play ((resPlaysFor l0 l1).1) (i : Int))]) F_227 :: row k53 53 w.heap.size (.slice (some ⟨g_216, 0, none⟩) ([(rd_Play ((resPlaysFor l0 l1).1) (i : Int))].length) ([(rd_Play ((resPlaysFor l0 l1).1) (i : Int))].length)) ([(rd_Play ((resPlaysFor l0 l1).1) (i : Int))]) F_217 :: blk g_189 #[.slice none 0 0, .slice none 0 0, .int .i64 0, .bool false, .bool false] 70 :: blk g_15 #[.int .i64 ((rd_Play ((resPlaysFor l0 l1).1) (i : Int)).f0.f0), .int .i64 ((rd_Play ((resPlaysFor l0 l1).1) (i : Int)).f0.f1), .int .i64 ((rd_Play ((resPlaysFor l0 l1).1) (i : Int)).f1)] 53 :: blk g_10 #[.int .i64 ((bestOn l0 l1 i).1.f0.f0), .int .i64 ((bestOn l0 l1 i).1.f0.f1), .int .i64 ((bestOn l0 l1 i).1.f1)] 53 :: row k53 53 w.heap.size (.slice A_6 (((resPlaysFor l0 l1).1).length) c_7) ((resPlaysFor l0 l1).1) F_8 :: blk g_1 #[.int .i64 0, .int .i64 0, .int .i64 0] 53 :: cs) _ := ⟨_, _, Hp.made2 hp hb rfl rfl hR_229 hR_230 (typed_apart hR_229 hR_230 (by decide))⟩
          refine step_fin hp.tail.tail.tail.tail.tail ?_
          refine treeI_rd rfl ?_
          refine sxq_val 29 (.tuple #[.agg #[.slice A_233 s2.ar.length c_234, .slice A_236 s2.ti.length c_237, .int .i64 s2.sp, .bool s2.w0, .bool s2.w1], .bool true]) (by rfl) (fun W hp => (by kernel_rfl)) ?_
          refine sxq_nil ?_
          refine treeI_rd rfl ?_
          refine sxq_val 36 (.agg #[.slice A_233 s2.ar.length c_234, .slice A_236 s2.ti.length c_237, .int .i64 s2.sp, .bool s2.w0, .bool s2.w1]) (by rfl) (fun W hp => (by kernel_rfl)) ?_
          refine sxq_nil ?_
          refine treeI_rd rfl ?_
          refine sxq_val 37 (.bool true) (by rfl) (fun W hp => (by kernel_rfl)) ?_
          refine sxq_nil ?_
          refine treeI_ev rfl ?_
          refine sx_store (t := 70) (p := (.tmp 13)) (x := (.tmp 36)) (by rfl) (by rfl) 4 (by rfl) 0 [.slice A_233 s2.ar.length c_234, .slice A_236 s2.ti.length c_237, .int .i64 s2.sp, .bool s2.w0, .bool s2.w1] (by rfl) (by rfl) (by kernel_rfl) (by simp [Value.oneCell']) (by show 5 ≤ 5; omega) #[.slice A_233 s2.ar.length c_234, .slice A_236 s2.ti.length c_237, .int .i64 s2.sp, .bool s2.w0, .bool s2.w1] (by rfl) hp ?_
          intro W_240 hp; simp only [List.set_cons_succ, List.set_cons_zero] at hp
          refine step_fin hp.tail.tail.tail.tail.tail ?_
          refine treeI_rd rfl ?_
          refine sxq_val 14 (.bool true) (by rfl) (fun W hp => (by kernel_rfl)) ?_
          refine sxq_nil ?_
          refine treeI_fin ?_
          exact ⟨_, g_189, A_233, c_234, A_236, c_237, F_235, F_238, fr_front [(0, .slice A0 l0.length c0), (4, .pointer (some ⟨g_1, 0, none⟩)), (9, .pointer (some ⟨g_10, 0, none⟩)), (10, .int .i64 ((bestOn l0 l1 i).2)), (12, .pointer (some ⟨g_15, 0, none⟩)), (13, .pointer (some ⟨g_189, 0, none⟩)), (23, .slice A_6 (((resPlaysFor l0 l1).1).length) c_7), (24, .int .i64 (((resPlaysFor l0 l1).1).length : Int)), (25, .int .i64 (i : Int))] ⟨rfl, rfl, rfl, rfl, rfl, rfl, rfl, rfl, rfl, trivial⟩, (hp.take [4, 0, 1, 5, 6, 7, 8] 9 (by decide) (by simp))⟩
        exact treeI_non
      exact treeI_non
    ·
      rintro _ W_241 ⟨r, gm_46, Am_47, cm_48, Am_49, cm_50, Fm_51, Fm_52, rfl, hp⟩
      refine sx_nil ?_
      refine ex_then_n ?_
      refine wp_seq ?_
      refine sx_region ?_
      refine sx_rd 38 (.agg #[.slice Am_47 s2.ar.length cm_48, .slice Am_49 s2.ti.length cm_50, .int .i64 s2.sp, .bool s2.w0, .bool s2.w1]) (by rfl) (ldn (t := 70) (p := (.tmp 13)) (by rfl) (by rfl) (by kernel_rfl) (by kernel_rfl) (by kernel_rfl) (hp.at_ 0 _ (by rfl))) ?_
      obtain ⟨k_242, hk_k_242⟩ := Ev.rounds hpt
      refine sx_call 39 (by rfl) (by kernel_rfl) ((impl_spread_points.calls k_242 Am_47 cm_48 s2.ar Am_49 cm_50 s2.ti s2.sp s2.w0 s2.w1 _ _ (row_C (hp.at_ 1 _ (by rfl))) (row_len (hp.at_ 1 _ (by rfl))).2 (row_C (hp.at_ 2 _ (by rfl))) (row_len (hp.at_ 2 _ (by rfl))).2 hk_k_242).mono ?_)
      rintro _ W_243 ⟨rfl, hb⟩
      refine ⟨_, rfl, ?_⟩
      replace hp := hp.below hb
      clear hb
      refine sx_rd 15 (.int .i64 (ptsOf l0 (rd_Play (resPlaysFor l0 l1).1 (i : Int)))) (by rfl) (by kernel_rfl) ?_
      refine sx_nil ?_
      refine ex_then_n ?_
      refine wp_seq ?_
      refine sx_region ?_
      refine sx_rd 40 (.int .i64 (ptsOf l0 (rd_Play (resPlaysFor l0 l1).1 (i : Int)))) (by rfl) (by kernel_rfl) ?_
      refine sx_rd 41 (.int .i64 ((bestOn l0 l1 i).2)) (by rfl) (by kernel_rfl) ?_
      refine sx_rd 42 (.bool (decide ((ptsOf l0 (rd_Play (resPlaysFor l0 l1).1 (i : Int))) > (bestOn l0 l1 i).2))) (by rfl) (by kernel_rfl) ?_
      refine sx_nil ?_
      refine ex_then_n ?_
      refine sx_cond (decide ((ptsOf l0 (rd_Play (resPlaysFor l0 l1).1 (i : Int))) > (bestOn l0 l1 i).2)) (by rfl) (fun c_244 => ?_) (fun c_244 => ?_)
      ·
        have c_244p := of_decide_eq_true c_244
        refine sx_region ?_
        refine sx_rd 43 (.agg #[.int .i64 ((rd_Play ((resPlaysFor l0 l1).1) (i : Int)).f0.f0), .int .i64 ((rd_Play ((resPlaysFor l0 l1).1) (i : Int)).f0.f1), .int .i64 ((rd_Play ((resPlaysFor l0 l1).1) (i : Int)).f1)]) (by rfl) (ldn (t := 53) (p := (.tmp 12)) (by rfl) (by rfl) (by kernel_rfl) (by kernel_rfl) (by kernel_rfl) (hp.at_ 3 _ (by rfl))) ?_
        refine sx_rd 44 (.int .i64 (ptsOf l0 (rd_Play (resPlaysFor l0 l1).1 (i : Int)))) (by rfl) (by kernel_rfl) ?_
        refine sx_store (t := 53) (p := (.tmp 9)) (x := (.tmp 43)) (by rfl) (by rfl) 4 (by rfl) 0 [.int .i64 ((rd_Play ((resPlaysFor l0 l1).1) (i : Int)).f0.f0), .int .i64 ((rd_Play ((resPlaysFor l0 l1).1) (i : Int)).f0.f1), .int .i64 ((rd_Play ((resPlaysFor l0 l1).1) (i : Int)).f1)] (by rfl) (by rfl) (by kernel_rfl) (by simp [Value.oneCell']) (by show 3 ≤ 3; omega) #[.int .i64 ((rd_Play ((resPlaysFor l0 l1).1) (i : Int)).f0.f0), .int .i64 ((rd_Play ((resPlaysFor l0 l1).1) (i : Int)).f0.f1), .int .i64 ((rd_Play ((resPlaysFor l0 l1).1) (i : Int)).f1)] (by rfl) hp ?_
        intro W_245 hp; simp only [List.set_cons_succ, List.set_cons_zero] at hp
        refine sx_rd 10 (.int .i64 (ptsOf l0 (rd_Play (resPlaysFor l0 l1).1 (i : Int)))) (by rfl) (by kernel_rfl) ?_
        refine sx_nil ?_
        refine ex_blk_n ?_
        refine ex_then_n ?_
        refine sx_region ?_
        refine sx_rd 45 (.int .i64 ((i : Int) + 1)) (by rfl) (wr_ok (by omega) (by kernel_rfl)) ?_
        refine sx_rd 25 (.int .i64 ((i : Int) + 1)) (by rfl) (by kernel_rfl) ?_
        refine sx_nil ?_
        refine ex_then_n ?_
        have hq_246 : (ptsOf l0 (rd_Play (resPlaysFor l0 l1).1 (i : Int))) = (bestOn l0 l1 (i + 1)).2 := (by rw [bestOn_next l0 l1 i (by omega), if_pos c_244p])
        have hq_247 : (rd_Play ((resPlaysFor l0 l1).1) (i : Int)).f0.f0 = (bestOn l0 l1 (i + 1)).1.f0.f0 := (by rw [bestOn_next l0 l1 i (by omega), if_pos c_244p])
        rw [hq_247] at hp
        have hq_248 : (rd_Play ((resPlaysFor l0 l1).1) (i : Int)).f0.f1 = (bestOn l0 l1 (i + 1)).1.f0.f1 := (by rw [bestOn_next l0 l1 i (by omega), if_pos c_244p])
        rw [hq_248] at hp
        have hq_249 : (rd_Play ((resPlaysFor l0 l1).1) (i : Int)).f1 = (bestOn l0 l1 (i + 1)).1.f1 := (by rw [bestOn_next l0 l1 i (by omega), if_pos c_244p])
        rw [hq_249] at hp
        exact ⟨_, (by omega), _, (i + 1), rfl, fr_front [(0, .slice A0 l0.length c0), (4, .pointer (some ⟨g_1, 0, none⟩)), (9, .pointer (some ⟨g_10, 0, none⟩)), (10, .int .i64 ((bestOn l0 l1 (i + 1)).2)), (23, .slice A_6 (((resPlaysFor l0 l1).1).length) c_7), (24, .int .i64 (((resPlaysFor l0 l1).1).length : Int)), (25, .int .i64 ((i + 1 : Nat) : Int))] ⟨rfl, rfl, rfl, congrArg (Value.int .i64) hq_246, rfl, rfl, rfl, trivial⟩, (hp.take [4, 5, 6] 7 (by decide) (by simp)), (by omega)⟩
      ·
        have c_244p := of_decide_eq_false c_244
        refine wp_skip ?_
        refine ex_blk_n ?_
        refine ex_then_n ?_
        refine sx_region ?_
        refine sx_rd 45 (.int .i64 ((i : Int) + 1)) (by rfl) (wr_ok (by omega) (by kernel_rfl)) ?_
        refine sx_rd 25 (.int .i64 ((i : Int) + 1)) (by rfl) (by kernel_rfl) ?_
        refine sx_nil ?_
        refine ex_then_n ?_
        have hq_250 : (bestOn l0 l1 i).2 = (bestOn l0 l1 (i + 1)).2 := (by rw [bestOn_next l0 l1 i (by omega), if_neg c_244p])
        have hq_251 : (bestOn l0 l1 i).1.f0.f0 = (bestOn l0 l1 (i + 1)).1.f0.f0 := (by rw [bestOn_next l0 l1 i (by omega), if_neg c_244p])
        rw [hq_251] at hp
        have hq_252 : (bestOn l0 l1 i).1.f0.f1 = (bestOn l0 l1 (i + 1)).1.f0.f1 := (by rw [bestOn_next l0 l1 i (by omega), if_neg c_244p])
        rw [hq_252] at hp
        have hq_253 : (bestOn l0 l1 i).1.f1 = (bestOn l0 l1 (i + 1)).1.f1 := (by rw [bestOn_next l0 l1 i (by omega), if_neg c_244p])
        rw [hq_253] at hp
        exact ⟨_, (by omega), _, (i + 1), rfl, fr_front [(0, .slice A0 l0.length c0), (4, .pointer (some ⟨g_1, 0, none⟩)), (9, .pointer (some ⟨g_10, 0, none⟩)), (10, .int .i64 ((bestOn l0 l1 (i + 1)).2)), (23, .slice A_6 (((resPlaysFor l0 l1).1).length) c_7), (24, .int .i64 (((resPlaysFor l0 l1).1).length : Int)), (25, .int .i64 ((i + 1 : Nat) : Int))] ⟨rfl, rfl, rfl, congrArg (Value.int .i64) hq_250, rfl, rfl, rfl, trivial⟩, (hp.take [4, 5, 6] 7 (by decide) (by simp)), (by omega)⟩
  ·
    have c_14p := of_decide_eq_false c_14
    refine wp_exit ?_
    refine ex_then_e (ex_then_e (ex_blk_here ?_))
    refine ex_then_n ?_
    refine wp_seq ?_
    refine wp_seq ?_
    refine sx_region ?_
    refine sx_rd 46 (.int .i64 ((bestOn l0 l1 i).2)) (by rfl) (by kernel_rfl) ?_
    refine sx_rd 47 (.bool (decide ((bestOn l0 l1 i).2 < 0))) (by rfl) (by kernel_rfl) ?_
    refine sx_nil ?_
    refine ex_then_n ?_
    refine sx_cond (decide ((bestOn l0 l1 i).2 < 0)) (by rfl) (fun c_254 => ?_) (fun c_254 => ?_)
    ·
      have c_254p := of_decide_eq_true c_254
      refine wp_seq ?_
      refine sx_region ?_
      refine sx_rd 48 (.agg #[.int .i64 0, .int .i64 0, .int .i64 0]) (by rfl) (by kernel_rfl) ?_
      refine sx_store (t := 53) (p := (.tmp 4)) (x := (.tmp 48)) (by rfl) (by rfl) 2 (by rfl) 0 [.int .i64 0, .int .i64 0, .int .i64 0] (by rfl) (by rfl) (by kernel_rfl) (by simp [Value.oneCell']) (by show 3 ≤ 3; omega) #[.int .i64 0, .int .i64 0, .int .i64 0] (by rfl) hp ?_
      intro W_255 hp; simp only [List.set_cons_succ, List.set_cons_zero] at hp
      refine sx_rd 5 (.int .i64 0) (by rfl) (by kernel_rfl) ?_
      refine sx_rd 6 (.bool false) (by rfl) (by kernel_rfl) ?_
      refine sx_nil ?_
      refine ex_then_n ?_
      refine wp_ret ?_
      refine ex_then_r ?_
      refine sx_end (.tuple #[.agg #[.int .i64 0, .int .i64 0, .int .i64 0], .int .i64 0, .bool false]) (rescT3 (p := 4) (u := 5) (x := 6) (by rfl) (by rfl) (by kernel_rfl) (by kernel_rfl) (hp.at_ 2 _ (by rfl))) ?_
      have hbw := hc2 _ (hp.tail.tail.tail)
      obtain rfl : i = (resPlaysFor l0 l1).1.length := by omega
      rw [if_pos c_254p] at h
      simp only [Option.some.injEq, Prod.mk.injEq] at h; obtain ⟨rfl, rfl, rfl, rfl, rfl⟩ := h
      exact ⟨rfl, hbw⟩
    ·
      have c_254p := of_decide_eq_false c_254
      refine wp_skip ?_
      refine ex_then_n ?_
      refine wp_seq ?_
      refine sx_region ?_
      refine sx_rd 49 (.agg #[.int .i64 ((bestOn l0 l1 i).1.f0.f0), .int .i64 ((bestOn l0 l1 i).1.f0.f1), .int .i64 ((bestOn l0 l1 i).1.f1)]) (by rfl) (ldn (t := 53) (p := (.tmp 9)) (by rfl) (by rfl) (by kernel_rfl) (by kernel_rfl) (by kernel_rfl) (hp.at_ 0 _ (by rfl))) ?_
      refine sx_rd 50 (.int .i64 ((bestOn l0 l1 i).2)) (by rfl) (by kernel_rfl) ?_
      refine sx_store (t := 53) (p := (.tmp 4)) (x := (.tmp 49)) (by rfl) (by rfl) 2 (by rfl) 0 [.int .i64 ((bestOn l0 l1 i).1.f0.f0), .int .i64 ((bestOn l0 l1 i).1.f0.f1), .int .i64 ((bestOn l0 l1 i).1.f1)] (by rfl) (by rfl) (by kernel_rfl) (by simp [Value.oneCell']) (by show 3 ≤ 3; omega) #[.int .i64 ((bestOn l0 l1 i).1.f0.f0), .int .i64 ((bestOn l0 l1 i).1.f0.f1), .int .i64 ((bestOn l0 l1 i).1.f1)] (by rfl) hp ?_
      intro W_256 hp; simp only [List.set_cons_succ, List.set_cons_zero] at hp
      refine sx_rd 5 (.int .i64 ((bestOn l0 l1 i).2)) (by rfl) (by kernel_rfl) ?_
      refine sx_rd 6 (.bool true) (by rfl) (by kernel_rfl) ?_
      refine sx_nil ?_
      refine ex_then_n ?_
      refine wp_ret ?_
      refine sx_end (.tuple #[.agg #[.int .i64 ((bestOn l0 l1 i).1.f0.f0), .int .i64 ((bestOn l0 l1 i).1.f0.f1), .int .i64 ((bestOn l0 l1 i).1.f1)], .int .i64 ((bestOn l0 l1 i).2), .bool true]) (rescT3 (p := 4) (u := 5) (x := 6) (by rfl) (by rfl) (by kernel_rfl) (by kernel_rfl) (hp.at_ 2 _ (by rfl))) ?_
      have hbw := hc2 _ (hp.tail.tail.tail)
      obtain rfl : i = (resPlaysFor l0 l1).1.length := by omega
      rw [if_neg c_254p] at h
      simp only [Option.some.injEq, Prod.mk.injEq] at h; obtain ⟨rfl, rfl, rfl, rfl, rfl⟩ := h
      exact ⟨rfl, hbw⟩
end Go.Proofs.Ytlphnpinpflaaaa.Hd
