/- spec.lyMost, by hand: the plays with the most points. -/
import Derived.Test.YtlphnpinpflaaaaPMostA
import Derived.Test.YtlphnpinpflaaaaMSx2
namespace Go.Proofs.Ytlphnpinpflaaaa.Hd
open Go.RowKit Go.Proofs.Ytlphnpinpflaaaa.Pure Go.Proofs.YtlphnpinpflaaaaW.PrintWords Go.Proofs.YtlphnpinpflaaaaW.PrintLast Go.Proofs.YtlphnpinpflaaaaW.PrintMore
set_option linter.unusedVariables false
set_option linter.unusedSimpArgs false
set_option maxRecDepth 100000 in
set_option maxHeartbeats 40000000 in
theorem lyMost_sx : ∀ (d : Nat) (w0 W : World) (cs : List Chunk) (g : Nat) (s : LySt) (AA : Option Addr) (cA : Nat) (AB : Option Addr) (cB : Nat) (FA FB : Nat → Prop) (n : Nat) (hok : LyOk s n) (hn : n ≤ 28) (hd : 28 ≤ n + d) (hd2 : d ≤ 28) (hand : List S_Tile) (AH : Option Addr) (cH : Nat) (hlen : hand.length ≤ 1048576) (hcH : hand.length ≤ cH) (hH : ∀ W, Hp w0 cs W → Kd.C k51 W AH hand.length hand) (hp : Hp w0 (blk g #[.slice AA s.ar.length cA, .slice AB s.ti.length cB, .int .i64 s.sp, .int .i64 s.wt, .bool s.fi, .bool s.l0, .bool s.l1] 83 :: row k85 85 w0.heap.size (.slice AA s.ar.length cA) s.ar FA :: row k51 51 w0.heap.size (.slice AB s.ti.length cB) s.ti FB :: cs) W),
  Calls Try.prog 69 #[.pointer (some ⟨g, 0, none⟩), .slice AH hand.length cH] W fun e W' => ∃ A c F, e = .returned (.tuple #[.slice A (mostS d s hand).1.length c, .int .i64 (mostS d s hand).2]) ∧ Hp w0 (row k53 53 w0.heap.size (.slice A (mostS d s hand).1.length c) (mostS d s hand).1 F :: blk g #[.slice AA s.ar.length cA, .slice AB s.ti.length cB, .int .i64 s.sp, .int .i64 s.wt, .bool s.fi, .bool s.l0, .bool s.l1] 83 :: row k85 85 w0.heap.size (.slice AA s.ar.length cA) s.ar FA :: row k51 51 w0.heap.size (.slice AB s.ti.length cB) s.ti FB :: cs) W' := by
 intro d
 induction d using Nat.strongRecOn with
 | ind d ih =>
  intro w0 W cs g s AA cA AB cB FA FB n hok hn hd hd2 hand AH cH hlen hcH hH hp
  refine sx_enter (N := 53) (l := [.pointer (some ⟨g, 0, none⟩), .slice AH hand.length cH]) Try.func69 rfl rfl rfl ?_
  refine wp_seq ?_
  refine sx_region ?_
  refine sx_rd 4 (.slice none 0 0) (by rfl) (by kernel_rfl) ?_
  refine sx_rd 5 (.int .i64 0) (by rfl) (by kernel_rfl) ?_
  refine sx_nil ?_
  refine ex_then_n ?_
  refine wp_seq ?_
  refine sx_region ?_
  refine sx_rd 6 (.slice none 0 0) (by rfl) (by kernel_rfl) ?_
  refine sx_nil ?_
  refine ex_then_n ?_
  refine wp_seq ?_
  refine sx_region ?_
  refine sx_rd 7 (.int .i64 0) (by rfl) (by kernel_rfl) ?_
  refine sx_nil ?_
  refine ex_then_n ?_
  refine wp_seq ?_
  refine wp_seq ?_
  refine sx_region ?_
  refine sx_rd 13 (.pointer (some ⟨g, 0, none⟩)) (by rfl) (by kernel_rfl) ?_
  refine sx_rd 14 (.slice AH hand.length cH) (by rfl) (by kernel_rfl) ?_
  refine sx_call 15 (by rfl) (by kernel_rfl) ((lyFor_sx w0 _ (cs) g s AA cA AB cB w0.heap.size FA FB hand AH cH hlen hcH (by have := hok.ti; omega) (by have := hok.ar; omega) (fun W h => hH W h) (hp.take [0, 1, 2] 3 (by decide) (by simp))).mono ?_)
  rintro _ W_1 ⟨AF, nF, cF, FF, hfin, rfl, hp⟩
  refine ⟨_, rfl, ?_⟩
  rw [hfin] at hp
  obtain ⟨rfl, -⟩ := row_len (hp.at_ 0 _ (by rfl))
  refine sx_rd 16 (.int .i64 ((lyForF s hand).length : Int)) (by rfl) (by kernel_rfl) ?_
  refine sx_rd 17 (.int .i64 0) (by rfl) (by kernel_rfl) ?_
  refine sx_nil ?_
  refine ex_then_n ?_
  refine wp_block ?_
  have hlf := lyForF_len s hand (by have := hok.ar; omega)
  have hp := hp.nilrow k53 53 w0.heap.size
  refine wp_loop_ghost (fun n a W => ∃ (r : List (Nat × Value)) (i : Nat) (Ai6 : Option Addr) (ni6 ci6 : Nat) (Fi6 : Nat → Prop), n = (lyForF s hand).length - i ∧ a = fr 53 ([(0, .pointer (some ⟨g, 0, none⟩)), (1, .slice AH hand.length cH), (6, .slice Ai6 ni6 ci6), (7, .int .i64 ((mostTo d s hand i).2)), (15, .slice AF ((lyForF s hand).length) cF), (16, .int .i64 ((lyForF s hand).length : Int)), (17, .int .i64 (i : Int))] ++ r) ∧ Hp w0 (row k53 53 w0.heap.size (.slice Ai6 ni6 ci6) ((mostTo d s hand i).1) Fi6 :: row k53 53 w0.heap.size (.slice AF ((lyForF s hand).length) cF) (lyForF s hand) FF :: blk g #[.slice AA s.ar.length cA, .slice AB s.ti.length cB, .int .i64 s.sp, .int .i64 s.wt, .bool s.fi, .bool s.l0, .bool s.l1] 83 :: row k85 85 w0.heap.size (.slice AA s.ar.length cA) s.ar FA :: row k51 51 w0.heap.size (.slice AB s.ti.length cB) s.ti FB :: cs) W ∧ (i ≤ (lyForF s hand).length)) _ ⟨_, 0, _, _, _, _, rfl, fr_front [(0, .pointer (some ⟨g, 0, none⟩)), (1, .slice AH hand.length cH), (6, .slice none 0 0), (7, .int .i64 0), (15, .slice AF ((lyForF s hand).length) cF), (16, .int .i64 ((lyForF s hand).length : Int)), (17, .int .i64 0)] ⟨rfl, rfl, rfl, rfl, rfl, rfl, rfl, trivial⟩, (hp.take [0, 1, 2, 3, 4] 5 (by decide) (by simp)), Nat.zero_le _⟩ ?_
  rintro _ _ W_2 ⟨r, i, Ai6, ni6, ci6, Fi6, rfl, rfl, hp, hi⟩
  obtain ⟨rfl, hcci6⟩ := row_len (hp.at_ 0 _ (by rfl))
  have hmb := mostTo_bd d s n hand hok hd i
  refine wp_seq ?_
  refine sx_region ?_
  refine sx_rd 18 (.bool (decide ((i : Int) < ((lyForF s hand).length : Int)))) (by rfl) (by kernel_rfl) ?_
  refine sx_nil ?_
  refine ex_then_n ?_
  refine wp_seq ?_
  refine sx_cond (decide ((i : Int) < ((lyForF s hand).length : Int))) (by rfl) (fun c_3 => ?_) (fun c_3 => ?_)
  ·
   have c_3p := of_decide_eq_true c_3
   refine wp_skip ?_
   refine ex_then_n ?_
   refine wp_seq ?_
   refine wp_block ?_
   refine wp_seq ?_
   refine sx_region ?_
   refine sx_rd 19 (.pointer (some (adr AF (i : Int) 3))) (by rfl) (ix_run (d := k53) (row_C (hp.at_ 1 _ (by rfl))) (t := 26) (by rfl) (by rfl) (by rfl) Try.underlying26 (by kernel_rfl) (by omega) (by omega)) ?_
   refine sx_rd 20 (.agg #[.int .i64 ((rd_Play (lyForF s hand) (i : Int)).f0.f0), .int .i64 ((rd_Play (lyForF s hand) (i : Int)).f0.f1), .int .i64 ((rd_Play (lyForF s hand) (i : Int)).f1)]) (by rfl) (el_run (d := k53) (row_C (hp.at_ 1 _ (by rfl))) z53 (i : Int) (by omega) (by omega) (cells := [.int .i64 ((rd_Play (lyForF s hand) (i : Int)).f0.f0), .int .i64 ((rd_Play (lyForF s hand) (i : Int)).f0.f1), .int .i64 ((rd_Play (lyForF s hand) (i : Int)).f1)]) (fun cs h => k53_open h) 0 [.int .i64 ((rd_Play (lyForF s hand) (i : Int)).f0.f0), .int .i64 ((rd_Play (lyForF s hand) (i : Int)).f0.f1), .int .i64 ((rd_Play (lyForF s hand) (i : Int)).f1)] (by rfl) (t := 53) (p := (.tmp 19)) (by rfl) (by rfl) (by kernel_rfl) (by kernel_rfl)) ?_
   refine sx_box 9 hp #[.int .i64 0, .int .i64 0, .int .i64 0] 53 (by rfl) (fun W => by kernel_rfl) ?_
   intro g_4 W_5 hp
   refine sx_store (t := 53) (p := (.tmp 9)) (x := (.tmp 20)) (by rfl) (by rfl) 0 (by rfl) 0 [.int .i64 ((rd_Play (lyForF s hand) (i : Int)).f0.f0), .int .i64 ((rd_Play (lyForF s hand) (i : Int)).f0.f1), .int .i64 ((rd_Play (lyForF s hand) (i : Int)).f1)] (by rfl) (by rfl) (by kernel_rfl) (by simp [Value.oneCell']) (by show 3 ≤ 3; omega) #[.int .i64 ((rd_Play (lyForF s hand) (i : Int)).f0.f0), .int .i64 ((rd_Play (lyForF s hand) (i : Int)).f0.f1), .int .i64 ((rd_Play (lyForF s hand) (i : Int)).f1)] (by rfl) hp ?_
   intro W_6 hp; simp only [List.set_cons_succ, List.set_cons_zero] at hp
   refine sx_nil ?_
   refine ex_then_n ?_
   refine wp_seq ?_
   refine sx_region ?_
   refine sx_rd 21 (.pointer (some ⟨g, 0, none⟩)) (by rfl) (by kernel_rfl) ?_
   refine sx_call 22 (by rfl) (by kernel_rfl) ((lyCopy_sx w0 _ (blk g_4 #[.int .i64 ((rd_Play (lyForF s hand) (i : Int)).f0.f0), .int .i64 ((rd_Play (lyForF s hand) (i : Int)).f0.f1), .int .i64 ((rd_Play (lyForF s hand) (i : Int)).f1)] 53 :: row k53 53 w0.heap.size (.slice Ai6 (((mostTo d s hand i).1).length) ci6) ((mostTo d s hand i).1) Fi6 :: row k53 53 w0.heap.size (.slice AF ((lyForF s hand).length) cF) (lyForF s hand) FF :: cs) g s AA cA AB cB w0.heap.size FA FB (by have := hok.ti; omega) (by have := hok.ar; omega) (hp.take [3, 4, 5, 0, 1, 2] 6 (by decide) (by simp))).mono ?_)
   rintro _ W_7 ⟨g2, A3, c3, F3, A4, c4, F4, rfl, hp⟩
   refine ⟨_, rfl, ?_⟩
   replace hp := (hp.take [2, 1, 0, 6, 7, 8, 3, 4, 5] 9 (by decide) (by simp))
   refine sx_rd 10 (.pointer (some ⟨g2, 0, none⟩)) (by rfl) (by kernel_rfl) ?_
   refine sx_nil ?_
   refine ex_then_n ?_
   refine wp_seq ?_
   refine sx_region ?_
   refine sx_rd 23 (.pointer (some ⟨g2, 0, none⟩)) (by rfl) (by kernel_rfl) ?_
   refine sx_rd 24 (.agg #[.int .i64 ((rd_Play (lyForF s hand) (i : Int)).f0.f0), .int .i64 ((rd_Play (lyForF s hand) (i : Int)).f0.f1), .int .i64 ((rd_Play (lyForF s hand) (i : Int)).f1)]) (by rfl) (ldn (t := 53) (p := (.tmp 9)) (by rfl) (by rfl) (by kernel_rfl) (by kernel_rfl) (by kernel_rfl) (hp.at_ 3 _ (by rfl))) ?_
   obtain ⟨hcan, hok2, h28⟩ := lyFor_ok s hand n hok i (by omega)
   refine sx_call 25 (by rfl) (by kernel_rfl) ((lyAdd_sx w0 _ (blk g_4 #[.int .i64 ((rd_Play (lyForF s hand) (i : Int)).f0.f0), .int .i64 ((rd_Play (lyForF s hand) (i : Int)).f0.f1), .int .i64 ((rd_Play (lyForF s hand) (i : Int)).f1)] 53 :: row k53 53 w0.heap.size (.slice Ai6 (((mostTo d s hand i).1).length) ci6) ((mostTo d s hand i).1) Fi6 :: row k53 53 w0.heap.size (.slice AF ((lyForF s hand).length) cF) (lyForF s hand) FF :: blk g #[.slice AA s.ar.length cA, .slice AB s.ti.length cB, .int .i64 s.sp, .int .i64 s.wt, .bool s.fi, .bool s.l0, .bool s.l1] 83 :: row k85 85 w0.heap.size (.slice AA s.ar.length cA) s.ar FA :: row k51 51 w0.heap.size (.slice AB s.ti.length cB) s.ti FB :: cs) g2 s A3 c3 A4 c4 w0.heap.size F3 F4 (rd_Play (lyForF s hand) (i : Int)) (Nat.le_refl _) (by have := hok.ti; omega) (by have := hok.ar; omega) (hp.take [0, 1, 2, 3, 4, 5, 6, 7, 8] 9 (by decide) (by simp))).mono ?_)
   rintro _ W_8 ⟨s', A5, c5, A6, c6, F5, F6, rfl, hs', hp⟩
   refine ⟨.bool true, congrArg (fun b => Ending.returned (.bool b)) hcan, ?_⟩
   rw [hcan, if_pos rfl] at hs'; subst hs'
   refine sx_nil ?_
   refine ex_then_n ?_
   refine wp_seq ?_
   refine sx_region ?_
   refine sx_rd 27 (.pointer (some ⟨g2, 0, none⟩)) (by rfl) (by kernel_rfl) ?_
   refine sx_rd 28 (.slice AH hand.length cH) (by rfl) (by kernel_rfl) ?_
   refine sx_rd 29 (.pointer (some ⟨g_4, 0, none⟩)) (by rfl) (by kernel_rfl) ?_
   refine sx_rd 30 (.agg #[.int .i64 ((rd_Play (lyForF s hand) (i : Int)).f0.f0), .int .i64 ((rd_Play (lyForF s hand) (i : Int)).f0.f1)]) (by rfl) (ldn (t := 51) (p := (.tmp 29)) (by rfl) (by rfl) (by kernel_rfl) (by kernel_rfl) (by kernel_rfl) (hp.at_ 3 _ (by rfl))) ?_
   refine sx_lit 31 (by rfl) k51 w0.heap.size 51 ([(rd_Play (lyForF s hand) (i : Int)).f0]) [.int .i64 ((rd_Play (lyForF s hand) (i : Int)).f0.f0), .int .i64 ((rd_Play (lyForF s hand) (i : Int)).f0.f1)] (fun W => by kernel_rfl) (tile_reps _ _ _) (by simp) hp.size hp ?_
   intro g_9 F_10 W_11 hp hz; clear hz
   obtain ⟨k_12, hk_k_12⟩ := Ev.rounds (those_ev hand (rd_Play (lyForF s hand) (i : Int)).f0 (by omega))
   refine sx_call 32 (by rfl) (by kernel_rfl) ((spec_tiThose.calls k_12 AH cH hand (some ⟨g_9, 0, none⟩) ([(rd_Play (lyForF s hand) (i : Int)).f0].length) ([(rd_Play (lyForF s hand) (i : Int)).f0]) false _ _ (hH _ hp.tail.tail.tail.tail.tail.tail.tail.tail.tail.tail) hcH (row_C (hp.at_ 0 _ (by rfl))) (row_len (hp.at_ 0 _ (by rfl))).2 hk_k_12).mono ?_)
   rintro _ W_18 ⟨v_14, rfl, hR_13, hb⟩
   refine ⟨_, rfl, ?_⟩
   obtain ⟨A_15, c_16, rfl, hcc_c_16, _⟩ := Kd.R_reads hR_13
   obtain ⟨F_17, hp⟩ : ∃ F, Hp w0 (row k51 51 w0.heap.size (.slice A_15 (lessT hand (rd_Play (lyForF s hand) (i : Int)).f0).length c_16) (lessT hand (rd_Play (lyForF s hand) (i : Int)).f0) F :: row k51 51 w0.heap.size (.slice (some ⟨g_9, 0, none⟩) ([(rd_Play (lyForF s hand) (i : Int)).f0].length) ([(rd_Play (lyForF s hand) (i : Int)).f0].length)) ([(rd_Play (lyForF s hand) (i : Int)).f0]) F_10 :: blk g2 #[.slice A5 ((lyDo s (rd_Play (lyForF s hand) (i : Int))).ar.length) c5, .slice A6 ((lyDo s (rd_Play (lyForF s hand) (i : Int))).ti.length) c6, .int .i64 ((lyDo s (rd_Play (lyForF s hand) (i : Int))).sp), .int .i64 ((lyDo s (rd_Play (lyForF s hand) (i : Int))).wt), .bool ((lyDo s (rd_Play (lyForF s hand) (i : Int))).fi), .bool ((lyDo s (rd_Play (lyForF s hand) (i : Int))).l0), .bool ((lyDo s (rd_Play (lyForF s hand) (i : Int))).l1)] 83 :: row k85 85 w0.heap.size (.slice A5 ((lyDo s (rd_Play (lyForF s hand) (i : Int))).ar.length) c5) ((lyDo s (rd_Play (lyForF s hand) (i : Int))).ar) F5 :: row k51 51 w0.heap.size (.slice A6 ((lyDo s (rd_Play (lyForF s hand) (i : Int))).ti.length) c6) ((lyDo s (rd_Play (lyForF s hand) (i : Int))).ti) F6 :: blk g_4 #[.int .i64 ((rd_Play (lyForF s hand) (i : Int)).f0.f0), .int .i64 ((rd_Play (lyForF s hand) (i : Int)).f0.f1), .int .i64 ((rd_Play (lyForF s hand) (i : Int)).f1)] 53 :: row k53 53 w0.heap.size (.slice Ai6 (((mostTo d s hand i).1).length) ci6) ((mostTo d s hand i).1) Fi6 :: row k53 53 w0.heap.size (.slice AF ((lyForF s hand).length) cF) (lyForF s hand) FF :: blk g #[.slice AA s.ar.length cA, .slice AB s.ti.length cB, .int .i64 s.sp, .int .i64 s.wt, .bool s.fi, .bool s.l0, .bool s.l1] 83 :: row k85 85 w0.heap.size (.slice AA s.ar.length cA) s.ar FA :: row k51 51 w0.heap.size (.slice AB s.ti.length cB) s.ti FB :: cs) _ := ⟨_, Hp.made hp hb hR_13⟩
   refine sx_call 33 (by rfl) (by kernel_rfl) ((ih (d - 1) (by omega) w0 _ (row k51 51 w0.heap.size (.slice A_15 ((lessT hand (rd_Play (lyForF s hand) (i : Int)).f0).length) c_16) (lessT hand (rd_Play (lyForF s hand) (i : Int)).f0) F_17 :: row k51 51 w0.heap.size (.slice (some ⟨g_9, 0, none⟩) ([(rd_Play (lyForF s hand) (i : Int)).f0].length) ([(rd_Play (lyForF s hand) (i : Int)).f0].length)) ([(rd_Play (lyForF s hand) (i : Int)).f0]) F_10 :: blk g_4 #[.int .i64 ((rd_Play (lyForF s hand) (i : Int)).f0.f0), .int .i64 ((rd_Play (lyForF s hand) (i : Int)).f0.f1), .int .i64 ((rd_Play (lyForF s hand) (i : Int)).f1)] 53 :: row k53 53 w0.heap.size (.slice Ai6 (((mostTo d s hand i).1).length) ci6) ((mostTo d s hand i).1) Fi6 :: row k53 53 w0.heap.size (.slice AF ((lyForF s hand).length) cF) (lyForF s hand) FF :: blk g #[.slice AA s.ar.length cA, .slice AB s.ti.length cB, .int .i64 s.sp, .int .i64 s.wt, .bool s.fi, .bool s.l0, .bool s.l1] 83 :: row k85 85 w0.heap.size (.slice AA s.ar.length cA) s.ar FA :: row k51 51 w0.heap.size (.slice AB s.ti.length cB) s.ti FB :: cs) g2 (lyDo s (rd_Play (lyForF s hand) (i : Int))) A5 c5 A6 c6 F5 F6 (n + 1) hok2 h28 (by omega) (by omega) (lessT hand (rd_Play (lyForF s hand) (i : Int)).f0) A_15 c_16 (by have := lessT_len hand (rd_Play (lyForF s hand) (i : Int)).f0; omega) (row_len (hp.at_ 0 _ (by rfl))).2 (fun W h => row_C (h.at_ 0 _ (by rfl))) (hp.take [2, 3, 4, 0, 1, 5, 6, 7, 8, 9, 10] 11 (by decide) (by simp))).mono ?_)
   rintro _ W_19 ⟨AR, cR, FR, rfl, hp⟩
   refine ⟨_, rfl, ?_⟩
   have hrb := mostS_bd (d - 1) (lyDo s (rd_Play (lyForF s hand) (i : Int))) (n + 1) (lessT hand (rd_Play (lyForF s hand) (i : Int)).f0) hok2
   have hpb := lyPointsF_bd hok2 (by omega)
   refine sx_rd 26 (.tuple #[.slice AR ((mostS (d - 1) (lyDo s (rd_Play (lyForF s hand) (i : Int))) (lessT hand (rd_Play (lyForF s hand) (i : Int)).f0)).1.length) cR, .int .i64 ((mostS (d - 1) (lyDo s (rd_Play (lyForF s hand) (i : Int))) (lessT hand (rd_Play (lyForF s hand) (i : Int)).f0)).2)]) (by rfl) (by kernel_rfl) ?_
   refine sx_rd 34 (.slice AR ((mostS (d - 1) (lyDo s (rd_Play (lyForF s hand) (i : Int))) (lessT hand (rd_Play (lyForF s hand) (i : Int)).f0)).1.length) cR) (by rfl) (by kernel_rfl) ?_
   refine sx_rd 35 (.int .i64 ((mostS (d - 1) (lyDo s (rd_Play (lyForF s hand) (i : Int))) (lessT hand (rd_Play (lyForF s hand) (i : Int)).f0)).2)) (by rfl) (by kernel_rfl) ?_
   refine sx_rd 11 (.slice AR ((mostS (d - 1) (lyDo s (rd_Play (lyForF s hand) (i : Int))) (lessT hand (rd_Play (lyForF s hand) (i : Int)).f0)).1.length) cR) (by rfl) (by kernel_rfl) ?_
   refine sx_rd 12 (.int .i64 ((mostS (d - 1) (lyDo s (rd_Play (lyForF s hand) (i : Int))) (lessT hand (rd_Play (lyForF s hand) (i : Int)).f0)).2)) (by rfl) (by kernel_rfl) ?_
   refine sx_nil ?_
   refine ex_then_n ?_
   refine wp_seq ?_
   refine sx_region ?_
   refine sx_rd 36 (.int .i64 ((mostS (d - 1) (lyDo s (rd_Play (lyForF s hand) (i : Int))) (lessT hand (rd_Play (lyForF s hand) (i : Int)).f0)).2)) (by rfl) (by kernel_rfl) ?_
   refine sx_rd 37 (.pointer (some ⟨g2, 0, none⟩)) (by rfl) (by kernel_rfl) ?_
   refine sx_call 38 (by rfl) (by kernel_rfl) ((lyPoints_sx w0 _ (row k53 53 w0.heap.size (.slice AR ((mostS (d - 1) (lyDo s (rd_Play (lyForF s hand) (i : Int))) (lessT hand (rd_Play (lyForF s hand) (i : Int)).f0)).1.length) cR) ((mostS (d - 1) (lyDo s (rd_Play (lyForF s hand) (i : Int))) (lessT hand (rd_Play (lyForF s hand) (i : Int)).f0)).1) FR :: row k51 51 w0.heap.size (.slice A_15 ((lessT hand (rd_Play (lyForF s hand) (i : Int)).f0).length) c_16) (lessT hand (rd_Play (lyForF s hand) (i : Int)).f0) F_17 :: row k51 51 w0.heap.size (.slice (some ⟨g_9, 0, none⟩) ([(rd_Play (lyForF s hand) (i : Int)).f0].length) ([(rd_Play (lyForF s hand) (i : Int)).f0].length)) ([(rd_Play (lyForF s hand) (i : Int)).f0]) F_10 :: blk g_4 #[.int .i64 ((rd_Play (lyForF s hand) (i : Int)).f0.f0), .int .i64 ((rd_Play (lyForF s hand) (i : Int)).f0.f1), .int .i64 ((rd_Play (lyForF s hand) (i : Int)).f1)] 53 :: row k53 53 w0.heap.size (.slice Ai6 (((mostTo d s hand i).1).length) ci6) ((mostTo d s hand i).1) Fi6 :: row k53 53 w0.heap.size (.slice AF ((lyForF s hand).length) cF) (lyForF s hand) FF :: blk g #[.slice AA s.ar.length cA, .slice AB s.ti.length cB, .int .i64 s.sp, .int .i64 s.wt, .bool s.fi, .bool s.l0, .bool s.l1] 83 :: row k85 85 w0.heap.size (.slice AA s.ar.length cA) s.ar FA :: row k51 51 w0.heap.size (.slice AB s.ti.length cB) s.ti FB :: cs) g2 (lyDo s (rd_Play (lyForF s hand) (i : Int))) A5 c5 A6 c6 w0.heap.size F5 F6 (by have := hok2.ti; omega) (by have := hok2.ar; omega) ⟨hok2.ends, hok2.tiles⟩ (hp.take [1, 2, 3, 0, 4, 5, 6, 7, 8, 9, 10, 11] 12 (by decide) (by simp))).mono ?_)
   rintro _ W_20 ⟨rfl, hp⟩
   refine ⟨_, rfl, ?_⟩
   refine sx_rd 39 (.int .i64 ((mostS (d - 1) (lyDo s (rd_Play (lyForF s hand) (i : Int))) (lessT hand (rd_Play (lyForF s hand) (i : Int)).f0)).2 + (lyPointsF (lyDo s (rd_Play (lyForF s hand) (i : Int)))))) (by rfl) (wr_ok (by omega) (by kernel_rfl)) ?_
   refine sx_rd 40 (.int .i64 ((mostTo d s hand i).2)) (by rfl) (by kernel_rfl) ?_
   refine sx_rd 41 (.bool (decide (((mostS (d - 1) (lyDo s (rd_Play (lyForF s hand) (i : Int))) (lessT hand (rd_Play (lyForF s hand) (i : Int)).f0)).2 + (lyPointsF (lyDo s (rd_Play (lyForF s hand) (i : Int))))) > (mostTo d s hand i).2))) (by rfl) (by kernel_rfl) ?_
   refine sx_nil ?_
   refine ex_then_n ?_
   refine sx_cond (decide (((mostS (d - 1) (lyDo s (rd_Play (lyForF s hand) (i : Int))) (lessT hand (rd_Play (lyForF s hand) (i : Int)).f0)).2 + (lyPointsF (lyDo s (rd_Play (lyForF s hand) (i : Int))))) > (mostTo d s hand i).2)) (by rfl) (fun c_21 => ?_) (fun c_21 => ?_)
   ·
    have c_21p := of_decide_eq_true c_21
    refine wp_seq ?_
    refine sx_region ?_
    refine sx_rd 42 (.int .i64 ((mostS (d - 1) (lyDo s (rd_Play (lyForF s hand) (i : Int))) (lessT hand (rd_Play (lyForF s hand) (i : Int)).f0)).2)) (by rfl) (by kernel_rfl) ?_
    refine sx_rd 43 (.pointer (some ⟨g2, 0, none⟩)) (by rfl) (by kernel_rfl) ?_
    refine sx_call 44 (by rfl) (by kernel_rfl) ((lyPoints_sx w0 _ (row k53 53 w0.heap.size (.slice AR ((mostS (d - 1) (lyDo s (rd_Play (lyForF s hand) (i : Int))) (lessT hand (rd_Play (lyForF s hand) (i : Int)).f0)).1.length) cR) ((mostS (d - 1) (lyDo s (rd_Play (lyForF s hand) (i : Int))) (lessT hand (rd_Play (lyForF s hand) (i : Int)).f0)).1) FR :: row k51 51 w0.heap.size (.slice A_15 ((lessT hand (rd_Play (lyForF s hand) (i : Int)).f0).length) c_16) (lessT hand (rd_Play (lyForF s hand) (i : Int)).f0) F_17 :: row k51 51 w0.heap.size (.slice (some ⟨g_9, 0, none⟩) ([(rd_Play (lyForF s hand) (i : Int)).f0].length) ([(rd_Play (lyForF s hand) (i : Int)).f0].length)) ([(rd_Play (lyForF s hand) (i : Int)).f0]) F_10 :: blk g_4 #[.int .i64 ((rd_Play (lyForF s hand) (i : Int)).f0.f0), .int .i64 ((rd_Play (lyForF s hand) (i : Int)).f0.f1), .int .i64 ((rd_Play (lyForF s hand) (i : Int)).f1)] 53 :: row k53 53 w0.heap.size (.slice Ai6 (((mostTo d s hand i).1).length) ci6) ((mostTo d s hand i).1) Fi6 :: row k53 53 w0.heap.size (.slice AF ((lyForF s hand).length) cF) (lyForF s hand) FF :: blk g #[.slice AA s.ar.length cA, .slice AB s.ti.length cB, .int .i64 s.sp, .int .i64 s.wt, .bool s.fi, .bool s.l0, .bool s.l1] 83 :: row k85 85 w0.heap.size (.slice AA s.ar.length cA) s.ar FA :: row k51 51 w0.heap.size (.slice AB s.ti.length cB) s.ti FB :: cs) g2 (lyDo s (rd_Play (lyForF s hand) (i : Int))) A5 c5 A6 c6 w0.heap.size F5 F6 (by have := hok2.ti; omega) (by have := hok2.ar; omega) ⟨hok2.ends, hok2.tiles⟩ (hp.take [0, 1, 2, 3, 4, 5, 6, 7, 8, 9, 10, 11] 12 (by decide) (by simp))).mono ?_)
    rintro _ W_22 ⟨rfl, hp⟩
    refine ⟨_, rfl, ?_⟩
    refine sx_rd 45 (.int .i64 ((mostS (d - 1) (lyDo s (rd_Play (lyForF s hand) (i : Int))) (lessT hand (rd_Play (lyForF s hand) (i : Int)).f0)).2 + (lyPointsF (lyDo s (rd_Play (lyForF s hand) (i : Int)))))) (by rfl) (wr_ok (by omega) (by kernel_rfl)) ?_
    refine sx_rd 7 (.int .i64 ((mostS (d - 1) (lyDo s (rd_Play (lyForF s hand) (i : Int))) (lessT hand (rd_Play (lyForF s hand) (i : Int)).f0)).2 + (lyPointsF (lyDo s (rd_Play (lyForF s hand) (i : Int)))))) (by rfl) (by kernel_rfl) ?_
    refine sx_nil ?_
    refine ex_then_n ?_
    refine sx_region ?_
    refine sx_rd 46 (.agg #[.int .i64 ((rd_Play (lyForF s hand) (i : Int)).f0.f0), .int .i64 ((rd_Play (lyForF s hand) (i : Int)).f0.f1), .int .i64 ((rd_Play (lyForF s hand) (i : Int)).f1)]) (by rfl) (ldn (t := 53) (p := (.tmp 9)) (by rfl) (by rfl) (by kernel_rfl) (by kernel_rfl) (by kernel_rfl) (hp.at_ 6 _ (by rfl))) ?_
    refine sx_lit 47 (by rfl) k53 w0.heap.size 53 ([(rd_Play (lyForF s hand) (i : Int))]) [.int .i64 ((rd_Play (lyForF s hand) (i : Int)).f0.f0), .int .i64 ((rd_Play (lyForF s hand) (i : Int)).f0.f1), .int .i64 ((rd_Play (lyForF s hand) (i : Int)).f1)] (fun W => by kernel_rfl) (play_reps _ _ _) (by simp) hp.size hp ?_
    intro g_23 F_24 W_25 hp hz; clear hz
    refine sx_rd 48 (.slice AR ((mostS (d - 1) (lyDo s (rd_Play (lyForF s hand) (i : Int))) (lessT hand (rd_Play (lyForF s hand) (i : Int)).f0)).1.length) cR) (by rfl) (by kernel_rfl) ?_
    refine sx_append 49 (by rfl) k53 0 (by rfl) (.agg #[.int .i64 0, .int .i64 0, .int .i64 0]) 24 (by rfl) Try.underlying26 (by kernel_rfl) rfl (by decide) (by decide) ((mostS (d - 1) (lyDo s (rd_Play (lyForF s hand) (i : Int))) (lessT hand (rd_Play (lyForF s hand) (i : Int)).f0)).1) (by rfl) (by rfl) (row_C (hp.at_ 4 _ (by rfl))) play_kp hp.size (by simp; omega) hp ?_
    intro A_26 c_27 F_28 W_29 hp hz; clear hz; simp only [List.set_cons_succ, List.set_cons_zero] at hp
    refine sx_rd 6 (.slice A_26 (([(rd_Play (lyForF s hand) (i : Int))] ++ (mostS (d - 1) (lyDo s (rd_Play (lyForF s hand) (i : Int))) (lessT hand (rd_Play (lyForF s hand) (i : Int)).f0)).1).length) c_27) (by rfl) (by kernel_rfl) ?_
    refine sx_nil ?_
    refine ex_blk_n ?_
    refine ex_then_n ?_
    refine sx_region ?_
    refine sx_rd 50 (.int .i64 ((i : Int) + 1)) (by rfl) (wr_ok (by omega) (by kernel_rfl)) ?_
    refine sx_rd 17 (.int .i64 ((i : Int) + 1)) (by rfl) (by kernel_rfl) ?_
    refine sx_nil ?_
    refine ex_then_n ?_
    have hq_30 : ((mostS (d - 1) (lyDo s (rd_Play (lyForF s hand) (i : Int))) (lessT hand (rd_Play (lyForF s hand) (i : Int)).f0)).2 + (lyPointsF (lyDo s (rd_Play (lyForF s hand) (i : Int))))) = (mostTo d s hand (i + 1)).2 := (by rw [mostTo_next d s hand i (by omega)]; unfold mostStep; rw [if_pos c_21p] <;> rfl)
    have hq_31 : ([(rd_Play (lyForF s hand) (i : Int))] ++ (mostS (d - 1) (lyDo s (rd_Play (lyForF s hand) (i : Int))) (lessT hand (rd_Play (lyForF s hand) (i : Int)).f0)).1) = (mostTo d s hand (i + 1)).1 := (by rw [mostTo_next d s hand i (by omega)]; unfold mostStep; rw [if_pos c_21p] <;> rfl)
    rw [hq_31] at hp
    exact ⟨_, (by omega), _, (i + 1), _, _, _, _, rfl, fr_front [(0, .pointer (some ⟨g, 0, none⟩)), (1, .slice AH hand.length cH), (6, .slice A_26 (((mostTo d s hand (i + 1)).1).length) c_27), (7, .int .i64 ((mostTo d s hand (i + 1)).2)), (15, .slice AF ((lyForF s hand).length) cF), (16, .int .i64 ((lyForF s hand).length : Int)), (17, .int .i64 ((i + 1 : Nat) : Int))] ⟨rfl, rfl, congrArg (fun z : List S_Play => Value.slice A_26 z.length c_27) hq_31, congrArg (Value.int .i64) hq_30, rfl, rfl, rfl, trivial⟩, (hp.take [0, 9, 10, 11, 12] 13 (by decide) (by simp)), (by omega)⟩
   ·
    have c_21p := of_decide_eq_false c_21
    refine wp_skip ?_
    refine ex_blk_n ?_
    refine ex_then_n ?_
    refine sx_region ?_
    refine sx_rd 50 (.int .i64 ((i : Int) + 1)) (by rfl) (wr_ok (by omega) (by kernel_rfl)) ?_
    refine sx_rd 17 (.int .i64 ((i : Int) + 1)) (by rfl) (by kernel_rfl) ?_
    refine sx_nil ?_
    refine ex_then_n ?_
    have hq_32 : (mostTo d s hand i).2 = (mostTo d s hand (i + 1)).2 := (by rw [mostTo_next d s hand i (by omega)]; unfold mostStep; rw [if_neg c_21p])
    have hq_33 : (mostTo d s hand i).1 = (mostTo d s hand (i + 1)).1 := (by rw [mostTo_next d s hand i (by omega)]; unfold mostStep; rw [if_neg c_21p])
    rw [hq_33] at hp
    exact ⟨_, (by omega), _, (i + 1), _, _, _, _, rfl, fr_front [(0, .pointer (some ⟨g, 0, none⟩)), (1, .slice AH hand.length cH), (6, .slice Ai6 (((mostTo d s hand (i + 1)).1).length) ci6), (7, .int .i64 ((mostTo d s hand (i + 1)).2)), (15, .slice AF ((lyForF s hand).length) cF), (16, .int .i64 ((lyForF s hand).length : Int)), (17, .int .i64 ((i + 1 : Nat) : Int))] ⟨rfl, rfl, congrArg (fun z : List S_Play => Value.slice Ai6 z.length ci6) hq_33, congrArg (Value.int .i64) hq_32, rfl, rfl, rfl, trivial⟩, (hp.take [7, 8, 9, 10, 11] 12 (by decide) (by simp)), (by omega)⟩
  ·
   have c_3p := of_decide_eq_false c_3
   refine wp_exit ?_
   refine ex_then_e (ex_then_e (ex_blk_here ?_))
   refine ex_then_n ?_
   refine wp_seq ?_
   refine sx_region ?_
   refine sx_rd 51 (.slice Ai6 (((mostTo d s hand i).1).length) ci6) (by rfl) (by kernel_rfl) ?_
   refine sx_rd 52 (.int .i64 ((mostTo d s hand i).2)) (by rfl) (by kernel_rfl) ?_
   refine sx_rd 4 (.slice Ai6 (((mostTo d s hand i).1).length) ci6) (by rfl) (by kernel_rfl) ?_
   refine sx_rd 5 (.int .i64 ((mostTo d s hand i).2)) (by rfl) (by kernel_rfl) ?_
   refine sx_nil ?_
   refine ex_then_n ?_
   refine wp_ret ?_
   refine sx_end (.tuple #[.slice Ai6 (((mostTo d s hand i).1).length) ci6, .int .i64 ((mostTo d s hand i).2)]) (res2 4 5 (by rfl)) ?_
   obtain rfl : i = (lyForF s hand).length := by omega
   rw [mostTo_all hok hd hand] at hp ⊢
   exact ⟨_, _, _, rfl, (hp.take [0, 2, 3, 4] 5 (by decide) (by simp))⟩
end Go.Proofs.Ytlphnpinpflaaaa.Hd
