/- impl.playsFor, by hand: the plays that can be added. -/
import Derived.Test.YtlphnpinpflaaaaPPlaysA
import Derived.Test.YtlphnpinpflaaaaMSx3
import Derived.Test.YtlphnpinpflaaaaG1
namespace Go.Proofs.Ytlphnpinpflaaaa.Hd
open Go.RowKit Go.Proofs.Ytlphnpinpflaaaa.Pure Go.Proofs.YtlphnpinpflaaaaW.PrintWords Go.Proofs.YtlphnpinpflaaaaW.PrintLast Go.Proofs.YtlphnpinpflaaaaW.PrintMore
set_option linter.unusedVariables false
set_option linter.unusedSimpArgs false
def impl_playsFor.f (l : List S_Play) (hand : List S_Tile) : Option (List S_Play) := if l.length ≤ 1048576 ∧ hand.length ≤ 1048576 then (match lyReadF l with | some s => if handB hand = true then some (lyForF s hand) else none | none => none) else none
set_option maxRecDepth 100000 in
set_option maxHeartbeats 40000000 in
theorem impl_playsFor.calls (A0 : Option Addr) (c0 : Nat) (l0 : List S_Play) (A1 : Option Addr) (c1 : Nat) (l1 : List S_Tile) (r : List S_Play) (w : World) (hr0 : Kd.C k53 w A0 l0.length l0) (hc0 : l0.length ≤ c0) (hr1 : Kd.C k51 w A1 l1.length l1) (hc1 : l1.length ≤ c1) (h : impl_playsFor.f l0 l1 = some r) :
  Calls Try.prog 66 #[.slice A0 l0.length c0, .slice A1 l1.length c1] w fun e w' => ∃ v0_ : Value, e = .returned (v0_) ∧ Kd.R k53 53 w' w.heap.size (fun _ => True) v0_ r ∧ Below w.heap.size w w' := by
 unfold impl_playsFor.f at h
 by_cases hsz : l0.length ≤ 1048576 ∧ l1.length ≤ 1048576
 case neg => rw [if_neg hsz] at h; cases h
 rw [if_pos hsz] at h
 obtain ⟨hlen, hlen1⟩ := hsz
 cases hf : lyReadF l0 with
 | none => rw [hf] at h; cases h
 | some s =>
 rw [hf] at h
 dsimp only at h
 by_cases hb : handB l1 = true
 case neg => rw [if_neg hb] at h; cases h
 rw [if_pos hb] at h
 obtain rfl := Option.some.inj h
 obtain ⟨t, hso⟩ := spreadOf_some hf
 have hsort := sorted_hand hb
 have har : s.ar.length ≤ 100 := by have := (lyOk_read hf).1.ar; have := (lyOk_read hf).2; omega
 have hTl := sortT_len l1
 have hmx : mx 1 (s.ar.length : Int) = ((max 1 s.ar.length : Nat) : Int) := by rw [mx_max]; omega
 obtain ⟨cs, hcs⟩ : ∃ cs, cs = [old w w.heap.size] := ⟨_, rfl⟩
 have hp : Hp w cs w := by rw [hcs]; exact Hp.old_start w
 have hc2 : ∀ W, Hp w cs W → Below w.heap.size w W := fun W h => by rw [hcs] at h; exact h.since 0 _ rfl
 have hC0 : ∀ W, Hp w cs W → Kd.C k53 W A0 l0.length l0 := fun W h => Kd.C_below hr0 (hc2 W h)
 have hC1 : ∀ W, Hp w cs W → Kd.C k51 W A1 l1.length l1 := fun W h => Kd.C_below hr1 (hc2 W h)
 clear hcs
 refine sx_enter (N := 50) (l := [.slice A0 l0.length c0, .slice A1 l1.length c1]) Try.func66 rfl rfl rfl ?_
 refine wp_seq ?_
 refine sx_region ?_
 refine sx_rd 4 (.slice none 0 0) (by rfl) (by kernel_rfl) ?_
 refine sx_nil ?_
 refine ex_then_n ?_
 refine wp_seq ?_
 refine sx_region ?_
 refine sx_rd 13 (.slice A0 l0.length c0) (by rfl) (by kernel_rfl) ?_
 refine sx_call 14 (by rfl) (by kernel_rfl) ((impl_spreadOf.calls A0 c0 l0 _ _ _ _ _ _ _ (hC0 _ hp) hc0 hso).mono ?_)
 rintro _ W_11 ⟨v_3, v_4, rfl, hR_1, hR_2, hb⟩
 refine ⟨_, rfl, ?_⟩
 obtain ⟨A_5, c_6, rfl, hcc_c_6, _⟩ := Kd.R_reads hR_1
 obtain ⟨A_8, c_9, rfl, hcc_c_9, _⟩ := Kd.R_reads hR_2
 obtain ⟨F_7, F_10, hp⟩ : ∃ F_7 F_10, Hp w (row k85 85 w.heap.size (.slice A_5 s.ar.length c_6) s.ar F_7 :: row k51 51 w.heap.size (.slice A_8 s.ti.length c_9) s.ti F_10 :: cs) _ := ⟨_, _, Hp.made2 hp hb rfl rfl hR_1 hR_2 (typed_apart hR_1 hR_2 (by decide))⟩
 refine sx_rd 12 (.tuple #[.agg #[.slice A_5 s.ar.length c_6, .slice A_8 s.ti.length c_9, .int .i64 t.sp, .bool t.w0, .bool t.w1], .bool true]) (by rfl) (by kernel_rfl) ?_
 refine sx_rd 15 (.agg #[.slice A_5 s.ar.length c_6, .slice A_8 s.ti.length c_9, .int .i64 t.sp, .bool t.w0, .bool t.w1]) (by rfl) (by kernel_rfl) ?_
 refine sx_rd 16 (.bool true) (by rfl) (by kernel_rfl) ?_
 refine sx_box 5 hp #[.slice none 0 0, .slice none 0 0, .int .i64 0, .bool false, .bool false] 70 (by rfl) (fun W => by kernel_rfl) ?_
 intro g_12 W_13 hp
 refine sx_store (t := 70) (p := (.tmp 5)) (x := (.tmp 15)) (by rfl) (by rfl) 0 (by rfl) 0 [.slice A_5 s.ar.length c_6, .slice A_8 s.ti.length c_9, .int .i64 t.sp, .bool t.w0, .bool t.w1] (by rfl) (by rfl) (by kernel_rfl) (by simp [Value.oneCell']) (by show 5 ≤ 5; omega) #[.slice A_5 s.ar.length c_6, .slice A_8 s.ti.length c_9, .int .i64 t.sp, .bool t.w0, .bool t.w1] (by rfl) hp ?_
 intro W_14 hp; simp only [List.set_cons_succ, List.set_cons_zero] at hp
 refine sx_rd 6 (.bool true) (by rfl) (by kernel_rfl) ?_
 refine sx_nil ?_
 refine ex_then_n ?_
 refine wp_seq ?_
 refine sx_region ?_
 refine sx_lit 17 (by rfl) k53 w.heap.size 53 ([] : List S_Play) [] (fun W => by kernel_rfl) (Reps.none _ _) (by simp) hp.size hp ?_
 intro g_15 F_16 W_17 hp hz; clear hz
 refine sx_rd 7 (.slice (some ⟨g_15, 0, none⟩) (([] : List S_Play).length) (([] : List S_Play).length)) (by rfl) (by kernel_rfl) ?_
 refine sx_nil ?_
 refine ex_then_n ?_
 refine wp_seq ?_
 refine wp_seq ?_
 refine sx_region ?_
 refine sx_rd 18 (.slice A1 l1.length c1) (by rfl) (by kernel_rfl) ?_
 refine sx_call 19 (by rfl) (by kernel_rfl) ((impl_sorted.calls A1 c1 l1 _ _ (hC1 _ hp.tail.tail.tail.tail) hc1 hsort).mono ?_)
 rintro _ W_23 ⟨v_19, rfl, hR_18, hb⟩
 refine ⟨_, rfl, ?_⟩
 obtain ⟨A_20, c_21, rfl, hcc_c_21, _⟩ := Kd.R_reads hR_18
 obtain ⟨F_22, hp⟩ : ∃ F, Hp w (row k51 51 w.heap.size (.slice A_20 (sortT l1).length c_21) (sortT l1) F :: row k53 53 w.heap.size (.slice (some ⟨g_15, 0, none⟩) (([] : List S_Play).length) (([] : List S_Play).length)) ([] : List S_Play) F_16 :: blk g_12 #[.slice A_5 s.ar.length c_6, .slice A_8 s.ti.length c_9, .int .i64 t.sp, .bool t.w0, .bool t.w1] 70 :: row k85 85 w.heap.size (.slice A_5 s.ar.length c_6) s.ar F_7 :: row k51 51 w.heap.size (.slice A_8 s.ti.length c_9) s.ti F_10 :: cs) _ := ⟨_, Hp.made hp hb hR_18⟩
 refine sx_rd 20 (.int .i64 ((sortT l1).length : Int)) (by rfl) (by kernel_rfl) ?_
 refine sx_rd 21 (.int .i64 0) (by rfl) (by kernel_rfl) ?_
 refine sx_nil ?_
 refine ex_then_n ?_
 refine wp_block ?_
 refine wp_loop_ghost (fun n a W => ∃ (r : List (Nat × Value)) (i : Nat) (Ai7 : Option Addr) (ni7 ci7 : Nat) (Fi7 : Nat → Prop), n = (sortT l1).length - i ∧ a = fr 50 ([(0, .slice A0 l0.length c0), (5, .pointer (some ⟨g_12, 0, none⟩)), (7, .slice Ai7 ni7 ci7), (19, .slice A_20 ((sortT l1).length) c_21), (20, .int .i64 ((sortT l1).length : Int)), (21, .int .i64 (i : Int))] ++ r) ∧ Hp w (row k53 53 w.heap.size (.slice Ai7 ni7 ci7) (forTo s (sortT l1) i) Fi7 :: row k51 51 w.heap.size (.slice A_20 ((sortT l1).length) c_21) (sortT l1) F_22 :: blk g_12 #[.slice A_5 s.ar.length c_6, .slice A_8 s.ti.length c_9, .int .i64 t.sp, .bool t.w0, .bool t.w1] 70 :: row k85 85 w.heap.size (.slice A_5 s.ar.length c_6) s.ar F_7 :: row k51 51 w.heap.size (.slice A_8 s.ti.length c_9) s.ti F_10 :: cs) W ∧ (i ≤ (sortT l1).length)) _ ⟨_, 0, _, _, _, _, rfl, fr_front [(0, .slice A0 l0.length c0), (5, .pointer (some ⟨g_12, 0, none⟩)), (7, .slice (some ⟨g_15, 0, none⟩) (([] : List S_Play).length) (([] : List S_Play).length)), (19, .slice A_20 ((sortT l1).length) c_21), (20, .int .i64 ((sortT l1).length : Int)), (21, .int .i64 0)] ⟨rfl, rfl, rfl, rfl, rfl, rfl, trivial⟩, (hp.take [1, 0, 2, 3, 4] 5 (by decide) (by simp)), Nat.zero_le _⟩ ?_
 rintro _ _ W_24 ⟨r, i, Ai7, ni7, ci7, Fi7, rfl, rfl, hp, hi⟩
 obtain ⟨rfl, hcci7⟩ := row_len (hp.at_ 0 _ (by rfl))
 have hfl := forTo_len s (sortT l1) har i (by omega)
 refine wp_seq ?_
 refine sx_region ?_
 refine sx_rd 22 (.bool (decide ((i : Int) < ((sortT l1).length : Int)))) (by rfl) (by kernel_rfl) ?_
 refine sx_nil ?_
 refine ex_then_n ?_
 refine wp_seq ?_
 refine sx_cond (decide ((i : Int) < ((sortT l1).length : Int))) (by rfl) (fun c_25 => ?_) (fun c_25 => ?_)
 ·
  have c_25p := of_decide_eq_true c_25
  refine wp_skip ?_
  refine ex_then_n ?_
  refine wp_seq ?_
  refine wp_block ?_
  refine wp_seq ?_
  refine sx_region ?_
  refine sx_rd 23 (.pointer (some (adr A_20 (i : Int) 2))) (by rfl) (ix_run (d := k51) (row_C (hp.at_ 1 _ (by rfl))) (t := 44) (by rfl) (by rfl) (by rfl) Try.underlying44 (by kernel_rfl) (by omega) (by omega)) ?_
  refine sx_rd 24 (.agg #[.int .i64 ((rd_Tile (sortT l1) (i : Int)).f0), .int .i64 ((rd_Tile (sortT l1) (i : Int)).f1)]) (by rfl) (el_run (d := k51) (row_C (hp.at_ 1 _ (by rfl))) z51 (i : Int) (by omega) (by omega) (cells := [.int .i64 ((rd_Tile (sortT l1) (i : Int)).f0), .int .i64 ((rd_Tile (sortT l1) (i : Int)).f1)]) (fun cs h => k51_open h) 0 [.int .i64 ((rd_Tile (sortT l1) (i : Int)).f0), .int .i64 ((rd_Tile (sortT l1) (i : Int)).f1)] (by rfl) (t := 51) (p := (.tmp 23)) (by rfl) (by rfl) (by kernel_rfl) (by kernel_rfl)) ?_
  refine sx_box 9 hp #[.int .i64 0, .int .i64 0] 51 (by rfl) (fun W => by kernel_rfl) ?_
  intro g_26 W_27 hp
  refine sx_store (t := 51) (p := (.tmp 9)) (x := (.tmp 24)) (by rfl) (by rfl) 0 (by rfl) 0 [.int .i64 ((rd_Tile (sortT l1) (i : Int)).f0), .int .i64 ((rd_Tile (sortT l1) (i : Int)).f1)] (by rfl) (by rfl) (by kernel_rfl) (by simp [Value.oneCell']) (by show 2 ≤ 2; omega) #[.int .i64 ((rd_Tile (sortT l1) (i : Int)).f0), .int .i64 ((rd_Tile (sortT l1) (i : Int)).f1)] (by rfl) hp ?_
  intro W_28 hp; simp only [List.set_cons_succ, List.set_cons_zero] at hp
  refine sx_nil ?_
  refine ex_then_n ?_
  refine wp_seq ?_
  refine sx_region ?_
  refine sx_rd 25 (.pointer (some ⟨g_12, 0, none⟩)) (by rfl) (by kernel_rfl) ?_
  refine sx_rd 26 (.slice A_5 s.ar.length c_6) (by rfl) (ld1 (t := 67) (p := (.tmp 25)) (by rfl) (by rfl) (by kernel_rfl) (hp.cell 3 (by rfl) 0 _ (by rfl))) ?_
  refine sx_rd 27 (.int .i64 (s.ar.length : Int)) (by rfl) (by kernel_rfl) ?_
  refine sx_rd 28 (.int .i64 (mx 1 (s.ar.length : Int))) (by rfl) (by kernel_rfl) ?_
  refine sx_rd 29 (.int .i64 0) (by rfl) (by kernel_rfl) ?_
  refine sx_nil ?_
  refine ex_then_n ?_
  refine wp_block ?_
  have e0_29 : (forTo s (sortT l1) i) = (forTo s (sortT l1) i ++ armsTo s (rd_Tile (sortT l1) (i : Int)) 0) := by simp [armsTo]
  have hp : Hp w (blk g_26 #[.int .i64 ((rd_Tile (sortT l1) (i : Int)).f0), .int .i64 ((rd_Tile (sortT l1) (i : Int)).f1)] 51 :: row k53 53 w.heap.size (.slice Ai7 ((forTo s (sortT l1) i).length) ci7) (forTo s (sortT l1) i ++ armsTo s (rd_Tile (sortT l1) (i : Int)) 0) Fi7 :: row k51 51 w.heap.size (.slice A_20 ((sortT l1).length) c_21) (sortT l1) F_22 :: blk g_12 #[.slice A_5 s.ar.length c_6, .slice A_8 s.ti.length c_9, .int .i64 t.sp, .bool t.w0, .bool t.w1] 70 :: row k85 85 w.heap.size (.slice A_5 s.ar.length c_6) s.ar F_7 :: row k51 51 w.heap.size (.slice A_8 s.ti.length c_9) s.ti F_10 :: cs) W_28 := by rw [← e0_29]; exact hp
  refine wp_loop_ghost (fun n a W => ∃ (r : List (Nat × Value)) (j : Nat) (Aj7 : Option Addr) (nj7 cj7 : Nat) (Fj7 : Nat → Prop), n = (max 1 s.ar.length) - j ∧ a = fr 50 ([(0, .slice A0 l0.length c0), (5, .pointer (some ⟨g_12, 0, none⟩)), (7, .slice Aj7 nj7 cj7), (9, .pointer (some ⟨g_26, 0, none⟩)), (19, .slice A_20 ((sortT l1).length) c_21), (20, .int .i64 ((sortT l1).length : Int)), (21, .int .i64 (i : Int)), (28, .int .i64 (mx 1 (s.ar.length : Int))), (29, .int .i64 (j : Int))] ++ r) ∧ Hp w (row k53 53 w.heap.size (.slice Aj7 nj7 cj7) (forTo s (sortT l1) i ++ armsTo s (rd_Tile (sortT l1) (i : Int)) j) Fj7 :: blk g_26 #[.int .i64 ((rd_Tile (sortT l1) (i : Int)).f0), .int .i64 ((rd_Tile (sortT l1) (i : Int)).f1)] 51 :: row k51 51 w.heap.size (.slice A_20 ((sortT l1).length) c_21) (sortT l1) F_22 :: blk g_12 #[.slice A_5 s.ar.length c_6, .slice A_8 s.ti.length c_9, .int .i64 t.sp, .bool t.w0, .bool t.w1] 70 :: row k85 85 w.heap.size (.slice A_5 s.ar.length c_6) s.ar F_7 :: row k51 51 w.heap.size (.slice A_8 s.ti.length c_9) s.ti F_10 :: cs) W ∧ (j ≤ (max 1 s.ar.length))) _ ⟨_, 0, _, _, _, _, rfl, fr_front [(0, .slice A0 l0.length c0), (5, .pointer (some ⟨g_12, 0, none⟩)), (7, .slice Ai7 ((forTo s (sortT l1) i).length) ci7), (9, .pointer (some ⟨g_26, 0, none⟩)), (19, .slice A_20 ((sortT l1).length) c_21), (20, .int .i64 ((sortT l1).length : Int)), (21, .int .i64 (i : Int)), (28, .int .i64 (mx 1 (s.ar.length : Int))), (29, .int .i64 0)] ⟨rfl, rfl, rfl, rfl, rfl, rfl, rfl, rfl, rfl, trivial⟩, (hp.take [1, 0, 2, 3, 4, 5] 6 (by decide) (by simp)), Nat.zero_le _⟩ ?_
  rintro _ _ W_30 ⟨r, j, Aj7, nj7, cj7, Fj7, rfl, rfl, hp, hj⟩
  obtain ⟨rfl, hccj7⟩ := row_len (hp.at_ 0 _ (by rfl))
  have hal := armsTo_len s (rd_Tile (sortT l1) (i : Int)) j
  refine wp_seq ?_
  refine sx_region ?_
  refine sx_rd 30 (.bool (decide ((j : Int) < (mx 1 (s.ar.length : Int))))) (by rfl) (by kernel_rfl) ?_
  refine sx_nil ?_
  refine ex_then_n ?_
  refine wp_seq ?_
  refine sx_cond (decide ((j : Int) < (mx 1 (s.ar.length : Int)))) (by rfl) (fun c_31 => ?_) (fun c_31 => ?_)
  ·
   have c_31p := of_decide_eq_true c_31
   refine wp_skip ?_
   refine ex_then_n ?_
   refine wp_seq ?_
   refine wp_block ?_
   refine wp_seq ?_
   refine sx_region ?_
   refine sx_rd 31 (.int .i64 (j : Int)) (by rfl) (by kernel_rfl) ?_
   refine sx_rd 10 (.int .i64 (j : Int)) (by rfl) (by kernel_rfl) ?_
   refine sx_nil ?_
   refine ex_then_n ?_
   refine wp_seq ?_
   refine sx_drawI (fun a W => ∃ (r : List (Nat × Value)) (Am_46 : Option Addr) (cm_47 : Nat) (Fm_48 : Nat → Prop), a = fr 50 ([(0, .slice A0 l0.length c0), (5, .pointer (some ⟨g_12, 0, none⟩)), (7, .slice Aj7 ((forTo s (sortT l1) i ++ armsTo s (rd_Tile (sortT l1) (i : Int)) j).length) cj7), (9, .pointer (some ⟨g_26, 0, none⟩)), (10, .int .i64 (j : Int)), (11, .slice Am_46 ((l0 ++ [(⟨(rd_Tile (sortT l1) (i : Int)), (j : Int)⟩ : S_Play)]).length) cm_47), (19, .slice A_20 ((sortT l1).length) c_21), (20, .int .i64 ((sortT l1).length : Int)), (21, .int .i64 (i : Int)), (28, .int .i64 (mx 1 (s.ar.length : Int))), (29, .int .i64 (j : Int))] ++ r) ∧ Hp w (row k53 53 w.heap.size (.slice Am_46 ((l0 ++ [(⟨(rd_Tile (sortT l1) (i : Int)), (j : Int)⟩ : S_Play)]).length) cm_47) (l0 ++ [(⟨(rd_Tile (sortT l1) (i : Int)), (j : Int)⟩ : S_Play)]) Fm_48 :: row k53 53 w.heap.size (.slice Aj7 ((forTo s (sortT l1) i ++ armsTo s (rd_Tile (sortT l1) (i : Int)) j).length) cj7) (forTo s (sortT l1) i ++ armsTo s (rd_Tile (sortT l1) (i : Int)) j) Fj7 :: blk g_26 #[.int .i64 ((rd_Tile (sortT l1) (i : Int)).f0), .int .i64 ((rd_Tile (sortT l1) (i : Int)).f1)] 51 :: row k51 51 w.heap.size (.slice A_20 ((sortT l1).length) c_21) (sortT l1) F_22 :: blk g_12 #[.slice A_5 s.ar.length c_6, .slice A_8 s.ti.length c_9, .int .i64 t.sp, .bool t.w0, .bool t.w1] 70 :: row k85 85 w.heap.size (.slice A_5 s.ar.length c_6) s.ar F_7 :: row k51 51 w.heap.size (.slice A_8 s.ti.length c_9) s.ti F_10 :: cs) W) [0, 3] (.rd 2 (.rd 4 (.alt 1 (.alt 5 (.alt 6 (.rd 7 (.fin)) .non) .non) (.alt 5 (.alt 1 (.alt 6 (.rd 7 (.fin)) .non) .non) (.non))))) 8 (C := Hp w (row k53 53 w.heap.size (.slice Aj7 ((forTo s (sortT l1) i ++ armsTo s (rd_Tile (sortT l1) (i : Int)) j).length) cj7) (forTo s (sortT l1) i ++ armsTo s (rd_Tile (sortT l1) (i : Int)) j) Fj7 :: blk g_26 #[.int .i64 ((rd_Tile (sortT l1) (i : Int)).f0), .int .i64 ((rd_Tile (sortT l1) (i : Int)).f1)] 51 :: row k51 51 w.heap.size (.slice A_20 ((sortT l1).length) c_21) (sortT l1) F_22 :: blk g_12 #[.slice A_5 s.ar.length c_6, .slice A_8 s.ti.length c_9, .int .i64 t.sp, .bool t.w0, .bool t.w1] 70 :: row k85 85 w.heap.size (.slice A_5 s.ar.length c_6) s.ar F_7 :: row k51 51 w.heap.size (.slice A_8 s.ti.length c_9) s.ti F_10 :: cs)) (by kernel_rfl) (by kernel_rfl) (fun d _ _ _ _ h => by cases d <;> exact h) (fun W h => h.drew) hp ?_ ?_
   ·
    refine preI_read rfl ?_
    refine sxq_val 32 (.slice A0 l0.length c0) (by rfl) (fun W _ => (by kernel_rfl)) ?_
    refine sxq_nil ?_
    refine preI_read rfl ?_
    refine sxq_val 35 (.int .i64 (j : Int)) (by rfl) (fun W _ => (by kernel_rfl)) ?_
    refine sxq_nil ?_
    refine preI_nil ?_
    intro W_32 hp
    refine treeI_rd rfl ?_
    refine sxq_val 34 (.agg #[.int .i64 ((rd_Tile (sortT l1) (i : Int)).f0), .int .i64 ((rd_Tile (sortT l1) (i : Int)).f1)]) (by rfl) (fun W hp => (ldn (t := 51) (p := (.tmp 9)) (by rfl) (by rfl) (by kernel_rfl) (by kernel_rfl) (by kernel_rfl) (hp.at_ 1 _ (by rfl)))) ?_
    refine sxq_nil ?_
    refine treeI_rd rfl ?_
    refine sxq_val 36 (.agg #[.int .i64 ((rd_Tile (sortT l1) (i : Int)).f0), .int .i64 ((rd_Tile (sortT l1) (i : Int)).f1), .int .i64 (j : Int)]) (by rfl) (fun W hp => (by kernel_rfl)) ?_
    refine sxq_nil ?_
    refine treeI_alt rfl ?_ ?_
    ·
     refine sx_call 33 (by rfl) (by kernel_rfl) ((slices_Clone_impl_Play_impl_Play.calls A0 c0 l0 _ _ (hC0 _ hp.tail.tail.tail.tail.tail.tail) hc0 (clone_playeq l0 (by omega))).mono ?_)
     rintro _ W_38 ⟨v_34, rfl, hR_33, hb⟩
     refine ⟨_, rfl, ?_⟩
     obtain ⟨A_35, c_36, rfl, hcc_c_36, _⟩ := Kd.R_reads hR_33
     obtain ⟨F_37, hp⟩ : ∃ F, Hp w (row k53 53 w.heap.size (.slice A_35 l0.length c_36) l0 F :: row k53 53 w.heap.size (.slice Aj7 ((forTo s (sortT l1) i ++ armsTo s (rd_Tile (sortT l1) (i : Int)) j).length) cj7) (forTo s (sortT l1) i ++ armsTo s (rd_Tile (sortT l1) (i : Int)) j) Fj7 :: blk g_26 #[.int .i64 ((rd_Tile (sortT l1) (i : Int)).f0), .int .i64 ((rd_Tile (sortT l1) (i : Int)).f1)] 51 :: row k51 51 w.heap.size (.slice A_20 ((sortT l1).length) c_21) (sortT l1) F_22 :: blk g_12 #[.slice A_5 s.ar.length c_6, .slice A_8 s.ti.length c_9, .int .i64 t.sp, .bool t.w0, .bool t.w1] 70 :: row k85 85 w.heap.size (.slice A_5 s.ar.length c_6) s.ar F_7 :: row k51 51 w.heap.size (.slice A_8 s.ti.length c_9) s.ti F_10 :: cs) _ := ⟨_, Hp.made hp hb hR_33⟩
     refine step_fin hp.tail ?_
     refine treeI_ev rfl ?_
     refine sx_lit 37 (by rfl) k53 w.heap.size 53 ([(⟨(rd_Tile (sortT l1) (i : Int)), (j : Int)⟩ : S_Play)]) [.int .i64 ((rd_Tile (sortT l1) (i : Int)).f0), .int .i64 ((rd_Tile (sortT l1) (i : Int)).f1), .int .i64 (j : Int)] (fun W => by kernel_rfl) (play_reps _ _ _) (by simp) hp.size hp ?_
     intro g_39 F_40 W_41 hp hz; clear hz
     refine step_fin hp.tail.tail ?_
     refine treeI_ev rfl ?_
     refine sx_append 38 (by rfl) k53 1 (by rfl) (.agg #[.int .i64 0, .int .i64 0, .int .i64 0]) 24 (by rfl) Try.underlying26 (by kernel_rfl) rfl (by decide) (by decide) ([(⟨(rd_Tile (sortT l1) (i : Int)), (j : Int)⟩ : S_Play)]) (by rfl) (by rfl) (row_C (hp.at_ 0 _ (by rfl))) play_kp hp.size (by first | omega | (simp; omega)) hp ?_
     intro A_42 c_43 F_44 W_45 hp hz; clear hz; simp only [List.set_cons_succ, List.set_cons_zero] at hp
     refine step_fin hp.tail.tail ?_
     refine treeI_rd rfl ?_
     refine sxq_val 11 (.slice A_42 ((l0 ++ [(⟨(rd_Tile (sortT l1) (i : Int)), (j : Int)⟩ : S_Play)]).length) c_43) (by rfl) (fun W hp => (by kernel_rfl)) ?_
     refine sxq_nil ?_
     refine treeI_fin ?_
     exact ⟨_, A_42, c_43, F_44, fr_front [(0, .slice A0 l0.length c0), (5, .pointer (some ⟨g_12, 0, none⟩)), (7, .slice Aj7 ((forTo s (sortT l1) i ++ armsTo s (rd_Tile (sortT l1) (i : Int)) j).length) cj7), (9, .pointer (some ⟨g_26, 0, none⟩)), (10, .int .i64 (j : Int)), (11, .slice A_42 ((l0 ++ [(⟨(rd_Tile (sortT l1) (i : Int)), (j : Int)⟩ : S_Play)]).length) c_43), (19, .slice A_20 ((sortT l1).length) c_21), (20, .int .i64 ((sortT l1).length : Int)), (21, .int .i64 (i : Int)), (28, .int .i64 (mx 1 (s.ar.length : Int))), (29, .int .i64 (j : Int))] ⟨rfl, rfl, rfl, rfl, rfl, rfl, rfl, rfl, rfl, rfl, rfl, trivial⟩, (hp.take [1, 2, 3, 4, 5, 6, 7] 8 (by decide) (by simp))⟩
    refine treeI_alt rfl ?_ ?_
    ·
     refine sx_lit 37 (by rfl) k53 w.heap.size 53 ([(⟨(rd_Tile (sortT l1) (i : Int)), (j : Int)⟩ : S_Play)]) [.int .i64 ((rd_Tile (sortT l1) (i : Int)).f0), .int .i64 ((rd_Tile (sortT l1) (i : Int)).f1), .int .i64 (j : Int)] (fun W => by kernel_rfl) (play_reps _ _ _) (by simp) hp.size hp ?_
     intro g_49 F_50 W_51 hp hz; clear hz
     refine step_fin hp.tail ?_
     refine treeI_ev rfl ?_
     refine sx_call 33 (by rfl) (by kernel_rfl) ((slices_Clone_impl_Play_impl_Play.calls A0 c0 l0 _ _ (hC0 _ hp.tail.tail.tail.tail.tail.tail.tail) hc0 (clone_playeq l0 (by omega))).mono ?_)
     rintro _ W_57 ⟨v_53, rfl, hR_52, hb⟩
     refine ⟨_, rfl, ?_⟩
     obtain ⟨A_54, c_55, rfl, hcc_c_55, _⟩ := Kd.R_reads hR_52
     obtain ⟨F_56, hp⟩ : ∃ F, Hp w (row k53 53 w.heap.size (.slice A_54 l0.length c_55) l0 F :: row k53 53 w.heap.size (.slice (some ⟨g_49, 0, none⟩) ([(⟨(rd_Tile (sortT l1) (i : Int)), (j : Int)⟩ : S_Play)].length) ([(⟨(rd_Tile (sortT l1) (i : Int)), (j : Int)⟩ : S_Play)].length)) ([(⟨(rd_Tile (sortT l1) (i : Int)), (j : Int)⟩ : S_Play)]) F_50 :: row k53 53 w.heap.size (.slice Aj7 ((forTo s (sortT l1) i ++ armsTo s (rd_Tile (sortT l1) (i : Int)) j).length) cj7) (forTo s (sortT l1) i ++ armsTo s (rd_Tile (sortT l1) (i : Int)) j) Fj7 :: blk g_26 #[.int .i64 ((rd_Tile (sortT l1) (i : Int)).f0), .int .i64 ((rd_Tile (sortT l1) (i : Int)).f1)] 51 :: row k51 51 w.heap.size (.slice A_20 ((sortT l1).length) c_21) (sortT l1) F_22 :: blk g_12 #[.slice A_5 s.ar.length c_6, .slice A_8 s.ti.length c_9, .int .i64 t.sp, .bool t.w0, .bool t.w1] 70 :: row k85 85 w.heap.size (.slice A_5 s.ar.length c_6) s.ar F_7 :: row k51 51 w.heap.size (.slice A_8 s.ti.length c_9) s.ti F_10 :: cs) _ := ⟨_, Hp.made hp hb hR_52⟩
     refine step_fin hp.tail.tail ?_
     refine treeI_ev rfl ?_
     refine sx_append 38 (by rfl) k53 0 (by rfl) (.agg #[.int .i64 0, .int .i64 0, .int .i64 0]) 24 (by rfl) Try.underlying26 (by kernel_rfl) rfl (by decide) (by decide) ([(⟨(rd_Tile (sortT l1) (i : Int)), (j : Int)⟩ : S_Play)]) (by rfl) (by rfl) (row_C (hp.at_ 1 _ (by rfl))) play_kp hp.size (by first | omega | (simp; omega)) hp ?_
     intro A_58 c_59 F_60 W_61 hp hz; clear hz; simp only [List.set_cons_succ, List.set_cons_zero] at hp
     refine step_fin hp.tail.tail ?_
     refine treeI_rd rfl ?_
     refine sxq_val 11 (.slice A_58 ((l0 ++ [(⟨(rd_Tile (sortT l1) (i : Int)), (j : Int)⟩ : S_Play)]).length) c_59) (by rfl) (fun W hp => (by kernel_rfl)) ?_
     refine sxq_nil ?_
     refine treeI_fin ?_
     exact ⟨_, A_58, c_59, F_60, fr_front [(0, .slice A0 l0.length c0), (5, .pointer (some ⟨g_12, 0, none⟩)), (7, .slice Aj7 ((forTo s (sortT l1) i ++ armsTo s (rd_Tile (sortT l1) (i : Int)) j).length) cj7), (9, .pointer (some ⟨g_26, 0, none⟩)), (10, .int .i64 (j : Int)), (11, .slice A_58 ((l0 ++ [(⟨(rd_Tile (sortT l1) (i : Int)), (j : Int)⟩ : S_Play)]).length) c_59), (19, .slice A_20 ((sortT l1).length) c_21), (20, .int .i64 ((sortT l1).length : Int)), (21, .int .i64 (i : Int)), (28, .int .i64 (mx 1 (s.ar.length : Int))), (29, .int .i64 (j : Int))] ⟨rfl, rfl, rfl, rfl, rfl, rfl, rfl, rfl, rfl, rfl, rfl, trivial⟩, (hp.take [0, 2, 3, 4, 5, 6, 7] 8 (by decide) (by simp))⟩
    exact treeI_non
   ·
    rintro _ W_62 ⟨r, Am_46, cm_47, Fm_48, rfl, hp⟩
    refine sx_nil ?_
    refine ex_then_n ?_
    refine wp_seq ?_
    refine sx_region ?_
    refine sx_rd 39 (.slice Am_46 ((l0 ++ [(⟨(rd_Tile (sortT l1) (i : Int)), (j : Int)⟩ : S_Play)]).length) cm_47) (by rfl) (by kernel_rfl) ?_
    refine sx_call 40 (by rfl) (by kernel_rfl) ((impl_IsSpread.calls Am_46 cm_47 (l0 ++ [(⟨(rd_Tile (sortT l1) (i : Int)), (j : Int)⟩ : S_Play)]) _ _ (row_C (hp.at_ 0 _ (by rfl))) (row_len (hp.at_ 0 _ (by rfl))).2 (isSpread_snoc hf (⟨(rd_Tile (sortT l1) (i : Int)), (j : Int)⟩ : S_Play))).mono ?_)
    rintro _ W_63 ⟨rfl, hb⟩
    refine ⟨_, rfl, ?_⟩
    replace hp := hp.below hb
    clear hb
    refine sx_nil ?_
    refine ex_then_n ?_
    refine sx_cond (lyCan s (⟨(rd_Tile (sortT l1) (i : Int)), (j : Int)⟩ : S_Play)) (by rfl) (fun c_64 => ?_) (fun c_64 => ?_)
    ·
     refine sx_region ?_
     refine sx_rd 41 (.slice Aj7 ((forTo s (sortT l1) i ++ armsTo s (rd_Tile (sortT l1) (i : Int)) j).length) cj7) (by rfl) (by kernel_rfl) ?_
     refine sx_rd 42 (.agg #[.int .i64 ((rd_Tile (sortT l1) (i : Int)).f0), .int .i64 ((rd_Tile (sortT l1) (i : Int)).f1)]) (by rfl) (ldn (t := 51) (p := (.tmp 9)) (by rfl) (by rfl) (by kernel_rfl) (by kernel_rfl) (by kernel_rfl) (hp.at_ 2 _ (by rfl))) ?_
     refine sx_rd 43 (.int .i64 (j : Int)) (by rfl) (by kernel_rfl) ?_
     refine sx_rd 44 (.agg #[.int .i64 ((rd_Tile (sortT l1) (i : Int)).f0), .int .i64 ((rd_Tile (sortT l1) (i : Int)).f1), .int .i64 (j : Int)]) (by rfl) (by kernel_rfl) ?_
     refine sx_lit 45 (by rfl) k53 w.heap.size 53 ([(⟨(rd_Tile (sortT l1) (i : Int)), (j : Int)⟩ : S_Play)]) [.int .i64 ((rd_Tile (sortT l1) (i : Int)).f0), .int .i64 ((rd_Tile (sortT l1) (i : Int)).f1), .int .i64 (j : Int)] (fun W => by kernel_rfl) (play_reps _ _ _) (by simp) hp.size hp ?_
     intro g_65 F_66 W_67 hp hz; clear hz
     refine sx_append 46 (by rfl) k53 2 (by rfl) (.agg #[.int .i64 0, .int .i64 0, .int .i64 0]) 24 (by rfl) Try.underlying26 (by kernel_rfl) rfl (by decide) (by decide) ([(⟨(rd_Tile (sortT l1) (i : Int)), (j : Int)⟩ : S_Play)]) (by rfl) (by rfl) (row_C (hp.at_ 0 _ (by rfl))) play_kp hp.size (by first | omega | (simp; omega)) hp ?_
     intro A_68 c_69 F_70 W_71 hp hz; clear hz; simp only [List.set_cons_succ, List.set_cons_zero] at hp
     refine sx_rd 7 (.slice A_68 (((forTo s (sortT l1) i ++ armsTo s (rd_Tile (sortT l1) (i : Int)) j) ++ [(⟨(rd_Tile (sortT l1) (i : Int)), (j : Int)⟩ : S_Play)]).length) c_69) (by rfl) (by kernel_rfl) ?_
     refine sx_nil ?_
     refine ex_blk_n ?_
     refine ex_then_n ?_
     refine sx_region ?_
     refine sx_rd 47 (.int .i64 ((j : Int) + 1)) (by rfl) (wr_ok (by omega) (by kernel_rfl)) ?_
     refine sx_rd 29 (.int .i64 ((j : Int) + 1)) (by rfl) (by kernel_rfl) ?_
     refine sx_nil ?_
     refine ex_then_n ?_
     have hq_72 : ((forTo s (sortT l1) i ++ armsTo s (rd_Tile (sortT l1) (i : Int)) j) ++ [(⟨(rd_Tile (sortT l1) (i : Int)), (j : Int)⟩ : S_Play)]) = (forTo s (sortT l1) i ++ armsTo s (rd_Tile (sortT l1) (i : Int)) (j + 1)) := by rw [armsTo_next, c_64]; simp
     rw [hq_72] at hp
     exact ⟨_, (by omega), _, (j + 1), _, _, _, _, rfl, fr_front [(0, .slice A0 l0.length c0), (5, .pointer (some ⟨g_12, 0, none⟩)), (7, .slice A_68 ((forTo s (sortT l1) i ++ armsTo s (rd_Tile (sortT l1) (i : Int)) (j + 1)).length) c_69), (9, .pointer (some ⟨g_26, 0, none⟩)), (19, .slice A_20 ((sortT l1).length) c_21), (20, .int .i64 ((sortT l1).length : Int)), (21, .int .i64 (i : Int)), (28, .int .i64 (mx 1 (s.ar.length : Int))), (29, .int .i64 ((j + 1 : Nat) : Int))] ⟨rfl, rfl, congrArg (fun z : List S_Play => Value.slice A_68 z.length c_69) hq_72, rfl, rfl, rfl, rfl, rfl, rfl, trivial⟩, (hp.take [2, 3, 4, 5, 6, 7] 8 (by decide) (by simp)), (by omega)⟩
    ·
     refine wp_skip ?_
     refine ex_blk_n ?_
     refine ex_then_n ?_
     refine sx_region ?_
     refine sx_rd 47 (.int .i64 ((j : Int) + 1)) (by rfl) (wr_ok (by omega) (by kernel_rfl)) ?_
     refine sx_rd 29 (.int .i64 ((j : Int) + 1)) (by rfl) (by kernel_rfl) ?_
     refine sx_nil ?_
     refine ex_then_n ?_
     have hq_73 : (forTo s (sortT l1) i ++ armsTo s (rd_Tile (sortT l1) (i : Int)) j) = (forTo s (sortT l1) i ++ armsTo s (rd_Tile (sortT l1) (i : Int)) (j + 1)) := by rw [armsTo_next, c_64]; simp
     rw [hq_73] at hp
     exact ⟨_, (by omega), _, (j + 1), _, _, _, _, rfl, fr_front [(0, .slice A0 l0.length c0), (5, .pointer (some ⟨g_12, 0, none⟩)), (7, .slice Aj7 ((forTo s (sortT l1) i ++ armsTo s (rd_Tile (sortT l1) (i : Int)) (j + 1)).length) cj7), (9, .pointer (some ⟨g_26, 0, none⟩)), (19, .slice A_20 ((sortT l1).length) c_21), (20, .int .i64 ((sortT l1).length : Int)), (21, .int .i64 (i : Int)), (28, .int .i64 (mx 1 (s.ar.length : Int))), (29, .int .i64 ((j + 1 : Nat) : Int))] ⟨rfl, rfl, congrArg (fun z : List S_Play => Value.slice Aj7 z.length cj7) hq_73, rfl, rfl, rfl, rfl, rfl, rfl, trivial⟩, (hp.take [1, 2, 3, 4, 5, 6] 7 (by decide) (by simp)), (by omega)⟩
  ·
   have c_31p := of_decide_eq_false c_31
   refine wp_exit ?_
   refine ex_then_e (ex_then_e (ex_blk_here ?_))
   refine ex_blk_n ?_
   refine ex_then_n ?_
   refine sx_region ?_
   refine sx_rd 48 (.int .i64 ((i : Int) + 1)) (by rfl) (wr_ok (by omega) (by kernel_rfl)) ?_
   refine sx_rd 21 (.int .i64 ((i : Int) + 1)) (by rfl) (by kernel_rfl) ?_
   refine sx_nil ?_
   refine ex_then_n ?_
   have hq_74 : (forTo s (sortT l1) i ++ armsTo s (rd_Tile (sortT l1) (i : Int)) j) = (forTo s (sortT l1) (i + 1)) := by rw [forTo_next s _ i (by omega)]; unfold forTile; rw [show max 1 s.ar.length = j by omega]
   rw [hq_74] at hp
   exact ⟨_, (by omega), _, (i + 1), _, _, _, _, rfl, fr_front [(0, .slice A0 l0.length c0), (5, .pointer (some ⟨g_12, 0, none⟩)), (7, .slice Aj7 ((forTo s (sortT l1) (i + 1)).length) cj7), (19, .slice A_20 ((sortT l1).length) c_21), (20, .int .i64 ((sortT l1).length : Int)), (21, .int .i64 ((i + 1 : Nat) : Int))] ⟨rfl, rfl, congrArg (fun z : List S_Play => Value.slice Aj7 z.length cj7) hq_74, rfl, rfl, rfl, trivial⟩, (hp.take [0, 2, 3, 4, 5] 6 (by decide) (by simp)), (by omega)⟩
 ·
  have c_25p := of_decide_eq_false c_25
  refine wp_exit ?_
  refine ex_then_e (ex_then_e (ex_blk_here ?_))
  refine ex_then_n ?_
  refine wp_seq ?_
  refine sx_region ?_
  refine sx_rd 49 (.slice Ai7 ((forTo s (sortT l1) i).length) ci7) (by rfl) (by kernel_rfl) ?_
  refine sx_rd 4 (.slice Ai7 ((forTo s (sortT l1) i).length) ci7) (by rfl) (by kernel_rfl) ?_
  refine sx_nil ?_
  refine ex_then_n ?_
  refine wp_ret ?_
  refine sx_end (.slice Ai7 ((forTo s (sortT l1) i).length) ci7) (res1 4 (by rfl)) ?_
  obtain rfl : i = (sortT l1).length := by omega
  have hp := hp
  rw [forTo_all] at hp ⊢
  exact ⟨_, rfl, Kd.R_mono (row_R (hp.at_ 0 _ (by rfl))) (fun _ _ => trivial), hc2 _ (hp.tail.tail.tail.tail.tail)⟩
theorem playsFor_eq {l : List S_Play} {hand : List S_Tile} {s : LySt} (h : lyReadF l = some s) (hb : handB hand = true) (hl : l.length ≤ 1048576) (hh : hand.length ≤ 1048576) : impl_playsFor.f l hand = some (lyForF s hand) := by
 unfold impl_playsFor.f
 rw [if_pos ⟨hl, hh⟩, h]
 dsimp only
 rw [if_pos hb]

end Go.Proofs.Ytlphnpinpflaaaa.Hd
