/- spec's spreads, by hand: a new one, a copy. -/
import Derived.Test.YtlphnpinpflaaaaMLyS
namespace Go.Proofs.Ytlphnpinpflaaaa.Hd
open Go.RowKit Go.Proofs.Ytlphnpinpflaaaa.Pure Go.Proofs.YtlphnpinpflaaaaW.PrintWords Go.Proofs.YtlphnpinpflaaaaW.PrintLast Go.Proofs.YtlphnpinpflaaaaW.PrintMore
set_option linter.unusedVariables false
set_option linter.unusedSimpArgs false
set_option maxRecDepth 100000 in
set_option maxHeartbeats 40000000 in
theorem lyNew_sx (w0 W : World) (cs : List Chunk) (hp : Hp w0 cs W) :
  Calls Try.prog 51 #[] W fun e W' => ∃ g, e = .returned (.pointer (some ⟨g, 0, none⟩)) ∧ Hp w0 (blk g #[.slice none 0 0, .slice none 0 0, .int .i64 (-1), .int .i64 (-1), .bool false, .bool false, .bool false] 83 :: cs) W' := by
 refine sx_enter (N := 3) (l := []) Try.func51 rfl rfl rfl ?_
 refine wp_seq ?_
 refine sx_region ?_
 refine sx_rd 0 (.pointer none) (by rfl) (by kernel_rfl) ?_
 refine sx_nil ?_
 refine ex_then_n ?_
 refine wp_seq ?_
 refine sx_region ?_
 refine sx_rd 1 (.agg #[.slice none 0 0, .slice none 0 0, .int .i64 (-1), .int .i64 (-1), .bool false, .bool false, .bool false]) (by rfl) (by kernel_rfl) ?_
 refine sx_box 2 hp #[.slice none 0 0, .slice none 0 0, .int .i64 (-1), .int .i64 (-1), .bool false, .bool false, .bool false] 83 (by rfl) (fun W => by kernel_rfl) ?_
 intro g_1 W_2 hp
 refine sx_rd 0 (.pointer (some ⟨g_1, 0, none⟩)) (by rfl) (by kernel_rfl) ?_
 refine sx_nil ?_
 refine ex_then_n ?_
 refine wp_ret ?_
 refine sx_end (.pointer (some ⟨g_1, 0, none⟩)) (res1 0 (by rfl)) ?_
 exact ⟨_, rfl, hp⟩
set_option maxRecDepth 100000 in
set_option maxHeartbeats 40000000 in
theorem lyCopy_sx (w0 W : World) (cs : List Chunk) (g : Nat) (s : LySt) (A1 : Option Addr) (c1 : Nat) (A2 : Option Addr) (c2 : Nat) (b : Nat) (F1 F2 : Nat → Prop) (hti : s.ti.length ≤ 28) (har : s.ar.length ≤ 100) (hp : Hp w0 (blk g #[.slice A1 s.ar.length c1, .slice A2 s.ti.length c2, .int .i64 s.sp, .int .i64 s.wt, .bool s.fi, .bool s.l0, .bool s.l1] 83 :: row k85 85 b (.slice A1 s.ar.length c1) s.ar F1 :: row k51 51 b (.slice A2 s.ti.length c2) s.ti F2 :: cs) W) :
  Calls Try.prog 67 #[.pointer (some ⟨g, 0, none⟩)] W fun e W' => ∃ g_2 A_7 c_8 F_9 A_15 c_16 F_17, e = .returned (.pointer (some ⟨g_2, 0, none⟩)) ∧ Hp w0 (row k51 51 w0.heap.size (.slice A_15 s.ti.length c_16) s.ti F_17 :: row k85 85 w0.heap.size (.slice A_7 s.ar.length c_8) s.ar F_9 :: blk g_2 #[.slice A_7 s.ar.length c_8, .slice A_15 s.ti.length c_16, .int .i64 s.sp, .int .i64 s.wt, .bool s.fi, .bool s.l0, .bool s.l1] 83 :: blk g #[.slice A1 s.ar.length c1, .slice A2 s.ti.length c2, .int .i64 s.sp, .int .i64 s.wt, .bool s.fi, .bool s.l0, .bool s.l1] 83 :: row k85 85 b (.slice A1 s.ar.length c1) s.ar F1 :: row k51 51 b (.slice A2 s.ti.length c2) s.ti F2 :: cs) W' := by
 refine sx_enter (N := 41) (l := [.pointer (some ⟨g, 0, none⟩)]) Try.func67 rfl rfl rfl ?_
 refine wp_seq ?_
 refine sx_region ?_
 refine sx_rd 2 (.pointer none) (by rfl) (by kernel_rfl) ?_
 refine sx_nil ?_
 refine ex_then_n ?_
 refine wp_seq ?_
 refine sx_draw [0, 1, 2, 4, 5, 6, 8, 9, 10, 12, 13, 14] [(true, 3), (true, 7), (true, 11), (true, 15), (true, 16), (false, 17), (true, 18)] 19 (C := Hp w0 (blk g #[.slice A1 s.ar.length c1, .slice A2 s.ti.length c2, .int .i64 s.sp, .int .i64 s.wt, .bool s.fi, .bool s.l0, .bool s.l1] 83 :: row k85 85 b (.slice A1 s.ar.length c1) s.ar F1 :: row k51 51 b (.slice A2 s.ti.length c2) s.ti F2 :: cs)) (by kernel_rfl) (by kernel_rfl) (fun d _ _ _ _ h => by cases d <;> exact h) (fun W h => h.drew) hp ?_
 refine preI_read rfl ?_
 refine sxq_val 4 (.pointer (some ⟨g, 0, none⟩)) (by rfl) (fun W _ => (by kernel_rfl)) ?_
 refine sxq_nil ?_
 refine preI_read rfl ?_
 refine sxq_val 5 (.pointer (some ⟨g, 0, none⟩)) (by rfl) (fun W _ => (by kernel_rfl)) ?_
 refine sxq_nil ?_
 refine preI_read rfl ?_
 refine sxq_val 6 (.pointer (some ⟨g, 2, none⟩)) (by rfl) (fun W _ => (by kernel_rfl)) ?_
 refine sxq_nil ?_
 refine preI_read rfl ?_
 refine sxq_val 8 (.pointer (some ⟨g, 0, none⟩)) (by rfl) (fun W _ => (by kernel_rfl)) ?_
 refine sxq_nil ?_
 refine preI_read rfl ?_
 refine sxq_val 9 (.pointer (some ⟨g, 0, none⟩)) (by rfl) (fun W _ => (by kernel_rfl)) ?_
 refine sxq_nil ?_
 refine preI_read rfl ?_
 refine sxq_val 10 (.pointer (some ⟨g, 3, none⟩)) (by rfl) (fun W _ => (by kernel_rfl)) ?_
 refine sxq_nil ?_
 refine preI_read rfl ?_
 refine sxq_val 12 (.pointer (some ⟨g, 0, none⟩)) (by rfl) (fun W _ => (by kernel_rfl)) ?_
 refine sxq_nil ?_
 refine preI_read rfl ?_
 refine sxq_val 13 (.pointer (some ⟨g, 0, none⟩)) (by rfl) (fun W _ => (by kernel_rfl)) ?_
 refine sxq_nil ?_
 refine preI_read rfl ?_
 refine sxq_val 14 (.pointer (some ⟨g, 4, none⟩)) (by rfl) (fun W _ => (by kernel_rfl)) ?_
 refine sxq_nil ?_
 refine preI_read rfl ?_
 refine sxq_val 16 (.pointer (some ⟨g, 0, none⟩)) (by rfl) (fun W _ => (by kernel_rfl)) ?_
 refine sxq_nil ?_
 refine preI_read rfl ?_
 refine sxq_val 17 (.pointer (some ⟨g, 0, none⟩)) (by rfl) (fun W _ => (by kernel_rfl)) ?_
 refine sxq_nil ?_
 refine preI_read rfl ?_
 refine sxq_val 18 (.pointer (some ⟨g, 5, none⟩)) (by rfl) (fun W _ => (by kernel_rfl)) ?_
 refine sxq_nil ?_
 refine preI_nil ?_
 intro W_1 hp
 refine stepsI_read rfl ?_
 refine sxq_val 7 (.int .i64 s.sp) (by rfl) (fun W hp => (ld1 (t := 3) (p := (.tmp 6)) (by rfl) (by rfl) (by kernel_rfl) (hp.cell 0 (by rfl) 2 _ (by rfl)))) ?_
 refine sxq_nil ?_
 refine stepsI_read rfl ?_
 refine sxq_val 11 (.int .i64 s.wt) (by rfl) (fun W hp => (ld1 (t := 3) (p := (.tmp 10)) (by rfl) (by rfl) (by kernel_rfl) (hp.cell 0 (by rfl) 3 _ (by rfl)))) ?_
 refine sxq_nil ?_
 refine stepsI_read rfl ?_
 refine sxq_val 15 (.bool s.fi) (by rfl) (fun W hp => (ld1 (t := 4) (p := (.tmp 14)) (by rfl) (by rfl) (by kernel_rfl) (hp.cell 0 (by rfl) 4 _ (by rfl)))) ?_
 refine sxq_nil ?_
 refine stepsI_read rfl ?_
 refine sxq_val 19 (.agg #[.bool s.l0, .bool s.l1]) (by rfl) (fun W hp => (ldn (t := 68) (p := (.tmp 18)) (by rfl) (by rfl) (by kernel_rfl) (by kernel_rfl) (by kernel_rfl) (hp.at_ 0 _ (by rfl)))) ?_
 refine sxq_nil ?_
 refine stepsI_read rfl ?_
 refine sxq_val 20 (.agg #[.slice none 0 0, .slice none 0 0, .int .i64 s.sp, .int .i64 s.wt, .bool s.fi, .bool s.l0, .bool s.l1]) (by rfl) (fun W hp => (by kernel_rfl)) ?_
 refine sxq_nil ?_
 refine stepsI_event rfl ?_
 refine sx_box 21 hp #[.slice none 0 0, .slice none 0 0, .int .i64 s.sp, .int .i64 s.wt, .bool s.fi, .bool s.l0, .bool s.l1] 83 (by rfl) (fun W => by kernel_rfl) ?_
 intro g_2 W_3 hp
 refine step_fin hp.tail ?_
 refine stepsI_read rfl ?_
 refine sxq_val 3 (.pointer (some ⟨g_2, 0, none⟩)) (by rfl) (fun W hp => (by kernel_rfl)) ?_
 refine sxq_nil ?_
 refine stepsI_nil ?_
 refine sx_nil ?_
 refine ex_then_n ?_
 refine wp_seq ?_
 refine sx_region ?_
 refine sx_rd 22 (.pointer (some ⟨g_2, 0, none⟩)) (by rfl) (by kernel_rfl) ?_
 refine sx_lit 23 (by rfl) k85 w0.heap.size 85 ([] : List S_Arm) [] (fun W => by kernel_rfl) (Reps.none _ _) (by simp) hp.size hp ?_
 intro g_4 F_5 W_6 hp hz; clear hz
 refine sx_rd 24 (.pointer (some ⟨g, 0, none⟩)) (by rfl) (by kernel_rfl) ?_
 refine sx_rd 25 (.pointer (some ⟨g, 0, none⟩)) (by rfl) (by kernel_rfl) ?_
 refine sx_rd 26 (.pointer (some ⟨g, 0, none⟩)) (by rfl) (by kernel_rfl) ?_
 refine sx_rd 27 (.slice A1 s.ar.length c1) (by rfl) (ld1 (t := 67) (p := (.tmp 26)) (by rfl) (by rfl) (by kernel_rfl) (hp.cell 2 (by rfl) 0 _ (by rfl))) ?_
 refine sx_append 28 (by rfl) k85 0 (by rfl) (.agg #[.int .i64 0, .bool false, .bool false]) 16 (by rfl) Try.underlying67 (by kernel_rfl) rfl (by decide) (by decide) s.ar (by rfl) (by rfl) (row_C (hp.at_ 3 _ (by rfl))) arm_kp hp.size (by simp; omega) hp ?_
 intro A_7 c_8 F_9 W_10 hp hz; clear hz; simp only [List.set_cons_succ, List.set_cons_zero] at hp
 refine sx_rd 29 (.pointer (some ⟨g_2, 0, none⟩)) (by rfl) (by kernel_rfl) ?_
 refine sx_rd 30 (.pointer (some ⟨g_2, 0, none⟩)) (by rfl) (by kernel_rfl) ?_
 refine sx_store (t := 67) (p := (.tmp 30)) (x := (.tmp 28)) (by rfl) (by rfl) 1 (by rfl) 0 [.slice A_7 s.ar.length c_8] (by rfl) (by rfl) (by kernel_rfl) (by simp [Value.oneCell']) (by show 1 ≤ 7; omega) #[.slice A_7 s.ar.length c_8, .slice none 0 0, .int .i64 s.sp, .int .i64 s.wt, .bool s.fi, .bool s.l0, .bool s.l1] (by rfl) hp ?_
 intro W_11 hp; simp only [List.set_cons_succ, List.set_cons_zero] at hp
 refine sx_nil ?_
 refine ex_then_n ?_
 refine wp_seq ?_
 refine sx_region ?_
 refine sx_rd 31 (.pointer (some ⟨g_2, 0, none⟩)) (by rfl) (by kernel_rfl) ?_
 refine sx_lit 32 (by rfl) k51 w0.heap.size 51 ([] : List S_Tile) [] (fun W => by kernel_rfl) (Reps.none _ _) (by simp) hp.size hp ?_
 intro g_12 F_13 W_14 hp hz; clear hz
 refine sx_rd 33 (.pointer (some ⟨g, 0, none⟩)) (by rfl) (by kernel_rfl) ?_
 refine sx_rd 34 (.pointer (some ⟨g, 0, none⟩)) (by rfl) (by kernel_rfl) ?_
 refine sx_rd 35 (.pointer (some ⟨g, 1, none⟩)) (by rfl) (by kernel_rfl) ?_
 refine sx_rd 36 (.slice A2 s.ti.length c2) (by rfl) (ld1 (t := 44) (p := (.tmp 35)) (by rfl) (by rfl) (by kernel_rfl) (hp.cell 3 (by rfl) 1 _ (by rfl))) ?_
 refine sx_append 37 (by rfl) k51 0 (by rfl) (.agg #[.int .i64 0, .int .i64 0]) 16 (by rfl) Try.underlying44 (by kernel_rfl) rfl (by decide) (by decide) s.ti (by rfl) (by rfl) (row_C (hp.at_ 5 _ (by rfl))) tile_kp hp.size (by simp; omega) hp ?_
 intro A_15 c_16 F_17 W_18 hp hz; clear hz; simp only [List.set_cons_succ, List.set_cons_zero] at hp
 refine sx_rd 38 (.pointer (some ⟨g_2, 0, none⟩)) (by rfl) (by kernel_rfl) ?_
 refine sx_rd 39 (.pointer (some ⟨g_2, 1, none⟩)) (by rfl) (by kernel_rfl) ?_
 refine sx_store (t := 44) (p := (.tmp 39)) (x := (.tmp 37)) (by rfl) (by rfl) 2 (by rfl) 1 [.slice A_15 s.ti.length c_16] (by rfl) (by rfl) (by kernel_rfl) (by simp [Value.oneCell']) (by show 2 ≤ 7; omega) #[.slice A_7 s.ar.length c_8, .slice A_15 s.ti.length c_16, .int .i64 s.sp, .int .i64 s.wt, .bool s.fi, .bool s.l0, .bool s.l1] (by rfl) hp ?_
 intro W_19 hp; simp only [List.set_cons_succ, List.set_cons_zero] at hp
 refine sx_nil ?_
 refine ex_then_n ?_
 refine wp_seq ?_
 refine sx_region ?_
 refine sx_rd 40 (.pointer (some ⟨g_2, 0, none⟩)) (by rfl) (by kernel_rfl) ?_
 refine sx_rd 2 (.pointer (some ⟨g_2, 0, none⟩)) (by rfl) (by kernel_rfl) ?_
 refine sx_nil ?_
 refine ex_then_n ?_
 refine wp_ret ?_
 refine sx_end (.pointer (some ⟨g_2, 0, none⟩)) (res1 2 (by rfl)) ?_
 exact ⟨_, _, _, _, _, _, _, rfl, hp⟩
end Go.Proofs.Ytlphnpinpflaaaa.Hd
