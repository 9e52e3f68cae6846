/- impl.spreadOf, by hand: a spread that plays have made. -/
import Derived.Test.YtddgfphbbkjmpaaDoorMSpFold
namespace Go.Proofs.YtddgfphbbkjmpaaDoor.Hd
open Go.RowKit Go.Proofs.YtddgfphbbkjmpaaDoor.Pure Go.Proofs.YtddgfphbbkjmpaaDoorW.PrintWords Go.Proofs.YtddgfphbbkjmpaaDoorW.PrintLast Go.Proofs.YtddgfphbbkjmpaaDoorW.PrintMore
set_option linter.unusedVariables false
set_option linter.unusedSimpArgs false
set_option maxRecDepth 100000 in
set_option maxHeartbeats 40000000 in
theorem impl_spreadOf.calls (A0 : Option Addr) (c0 : Nat) (l0 : List S_Play) (r0 : List S_Arm) (r1 : List S_Tile) (r2 : Int) (r3 r4 r5 : Bool) (w : World) (hr0 : Kd.C k36 w A0 l0.length l0) (hc0 : l0.length ≤ c0) (h : impl_spreadOf.f l0 = some (r0, r1, r2, r3, r4, r5)) :
  Calls Tryd.prog 20 #[.slice A0 l0.length c0] w fun e w' => ∃ v0 v1 : Value, e = .returned (.tuple #[.agg #[v0, v1, .int .i64 r2, .bool r3, .bool r4], .bool r5]) ∧ Kd.R k72 72 w' w.heap.size (fun _ => True) v0 r0 ∧ Kd.R k34 34 w' w.heap.size (fun _ => True) v1 r1 ∧ Below w.heap.size w w' := by
 have hl : l0.length ≤ 9223372036854775807 := hr0.2.1
 obtain ⟨cs, hcs⟩ : ∃ cs, cs = [old w w.heap.size] := ⟨_, rfl⟩
 have hp : Hp w cs w := by rw [hcs]; exact Hp.old_start w
 have hc2 : ∀ W, Hp w cs W → Below w.heap.size w W := fun W h => by rw [hcs] at h; exact h.since 0 _ rfl
 have hC : ∀ W, Hp w cs W → Kd.C k36 W A0 l0.length l0 := fun W h => Kd.C_below hr0 (hc2 W h)
 clear hcs
 refine sx_enter (N := 20) (l := [.slice A0 l0.length c0]) Tryd.func20 rfl rfl rfl ?_
 refine wp_seq ?_
 refine sx_region ?_
 refine sx_box 2 hp #[.slice none 0 0, .slice none 0 0, .int .i64 0, .bool false, .bool false] 55 (by rfl) (fun W => by kernel_rfl) ?_
 intro g_1 W_2 hp
 refine sx_rd 3 (.bool false) (by rfl) (by kernel_rfl) ?_
 refine sx_nil ?_
 refine ex_then_n ?_
 refine wp_seq ?_
 refine sx_region ?_
 refine sx_rd 7 (.agg #[.slice none 0 0, .slice none 0 0, .int .i64 (-1), .bool false, .bool false]) (by rfl) (by kernel_rfl) ?_
 refine sx_box 4 hp #[.slice none 0 0, .slice none 0 0, .int .i64 0, .bool false, .bool false] 55 (by rfl) (fun W => by kernel_rfl) ?_
 intro g_3 W_4 hp
 refine sx_store (t := 55) (p := (.tmp 4)) (x := (.tmp 7)) (by rfl) (by rfl) 0 (by rfl) 0 [.slice none 0 0, .slice none 0 0, .int .i64 (-1), .bool false, .bool false] (by rfl) (by rfl) (by kernel_rfl) (by simp [Value.oneCell']) (by show 5 ≤ 5; omega) #[.slice none 0 0, .slice none 0 0, .int .i64 (-1), .bool false, .bool false] (by rfl) hp ?_
 intro W_5 hp; simp only [List.set_cons_succ, List.set_cons_zero] at hp
 refine sx_nil ?_
 refine ex_then_n ?_
 refine wp_seq ?_
 refine wp_seq ?_
 refine sx_region ?_
 refine sx_rd 8 (.slice A0 l0.length c0) (by rfl) (by kernel_rfl) ?_
 refine sx_rd 9 (.int .i64 (l0.length : Int)) (by rfl) (by kernel_rfl) ?_
 refine sx_rd 10 (.int .i64 0) (by rfl) (by kernel_rfl) ?_
 refine sx_nil ?_
 refine ex_then_n ?_
 refine wp_block ?_
 replace hp := (hp.nilrow k34 34 w.heap.size).nilrow k72 72 w.heap.size
 refine wp_loop_ghost (fun n_ a_ W => ∃ (r_ : List (Nat × Value)) (i : Nat) (s : SpSt) (A1 : Option Addr) (c1 : Nat) (A2 : Option Addr) (c2 : Nat) (F1 F2 : Nat → Prop), n_ = l0.length - i ∧ a_ = fr 20 ([(2, .pointer (some ⟨g_1, 0, none⟩)), (4, .pointer (some ⟨g_3, 0, none⟩)), (8, .slice A0 l0.length c0), (9, .int .i64 (l0.length : Int)), (10, .int .i64 (i : Int))] ++ r_) ∧ Hp w (blk g_3 #[.slice A1 s.ar.length c1, .slice A2 s.ti.length c2, .int .i64 s.sp, .bool s.w0, .bool s.w1] 55 :: row k72 72 w.heap.size (.slice A1 s.ar.length c1) s.ar F1 :: row k34 34 w.heap.size (.slice A2 s.ti.length c2) s.ti F2 :: blk g_1 #[.slice none 0 0, .slice none 0 0, .int .i64 0, .bool false, .bool false] 55 :: cs) W ∧ (i ≤ l0.length) ∧ ((l0.take i).foldlM spAdd spS0 = some s)) _ ⟨_, 0, spS0, _, _, _, _, _, _, rfl, fr_front [(2, .pointer (some ⟨g_1, 0, none⟩)), (4, .pointer (some ⟨g_3, 0, none⟩)), (8, .slice A0 l0.length c0), (9, .int .i64 (l0.length : Int)), (10, .int .i64 0)] ⟨rfl, rfl, rfl, rfl, rfl, trivial⟩, (hp.take [2, 0, 1, 3] 4 (by decide) (by simp)), Nat.zero_le _, rfl⟩ ?_
 rintro _ _ W_6 ⟨r_, i, s, A1, c1, A2, c2, F1, F2, rfl, rfl, hp, hi, hs⟩
 have hok := spOk_fold _ _ _ _ spOk_start hs
 rw [Nat.zero_add, List.length_take, Nat.min_eq_left hi] at hok
 refine wp_seq ?_
 refine sx_region ?_
 refine sx_rd 11 (.bool (decide ((i : Int) < (l0.length : Int)))) (by rfl) (by kernel_rfl) ?_
 refine sx_nil ?_
 refine ex_then_n ?_
 refine wp_seq ?_
 refine sx_cond (decide ((i : Int) < (l0.length : Int))) (by rfl) (fun c_7 => ?_) (fun c_7 => ?_)
 ·
  have c_7p := of_decide_eq_true c_7
  refine wp_skip ?_
  refine ex_then_n ?_
  refine wp_seq ?_
  refine wp_block ?_
  refine wp_seq ?_
  refine sx_region ?_
  refine sx_rd 12 (.pointer (some (adr A0 (i : Int) 3))) (by rfl) (ix_run (d := k36) (hC _ hp.tail.tail.tail.tail) (t := 26) (by rfl) (by rfl) (by rfl) Tryd.underlying26 (by kernel_rfl) (by omega) (by omega)) ?_
  refine sx_rd 13 (.agg #[.int .i64 ((rd_Play l0 (i : Int)).f0.f0), .int .i64 ((rd_Play l0 (i : Int)).f0.f1), .int .i64 ((rd_Play l0 (i : Int)).f1)]) (by rfl) (el_run (d := k36) (hC _ hp.tail.tail.tail.tail) z36 (i : Int) (by omega) (by omega) (cells := [.int .i64 ((rd_Play l0 (i : Int)).f0.f0), .int .i64 ((rd_Play l0 (i : Int)).f0.f1), .int .i64 ((rd_Play l0 (i : Int)).f1)]) (fun cs h => k36_open h) 0 [.int .i64 ((rd_Play l0 (i : Int)).f0.f0), .int .i64 ((rd_Play l0 (i : Int)).f0.f1), .int .i64 ((rd_Play l0 (i : Int)).f1)] (by rfl) (t := 36) (p := (.tmp 12)) (by rfl) (by rfl) (by kernel_rfl) (by kernel_rfl)) ?_
  refine sx_box 6 hp #[.int .i64 0, .int .i64 0, .int .i64 0] 36 (by rfl) (fun W => by kernel_rfl) ?_
  intro g_8 W_9 hp
  refine sx_store (t := 36) (p := (.tmp 6)) (x := (.tmp 13)) (by rfl) (by rfl) 0 (by rfl) 0 [.int .i64 ((rd_Play l0 (i : Int)).f0.f0), .int .i64 ((rd_Play l0 (i : Int)).f0.f1), .int .i64 ((rd_Play l0 (i : Int)).f1)] (by rfl) (by rfl) (by kernel_rfl) (by simp [Value.oneCell']) (by show 3 ≤ 3; omega) #[.int .i64 ((rd_Play l0 (i : Int)).f0.f0), .int .i64 ((rd_Play l0 (i : Int)).f0.f1), .int .i64 ((rd_Play l0 (i : Int)).f1)] (by rfl) hp ?_
  intro W_10 hp; simp only [List.set_cons_succ, List.set_cons_zero] at hp
  refine sx_nil ?_
  refine ex_then_n ?_
  refine wp_seq ?_
  refine sx_region ?_
  refine sx_rd 14 (.agg #[.int .i64 ((rd_Play l0 (i : Int)).f0.f0), .int .i64 ((rd_Play l0 (i : Int)).f0.f1), .int .i64 ((rd_Play l0 (i : Int)).f1)]) (by rfl) (ldn (t := 36) (p := (.tmp 6)) (by rfl) (by rfl) (by kernel_rfl) (by kernel_rfl) (by kernel_rfl) (hp.at_ 0 _ (by rfl))) ?_
  refine sx_call 15 (by rfl) (by kernel_rfl) ((play_sx w _ (blk g_8 #[.int .i64 ((rd_Play l0 (i : Int)).f0.f0), .int .i64 ((rd_Play l0 (i : Int)).f0.f1), .int .i64 ((rd_Play l0 (i : Int)).f1)] 36 :: blk g_1 #[.slice none 0 0, .slice none 0 0, .int .i64 0, .bool false, .bool false] 55 :: cs) g_3 s A1 c1 A2 c2 w.heap.size F1 F2 (rd_Play l0 (i : Int)) (Nat.le_refl _) (by have := hok.ti; have := hok.le; omega) (by have := hok.ar; have := hok.le; omega) (fun h => (hok.two h).1) (hp.take [1, 2, 3, 0, 4] 5 (by decide) (by simp))).mono ?_)
  rintro _ W_11 ⟨s', A1', c1', A2', c2', F1', F2', rfl, hs', hp⟩
  refine ⟨_, rfl, ?_⟩
  refine sx_rd 16 (.bool (!(spCan s (rd_Play l0 (i : Int))))) (by rfl) (by kernel_rfl) ?_
  refine sx_nil ?_
  refine ex_then_n ?_
  refine sx_cond (!(spCan s (rd_Play l0 (i : Int)))) (by rfl) (fun c_12 => ?_) (fun c_12 => ?_)
  ·
   refine wp_seq ?_
   refine sx_region ?_
   refine sx_rd 17 (.agg #[.slice none 0 0, .slice none 0 0, .int .i64 0, .bool false, .bool false]) (by rfl) (by kernel_rfl) ?_
   refine sx_store (t := 55) (p := (.tmp 2)) (x := (.tmp 17)) (by rfl) (by rfl) 4 (by rfl) 0 [.slice none 0 0, .slice none 0 0, .int .i64 0, .bool false, .bool false] (by rfl) (by rfl) (by kernel_rfl) (by simp [Value.oneCell']) (by show 5 ≤ 5; omega) #[.slice none 0 0, .slice none 0 0, .int .i64 0, .bool false, .bool false] (by rfl) hp ?_
   intro W_13 hp; simp only [List.set_cons_succ, List.set_cons_zero] at hp
   refine sx_rd 3 (.bool false) (by rfl) (by kernel_rfl) ?_
   refine sx_nil ?_
   refine ex_then_n ?_
   refine wp_ret ?_
   refine ex_blk_r (ex_then_r (ex_then_r (ex_blk_r (ex_then_r ?_))))
   refine sx_end (.tuple #[.agg #[.slice none 0 0, .slice none 0 0, .int .i64 0, .bool false, .bool false], .bool false]) (rescT (p := 2) (u := 3) (by rfl) (by rfl) (by kernel_rfl) (by kernel_rfl) (hp.at_ 4 _ (by rfl))) ?_
   have hbw := hc2 _ (hp.tail.tail.tail.tail.tail)
   have hf : spReadF l0 = none := sfold_none spAdd spS0 l0 (i + 1) (by rw [sfold_next spAdd spS0 l0 i (by omega) s hs, ← srd_play l0 i (by omega)]; simp [spAdd, show spCan s (rd_Play l0 (i : Int)) = false from (not_eq c_12)])
   unfold impl_spreadOf.f at h; rw [hf] at h; simp only [Option.some.injEq, Prod.mk.injEq] at h; obtain ⟨rfl, rfl, rfl, rfl, rfl, rfl⟩ := h
   exact ⟨_, _, rfl, Kd.R_nil _ _ _ _ _, Kd.R_nil _ _ _ _ _, hbw⟩
  ·
   refine wp_skip ?_
   refine ex_blk_n ?_
   refine ex_then_n ?_
   refine sx_region ?_
   refine sx_rd 18 (.int .i64 ((i : Int) + 1)) (by rfl) (wr_ok (by omega) (by kernel_rfl)) ?_
   refine sx_rd 10 (.int .i64 ((i : Int) + 1)) (by rfl) (by kernel_rfl) ?_
   refine sx_nil ?_
   refine ex_then_n ?_
   have hn : (l0.take (i + 1)).foldlM spAdd spS0 = some s' := by rw [sfold_next spAdd spS0 l0 i (by omega) s hs, ← srd_play l0 i (by omega), hs', show spCan s (rd_Play l0 (i : Int)) = true from (not_eq c_12), if_pos rfl]; simp [spAdd, show spCan s (rd_Play l0 (i : Int)) = true from (not_eq c_12)]
   exact ⟨_, (show l0.length - (i + 1) < l0.length - i by omega), _, i + 1, s', _, _, _, _, _, _, rfl, fr_front [(2, .pointer (some ⟨g_1, 0, none⟩)), (4, .pointer (some ⟨g_3, 0, none⟩)), (8, .slice A0 l0.length c0), (9, .int .i64 (l0.length : Int)), (10, .int .i64 ((i + 1 : Nat) : Int))] ⟨rfl, rfl, rfl, rfl, rfl, trivial⟩, (hp.take [0, 1, 2, 4] 5 (by decide) (by simp)), (by omega), hn⟩
 ·
  have c_7p := of_decide_eq_false c_7
  refine wp_exit ?_
  refine ex_then_e (ex_then_e (ex_blk_here ?_))
  refine ex_then_n ?_
  refine wp_seq ?_
  refine sx_region ?_
  refine sx_rd 19 (.agg #[.slice A1 s.ar.length c1, .slice A2 s.ti.length c2, .int .i64 s.sp, .bool s.w0, .bool s.w1]) (by rfl) (ldn (t := 55) (p := (.tmp 4)) (by rfl) (by rfl) (by kernel_rfl) (by kernel_rfl) (by kernel_rfl) (hp.at_ 0 _ (by rfl))) ?_
  refine sx_store (t := 55) (p := (.tmp 2)) (x := (.tmp 19)) (by rfl) (by rfl) 3 (by rfl) 0 [.slice A1 s.ar.length c1, .slice A2 s.ti.length c2, .int .i64 s.sp, .bool s.w0, .bool s.w1] (by rfl) (by rfl) (by kernel_rfl) (by simp [Value.oneCell']) (by show 5 ≤ 5; omega) #[.slice A1 s.ar.length c1, .slice A2 s.ti.length c2, .int .i64 s.sp, .bool s.w0, .bool s.w1] (by rfl) hp ?_
  intro W_14 hp; simp only [List.set_cons_succ, List.set_cons_zero] at hp
  refine sx_rd 3 (.bool true) (by rfl) (by kernel_rfl) ?_
  refine sx_nil ?_
  refine ex_then_n ?_
  refine wp_ret ?_
  refine sx_end (.tuple #[.agg #[.slice A1 s.ar.length c1, .slice A2 s.ti.length c2, .int .i64 s.sp, .bool s.w0, .bool s.w1], .bool true]) (rescT (p := 2) (u := 3) (by rfl) (by rfl) (by kernel_rfl) (by kernel_rfl) (hp.at_ 3 _ (by rfl))) ?_
  have hbw := hc2 _ (hp.tail.tail.tail.tail)
  have hf : spReadF l0 = some s := by unfold spReadF; rwa [List.take_of_length_le (by omega)] at hs
  unfold impl_spreadOf.f at h; rw [hf] at h; simp only [Option.some.injEq, Prod.mk.injEq] at h; obtain ⟨rfl, rfl, rfl, rfl, rfl, rfl⟩ := h
  exact ⟨_, _, rfl, Kd.R_mono (row_R (hp.at_ 1 _ (by rfl))) (fun _ _ => trivial), Kd.R_mono (row_R (hp.at_ 2 _ (by rfl))) (fun _ _ => trivial), hbw⟩
end Go.Proofs.YtddgfphbbkjmpaaDoor.Hd
