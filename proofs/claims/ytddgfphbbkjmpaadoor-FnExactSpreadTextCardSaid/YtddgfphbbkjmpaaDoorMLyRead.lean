/- spec's spreads, by hand: a spread that is read. -/
import Derived.Test.YtddgfphbbkjmpaaDoorMLyFold
namespace Go.Proofs.YtddgfphbbkjmpaaDoor.Hd
open Go.RowKit Go.Proofs.YtddgfphbbkjmpaaDoor.Pure Go.Proofs.YtddgfphbbkjmpaaDoorW.PrintWords Go.Proofs.YtddgfphbbkjmpaaDoorW.PrintLast Go.Proofs.YtddgfphbbkjmpaaDoorW.PrintMore
set_option linter.unusedVariables false
set_option linter.unusedSimpArgs false
set_option maxRecDepth 100000 in
set_option maxHeartbeats 40000000 in
theorem lyRead_sx (w0 W : World) (cs : List Chunk) (plays : List S_Play) (A : Option Addr) (c : Nat) (hl : plays.length ≤ 8388608) (hC : ∀ W, Hp w0 cs W → Kd.C k36 W A plays.length plays) (hp : Hp w0 cs W) :
  Calls Tryd.prog 9 #[.slice A plays.length c] W fun e W' => (∃ g s A1 c1 A2 c2 F1 F2, lyReadF plays = some s ∧ e = .returned (.tuple #[.pointer (some ⟨g, 0, none⟩), .bool true]) ∧ Hp w0 (blk g #[.slice A1 s.ar.length c1, .slice A2 s.ti.length c2, .int .i64 s.sp, .int .i64 s.wt, .bool s.fi, .bool s.l0, .bool s.l1] 68 :: row k72 72 w0.heap.size (.slice A1 s.ar.length c1) s.ar F1 :: row k34 34 w0.heap.size (.slice A2 s.ti.length c2) s.ti F2 :: cs) W') ∨
   (∃ g, lyReadF plays = none ∧ e = .returned (.tuple #[.pointer (some ⟨g, 0, none⟩), .bool false]) ∧ Hp w0 cs W') := by
 refine sx_enter (N := 25) (l := [.slice A plays.length c]) Tryd.func9 rfl rfl rfl ?_
 refine wp_seq ?_
 refine sx_region ?_
 refine sx_rd 2 (.pointer none) (by rfl) (by kernel_rfl) ?_
 refine sx_rd 3 (.bool false) (by rfl) (by kernel_rfl) ?_
 refine sx_nil ?_
 refine ex_then_n ?_
 refine wp_seq ?_
 refine sx_region ?_
 refine sx_call 7 (by rfl) (by kernel_rfl) ((lyNew_sx w0 _ _ hp).mono ?_)
 rintro _ W_1 ⟨g, rfl, hp⟩
 refine ⟨_, rfl, ?_⟩
 replace hp := (hp.nilrow k34 34 w0.heap.size).nilrow k72 72 w0.heap.size
 refine sx_rd 4 (.pointer (some ⟨g, 0, none⟩)) (by rfl) (by kernel_rfl) ?_
 refine sx_nil ?_
 refine ex_then_n ?_
 refine wp_seq ?_
 refine wp_seq ?_
 refine sx_region ?_
 refine sx_rd 8 (.slice A plays.length c) (by rfl) (by kernel_rfl) ?_
 refine sx_rd 9 (.int .i64 (plays.length : Int)) (by rfl) (by kernel_rfl) ?_
 refine sx_rd 10 (.bool (decide ((plays.length : Int) > 28))) (by rfl) (by kernel_rfl) ?_
 refine sx_nil ?_
 refine ex_then_n ?_
 refine sx_cond (decide ((plays.length : Int) > 28)) (by rfl) (fun c_2 => ?_) (fun c_2 => ?_)
 ·
  have c_2p := of_decide_eq_true c_2
  refine wp_seq ?_
  refine sx_region ?_
  refine sx_rd 11 (.pointer (some ⟨g, 0, none⟩)) (by rfl) (by kernel_rfl) ?_
  refine sx_rd 2 (.pointer (some ⟨g, 0, none⟩)) (by rfl) (by kernel_rfl) ?_
  refine sx_rd 3 (.bool false) (by rfl) (by kernel_rfl) ?_
  refine sx_nil ?_
  refine ex_then_n ?_
  refine wp_ret ?_
  refine ex_then_r ?_
  refine sx_end (.tuple #[.pointer (some ⟨g, 0, none⟩), .bool false]) (res2 2 3 (by rfl)) ?_
  have hf : lyReadF plays = none := by unfold lyReadF; rw [if_pos (by omega)]
  exact .inr ⟨g, hf, rfl, hp.tail.tail.tail⟩
 ·
  have c_2p := of_decide_eq_false c_2
  refine wp_skip ?_
  refine ex_then_n ?_
  refine wp_seq ?_
  refine wp_seq ?_
  refine sx_region ?_
  refine sx_rd 12 (.slice A plays.length c) (by rfl) (by kernel_rfl) ?_
  refine sx_rd 13 (.int .i64 (plays.length : Int)) (by rfl) (by kernel_rfl) ?_
  refine sx_rd 14 (.int .i64 0) (by rfl) (by kernel_rfl) ?_
  refine sx_nil ?_
  refine ex_then_n ?_
  refine wp_block ?_
  refine wp_loop_ghost (fun n_ a_ W => ∃ (r_ : List (Nat × Value)) (i : Nat) (s : LySt) (A1 : Option Addr) (c1 : Nat) (A2 : Option Addr) (c2 : Nat) (F1 F2 : Nat → Prop), n_ = plays.length - i ∧ a_ = fr 25 ([(4, .pointer (some ⟨g, 0, none⟩)), (12, .slice A plays.length c), (13, .int .i64 (plays.length : Int)), (14, .int .i64 (i : Int))] ++ r_) ∧ Hp w0 (blk g #[.slice A1 s.ar.length c1, .slice A2 s.ti.length c2, .int .i64 s.sp, .int .i64 s.wt, .bool s.fi, .bool s.l0, .bool s.l1] 68 :: row k72 72 w0.heap.size (.slice A1 s.ar.length c1) s.ar F1 :: row k34 34 w0.heap.size (.slice A2 s.ti.length c2) s.ti F2 :: cs) W ∧ (i ≤ plays.length) ∧ ((plays.take i).foldlM lyAdd lyS0 = some s)) _ ⟨_, 0, lyS0, _, _, _, _, _, _, rfl, fr_front [(4, .pointer (some ⟨g, 0, none⟩)), (12, .slice A plays.length c), (13, .int .i64 (plays.length : Int)), (14, .int .i64 0)] ⟨rfl, rfl, rfl, rfl, trivial⟩, (hp.take [2, 0, 1] 3 (by decide) (by simp)), Nat.zero_le _, rfl⟩ ?_
  rintro _ _ W_3 ⟨r_, i, s, A1, c1, A2, c2, F1, F2, rfl, rfl, hp, hi, hs⟩
  have hok := lyOk_fold _ _ _ _ lyOk_start hs
  rw [Nat.zero_add, List.length_take, Nat.min_eq_left hi] at hok
  refine wp_seq ?_
  refine sx_region ?_
  refine sx_rd 15 (.bool (decide ((i : Int) < (plays.length : Int)))) (by rfl) (by kernel_rfl) ?_
  refine sx_nil ?_
  refine ex_then_n ?_
  refine wp_seq ?_
  refine sx_cond (decide ((i : Int) < (plays.length : Int))) (by rfl) (fun c_4 => ?_) (fun c_4 => ?_)
  ·
   have c_4p := of_decide_eq_true c_4
   refine wp_skip ?_
   refine ex_then_n ?_
   refine wp_seq ?_
   refine wp_block ?_
   refine wp_seq ?_
   refine sx_region ?_
   refine sx_rd 16 (.pointer (some (adr A (i : Int) 3))) (by rfl) (ix_run (d := k36) (hC _ hp.tail.tail.tail) (t := 26) (by rfl) (by rfl) (by rfl) Tryd.underlying26 (by kernel_rfl) (by omega) (by omega)) ?_
   refine sx_rd 17 (.agg #[.int .i64 ((rd_Play plays (i : Int)).f0.f0), .int .i64 ((rd_Play plays (i : Int)).f0.f1), .int .i64 ((rd_Play plays (i : Int)).f1)]) (by rfl) (el_run (d := k36) (hC _ hp.tail.tail.tail) z36 (i : Int) (by omega) (by omega) (cells := [.int .i64 ((rd_Play plays (i : Int)).f0.f0), .int .i64 ((rd_Play plays (i : Int)).f0.f1), .int .i64 ((rd_Play plays (i : Int)).f1)]) (fun cs h => k36_open h) 0 [.int .i64 ((rd_Play plays (i : Int)).f0.f0), .int .i64 ((rd_Play plays (i : Int)).f0.f1), .int .i64 ((rd_Play plays (i : Int)).f1)] (by rfl) (t := 36) (p := (.tmp 16)) (by rfl) (by rfl) (by kernel_rfl) (by kernel_rfl)) ?_
   refine sx_box 6 hp #[.int .i64 0, .int .i64 0, .int .i64 0] 36 (by rfl) (fun W => by kernel_rfl) ?_
   intro g_5 W_6 hp
   refine sx_store (t := 36) (p := (.tmp 6)) (x := (.tmp 17)) (by rfl) (by rfl) 0 (by rfl) 0 [.int .i64 ((rd_Play plays (i : Int)).f0.f0), .int .i64 ((rd_Play plays (i : Int)).f0.f1), .int .i64 ((rd_Play plays (i : Int)).f1)] (by rfl) (by rfl) (by kernel_rfl) (by simp [Value.oneCell']) (by show 3 ≤ 3; omega) #[.int .i64 ((rd_Play plays (i : Int)).f0.f0), .int .i64 ((rd_Play plays (i : Int)).f0.f1), .int .i64 ((rd_Play plays (i : Int)).f1)] (by rfl) hp ?_
   intro W_7 hp; simp only [List.set_cons_succ, List.set_cons_zero] at hp
   refine sx_nil ?_
   refine ex_then_n ?_
   refine wp_seq ?_
   refine sx_region ?_
   refine sx_rd 18 (.pointer (some ⟨g, 0, none⟩)) (by rfl) (by kernel_rfl) ?_
   refine sx_rd 19 (.agg #[.int .i64 ((rd_Play plays (i : Int)).f0.f0), .int .i64 ((rd_Play plays (i : Int)).f0.f1), .int .i64 ((rd_Play plays (i : Int)).f1)]) (by rfl) (ldn (t := 36) (p := (.tmp 6)) (by rfl) (by rfl) (by kernel_rfl) (by kernel_rfl) (by kernel_rfl) (hp.at_ 0 _ (by rfl))) ?_
   refine sx_call 20 (by rfl) (by kernel_rfl) ((lyAdd_sx w0 _ (blk g_5 #[.int .i64 ((rd_Play plays (i : Int)).f0.f0), .int .i64 ((rd_Play plays (i : Int)).f0.f1), .int .i64 ((rd_Play plays (i : Int)).f1)] 36 :: cs) g s A1 c1 A2 c2 w0.heap.size F1 F2 (rd_Play plays (i : Int)) (Nat.le_refl _) (by have := hok.ti; omega) (by have := hok.ar; omega) (hp.take [1, 2, 3, 0] 4 (by decide) (by simp))).mono ?_)
   rintro _ W_8 ⟨s', A1', c1', A2', c2', F1', F2', rfl, hs', hp⟩
   refine ⟨_, rfl, ?_⟩
   refine sx_rd 21 (.bool (!(lyCan s (rd_Play plays (i : Int))))) (by rfl) (by kernel_rfl) ?_
   refine sx_nil ?_
   refine ex_then_n ?_
   refine sx_cond (!(lyCan s (rd_Play plays (i : Int)))) (by rfl) (fun c_9 => ?_) (fun c_9 => ?_)
   ·
    refine wp_seq ?_
    refine sx_region ?_
    refine sx_rd 22 (.pointer (some ⟨g, 0, none⟩)) (by rfl) (by kernel_rfl) ?_
    refine sx_rd 2 (.pointer (some ⟨g, 0, none⟩)) (by rfl) (by kernel_rfl) ?_
    refine sx_rd 3 (.bool false) (by rfl) (by kernel_rfl) ?_
    refine sx_nil ?_
    refine ex_then_n ?_
    refine wp_ret ?_
    refine ex_blk_r (ex_then_r (ex_then_r (ex_blk_r (ex_then_r ?_))))
    refine sx_end (.tuple #[.pointer (some ⟨g, 0, none⟩), .bool false]) (res2 2 3 (by rfl)) ?_
    have hf : lyReadF plays = none := by unfold lyReadF; rw [if_neg (by omega)]; exact foldM_none lyAdd lyS0 plays (i + 1) (by rw [foldM_next lyAdd lyS0 plays i (by omega) s hs, ← rd_play plays i (by omega)]; simp [lyAdd, show lyCan s (rd_Play plays (i : Int)) = false from (not_eq c_9)])
    exact .inr ⟨g, hf, rfl, hp.tail.tail.tail.tail⟩
   ·
    refine wp_skip ?_
    refine ex_blk_n ?_
    refine ex_then_n ?_
    refine sx_region ?_
    refine sx_rd 23 (.int .i64 ((i : Int) + 1)) (by rfl) (wr_ok (by omega) (by kernel_rfl)) ?_
    refine sx_rd 14 (.int .i64 ((i : Int) + 1)) (by rfl) (by kernel_rfl) ?_
    refine sx_nil ?_
    refine ex_then_n ?_
    have hn : (plays.take (i + 1)).foldlM lyAdd lyS0 = some s' := by rw [foldM_next lyAdd lyS0 plays i (by omega) s hs, ← rd_play plays i (by omega), hs', show lyCan s (rd_Play plays (i : Int)) = true from (not_eq c_9), if_pos rfl]; simp [lyAdd, show lyCan s (rd_Play plays (i : Int)) = true from (not_eq c_9)]
    exact ⟨_, (show plays.length - (i + 1) < plays.length - i by omega), _, i + 1, s', _, _, _, _, _, _, rfl, fr_front [(4, .pointer (some ⟨g, 0, none⟩)), (12, .slice A plays.length c), (13, .int .i64 (plays.length : Int)), (14, .int .i64 ((i + 1 : Nat) : Int))] ⟨rfl, rfl, rfl, rfl, trivial⟩, (hp.take [0, 1, 2] 4 (by decide) (by simp)), (by omega), hn⟩
  ·
   have c_4p := of_decide_eq_false c_4
   refine wp_exit ?_
   refine ex_then_e (ex_then_e (ex_blk_here ?_))
   refine ex_then_n ?_
   refine wp_seq ?_
   refine sx_region ?_
   refine sx_rd 24 (.pointer (some ⟨g, 0, none⟩)) (by rfl) (by kernel_rfl) ?_
   refine sx_rd 2 (.pointer (some ⟨g, 0, none⟩)) (by rfl) (by kernel_rfl) ?_
   refine sx_rd 3 (.bool true) (by rfl) (by kernel_rfl) ?_
   refine sx_nil ?_
   refine ex_then_n ?_
   refine wp_ret ?_
   refine sx_end (.tuple #[.pointer (some ⟨g, 0, none⟩), .bool true]) (res2 2 3 (by rfl)) ?_
   have hf : lyReadF plays = some s := by unfold lyReadF; rw [if_neg (by omega)]; rwa [List.take_of_length_le (by omega)] at hs
   exact .inl ⟨g, s, _, _, _, _, _, _, hf, rfl, (hp.take [0, 1, 2] 3 (by decide) (by simp))⟩
end Go.Proofs.YtddgfphbbkjmpaaDoor.Hd
