/- impl.MostFives' search, by hand. -/
import Derived.Test.YtlphnpinpflaaaaPMostI
import Derived.Test.YtlphnpinpflaaaaMPlaysFor
import Derived.Test.YtlphnpinpflaaaaMSx3
import Derived.Test.YtlphnpinpflaaaaPPlaysA
import Derived.Test.YtlphnpinpflaaaaPPoints
namespace Go.Proofs.Ytlphnpinpflaaaa.Pure
open Go.RowKit Go.Proofs.Ytlphnpinpflaaaa.Hd Go.Proofs.YtlphnpinpflaaaaW.PrintWords Go.Proofs.YtlphnpinpflaaaaW.PrintLast
set_option linter.unusedVariables false
set_option linter.unusedSimpArgs false
/-- What impl.spreadOf and its points answer behind a play more that can be made. -/
theorem snoc_spread {l : List S_Play} {s : LySt} (h : lyReadF l = some s) (p : S_Play) (hc : lyCan s p = true) : ∃ t : SpSt, impl_spreadOf.f (l ++ [p]) = some (t.ar, t.ti, t.sp, t.w0, t.w1, true) ∧ Ev (fun k => impl_spread_points.f k t.ar t.ti t.sp t.w0 t.w1) (lyPointsF (lyDo s p)) := by
  have hr := readSnoc h p
  rw [if_pos hc] at hr
  unfold impl_spreadOf.f
  rcases both_read (l ++ [p]) with ⟨h1, h2⟩ | ⟨a, t, h1, h2, R, hok, h28⟩
  · rw [h1] at hr; cases hr
  · rw [h1] at hr
    injection hr with hr
    subst hr
    refine ⟨t, by rw [h2], ?_⟩
    rw [R.ar, R.ti]
    exact spPoints_ev hok h28 _ _ _
end Go.Proofs.Ytlphnpinpflaaaa.Pure
namespace Go.Proofs.Ytlphnpinpflaaaa.Hd
open Go.RowKit Go.Proofs.Ytlphnpinpflaaaa.Pure Go.Proofs.YtlphnpinpflaaaaW.PrintWords Go.Proofs.YtlphnpinpflaaaaW.PrintLast Go.Proofs.YtlphnpinpflaaaaW.PrintMore
set_option linter.unusedVariables false
set_option linter.unusedSimpArgs false
set_option maxRecDepth 100000 in
set_option maxHeartbeats 40000000 in
theorem most_sx (gm gp gb gh ga : Nat) (A0 A1 : Option Addr) (c0 c1 : Nat) (l0 : List S_Play) (l1 : List S_Tile) (hl1 : l1.length ≤ 1048576) (hc1 : l1.length ≤ c1) (hbh : handB l1 = true) : ∀ (d : Nat) (w0 W : World) (cs : List Chunk) (s : LySt) (now : List S_Play) (AN : Option Addr) (cN : Nat) (pts : Int) (hf : lyReadF now = some s) (hd : 28 ≤ now.length + d) (hm : l0.length ≤ now.length) (hpt0 : -2000 * (now.length : Int) ≤ pts ∧ pts ≤ 2000 * (now.length : Int)) (hcN : now.length ≤ cN)
  (hN : ∀ W, Hp w0 cs W → Kd.C k53 W AN now.length now) (hH : ∀ W, Hp w0 cs W → Kd.C k51 W A1 l1.length l1) (b : List S_Play × Int) (Ab : Option Addr) (cb : Nat) (Fb : Nat → Prop) (hp : Hp w0 (blk gm #[.int .i64 b.2] 3 :: blk gb #[.slice Ab b.1.length cb] 26 :: row k53 53 w0.heap.size (.slice Ab b.1.length cb) b.1 Fb :: blk gp #[.slice A0 l0.length c0] 26 :: blk gh #[.slice A1 l1.length c1] 44 :: blk ga #[.func (.func 70) #[] #[.pointer (some ⟨gm, 0, none⟩), .pointer (some ⟨gp, 0, none⟩), .pointer (some ⟨gb, 0, none⟩), .pointer (some ⟨gh, 0, none⟩), .pointer (some ⟨ga, 0, none⟩)]] 97 :: cs) W),
  Calls Try.prog 70 #[.slice AN now.length cN, .int .i64 pts, .pointer (some ⟨gm, 0, none⟩), .pointer (some ⟨gp, 0, none⟩), .pointer (some ⟨gb, 0, none⟩), .pointer (some ⟨gh, 0, none⟩), .pointer (some ⟨ga, 0, none⟩)] W fun e W' => ∃ A' c' F', e = .returned (.tuple #[]) ∧ Hp w0 (blk gm #[.int .i64 ((walkS l1 l0.length d s now pts b).2)] 3 :: blk gb #[.slice A' ((walkS l1 l0.length d s now pts b).1.length) c'] 26 :: row k53 53 w0.heap.size (.slice A' ((walkS l1 l0.length d s now pts b).1.length) c') ((walkS l1 l0.length d s now pts b).1) F' :: blk gp #[.slice A0 l0.length c0] 26 :: blk gh #[.slice A1 l1.length c1] 44 :: blk ga #[.func (.func 70) #[] #[.pointer (some ⟨gm, 0, none⟩), .pointer (some ⟨gp, 0, none⟩), .pointer (some ⟨gb, 0, none⟩), .pointer (some ⟨gh, 0, none⟩), .pointer (some ⟨ga, 0, none⟩)]] 97 :: cs) W' := by
 intro d
 induction d using Nat.strongRecOn with
 | ind d ih =>
  intro w0 W cs s now AN cN pts hf hd hm hpt0 hcN hN hH b Ab cb Fb hp
  obtain ⟨hok, hl28⟩ := lyOk_read hf
  refine sx_enter (N := 49) (l := [.slice AN now.length cN, .int .i64 pts, .pointer (some ⟨gm, 0, none⟩), .pointer (some ⟨gp, 0, none⟩), .pointer (some ⟨gb, 0, none⟩), .pointer (some ⟨gh, 0, none⟩), .pointer (some ⟨ga, 0, none⟩)]) Try.func70 rfl rfl rfl ?_
  refine sx_cut (fun a W => ∃ (r : List (Nat × Value)) (A' : Option Addr) (n' c' : Nat) (F' : Nat → Prop), a = fr 49 ([(0, .slice AN now.length cN), (1, .int .i64 pts), (5, .pointer (some ⟨gh, 0, none⟩)), (6, .pointer (some ⟨ga, 0, none⟩))] ++ r) ∧ Hp w0 (blk gm #[.int .i64 ((firstB l0.length now pts b).2)] 3 :: blk gb #[.slice A' n' c'] 26 :: row k53 53 w0.heap.size (.slice A' n' c') ((firstB l0.length now pts b).1) F' :: blk gp #[.slice A0 l0.length c0] 26 :: blk gh #[.slice A1 l1.length c1] 44 :: blk ga #[.func (.func 70) #[] #[.pointer (some ⟨gm, 0, none⟩), .pointer (some ⟨gp, 0, none⟩), .pointer (some ⟨gb, 0, none⟩), .pointer (some ⟨gh, 0, none⟩), .pointer (some ⟨ga, 0, none⟩)]] 97 :: cs) W) ?_ ?_
  ·
   refine wp_seq ?_
   refine sx_region ?_
   refine sx_rd 14 (.int .i64 pts) (by rfl) (by kernel_rfl) ?_
   refine sx_rd 15 (.int .i64 b.2) (by rfl) (ld1 (t := 3) (p := (.tmp 2)) (by rfl) (by rfl) (by kernel_rfl) (hp.cell 0 (by rfl) 0 _ (by rfl))) ?_
   refine sx_rd 16 (.bool (decide (pts > b.2))) (by rfl) (by kernel_rfl) ?_
   refine sx_nil ?_
   refine ex_then_n ?_
   refine sx_cond (decide (pts > b.2)) (by rfl) (fun c_1 => ?_) (fun c_1 => ?_)
   ·
    have c_1p := of_decide_eq_true c_1
    refine sx_region ?_
    refine sx_rd 17 (.slice AN now.length cN) (by rfl) (by kernel_rfl) ?_
    refine sx_rd 18 (.slice A0 l0.length c0) (by rfl) (ld1 (t := 26) (p := (.tmp 3)) (by rfl) (by rfl) (by kernel_rfl) (hp.cell 3 (by rfl) 0 _ (by rfl))) ?_
    refine sx_rd 19 (.int .i64 (l0.length : Int)) (by rfl) (by kernel_rfl) ?_
    have hcap_2 : now.length ≤ cN := hcN
    refine sx_rd 20 (.slice (if cN = l0.length then AN else Option.map (fun x => x.add (l0.length * 3)) AN) ((now.drop l0.length).length) (cN - l0.length)) (by rfl) (sl_lo l0.length (xs := now) (by rfl) (by rfl) (by rfl) (by omega) Try.underlying26 (by kernel_rfl) (by omega)) ?_
    refine sx_call 21 (by rfl) (by kernel_rfl) ((slices_Clone_impl_Play_impl_Play.calls (if cN = l0.length then AN else Option.map (fun x => x.add (l0.length * 3)) AN) (cN - l0.length) (now.drop l0.length) _ _ (Kd.C_drop (hN _ hp.tail.tail.tail.tail.tail.tail) (by omega) hcap_2) (show (now.drop l0.length).length ≤ cN - l0.length by simp; omega) (clone_playeq (now.drop l0.length) (by first | omega | (simp; omega)))).mono ?_)
    rintro _ W_8 ⟨v_4, rfl, hR_3, hb⟩
    refine ⟨_, rfl, ?_⟩
    obtain ⟨A_5, c_6, rfl, hcc_c_6, _⟩ := Kd.R_reads hR_3
    obtain ⟨F_7, hp⟩ : ∃ F, Hp w0 (row k53 53 w0.heap.size (.slice A_5 (now.drop l0.length).length c_6) (now.drop l0.length) F :: blk gm #[.int .i64 b.2] 3 :: blk gb #[.slice Ab b.1.length cb] 26 :: row k53 53 w0.heap.size (.slice Ab b.1.length cb) b.1 Fb :: blk gp #[.slice A0 l0.length c0] 26 :: blk gh #[.slice A1 l1.length c1] 44 :: blk ga #[.func (.func 70) #[] #[.pointer (some ⟨gm, 0, none⟩), .pointer (some ⟨gp, 0, none⟩), .pointer (some ⟨gb, 0, none⟩), .pointer (some ⟨gh, 0, none⟩), .pointer (some ⟨ga, 0, none⟩)]] 97 :: cs) _ := ⟨_, Hp.made hp hb hR_3⟩
    refine sx_rd 22 (.int .i64 pts) (by rfl) (by kernel_rfl) ?_
    refine sx_store (t := 26) (p := (.tmp 4)) (x := (.tmp 21)) (by rfl) (by rfl) 2 (by rfl) 0 [.slice A_5 ((now.drop l0.length).length) c_6] (by rfl) (by rfl) (by kernel_rfl) (by simp [Value.oneCell']) (by show 1 ≤ 1; omega) #[.slice A_5 ((now.drop l0.length).length) c_6] (by rfl) hp ?_
    intro W_9 hp; simp only [List.set_cons_succ, List.set_cons_zero] at hp
    refine sx_store (t := 3) (p := (.tmp 2)) (x := (.tmp 22)) (by rfl) (by rfl) 1 (by rfl) 0 [.int .i64 pts] (by rfl) (by rfl) (by kernel_rfl) (by simp [Value.oneCell']) (by show 1 ≤ 1; omega) #[.int .i64 pts] (by rfl) hp ?_
    intro W_10 hp; simp only [List.set_cons_succ, List.set_cons_zero] at hp
    refine sx_nil ?_
    refine ex_then_n ?_
    have hfb : (now.drop l0.length, pts) = (firstB l0.length now pts b) := by unfold firstB; rw [if_pos c_1p]
    have hx1 : (now.drop l0.length) = (firstB l0.length now pts b).1 := congrArg Prod.fst hfb
    have hx2 : pts = (firstB l0.length now pts b).2 := congrArg Prod.snd hfb
    have hp := (hp.take [1, 2, 0, 3, 4, 5, 6] 7 (by decide) (by simp))
    replace hp : Hp w0 (blk gm #[.int .i64 ((firstB l0.length now pts b).2)] 3 :: blk gb #[.slice A_5 ((now.drop l0.length).length) c_6] 26 :: row k53 53 w0.heap.size (.slice A_5 ((now.drop l0.length).length) c_6) ((firstB l0.length now pts b).1) F_7 :: row k53 53 w0.heap.size (.slice Ab b.1.length cb) b.1 Fb :: blk gp #[.slice A0 l0.length c0] 26 :: blk gh #[.slice A1 l1.length c1] 44 :: blk ga #[.func (.func 70) #[] #[.pointer (some ⟨gm, 0, none⟩), .pointer (some ⟨gp, 0, none⟩), .pointer (some ⟨gb, 0, none⟩), .pointer (some ⟨gh, 0, none⟩), .pointer (some ⟨ga, 0, none⟩)]] 97 :: cs) W_10 := by rw [← hx1, ← hx2]; exact hp
    exact ⟨_, _, _, _, _, fr_front [(0, .slice AN now.length cN), (1, .int .i64 pts), (5, .pointer (some ⟨gh, 0, none⟩)), (6, .pointer (some ⟨ga, 0, none⟩))] ⟨rfl, rfl, rfl, rfl, trivial⟩, (hp.take [0, 1, 2, 4, 5, 6] 7 (by decide) (by simp))⟩
   ·
    have c_1p := of_decide_eq_false c_1
    refine wp_skip ?_
    refine ex_then_n ?_
    have hfb : b = (firstB l0.length now pts b) := by unfold firstB; rw [if_neg c_1p]
    have hx1 : b.1 = (firstB l0.length now pts b).1 := congrArg Prod.fst hfb
    have hx2 : b.2 = (firstB l0.length now pts b).2 := congrArg Prod.snd hfb
    have hp := (hp.take [0, 1, 2, 3, 4, 5] 6 (by decide) (by simp))
    replace hp : Hp w0 (blk gm #[.int .i64 ((firstB l0.length now pts b).2)] 3 :: blk gb #[.slice Ab b.1.length cb] 26 :: row k53 53 w0.heap.size (.slice Ab b.1.length cb) ((firstB l0.length now pts b).1) Fb :: blk gp #[.slice A0 l0.length c0] 26 :: blk gh #[.slice A1 l1.length c1] 44 :: blk ga #[.func (.func 70) #[] #[.pointer (some ⟨gm, 0, none⟩), .pointer (some ⟨gp, 0, none⟩), .pointer (some ⟨gb, 0, none⟩), .pointer (some ⟨gh, 0, none⟩), .pointer (some ⟨ga, 0, none⟩)]] 97 :: cs) W := by rw [← hx1, ← hx2]; exact hp
    exact ⟨_, _, _, _, _, fr_front [(0, .slice AN now.length cN), (1, .int .i64 pts), (5, .pointer (some ⟨gh, 0, none⟩)), (6, .pointer (some ⟨ga, 0, none⟩))] ⟨rfl, rfl, rfl, rfl, trivial⟩, (hp.take [0, 1, 2, 3, 4, 5] 6 (by decide) (by simp))⟩
  ·
   rintro _ W_11 ⟨r, A', n', c', F', rfl, hp⟩
   obtain ⟨rfl, -⟩ := row_len (hp.at_ 2 _ (by rfl))
   refine wp_seq ?_
   refine sx_region ?_
   refine sx_rd 23 (.slice AN now.length cN) (by rfl) (by kernel_rfl) ?_
   refine sx_rd 24 (.slice A1 l1.length c1) (by rfl) (ld1 (t := 44) (p := (.tmp 5)) (by rfl) (by rfl) (by kernel_rfl) (hp.cell 4 (by rfl) 0 _ (by rfl))) ?_
   refine sx_call 25 (by rfl) (by kernel_rfl) ((impl_playsFor.calls AN cN now A1 c1 l1 _ _ (hN _ hp.tail.tail.tail.tail.tail.tail) hcN (hH _ hp.tail.tail.tail.tail.tail.tail) hc1 (playsFor_eq hf hbh (by omega) (by omega))).mono ?_)
   rintro _ W_17 ⟨v_13, rfl, hR_12, hb⟩
   refine ⟨_, rfl, ?_⟩
   obtain ⟨A_14, c_15, rfl, hcc_c_15, _⟩ := Kd.R_reads hR_12
   obtain ⟨F_16, hp⟩ : ∃ F, Hp w0 (row k53 53 w0.heap.size (.slice A_14 (lyForF s l1).length c_15) (lyForF s l1) F :: blk gm #[.int .i64 ((firstB l0.length now pts b).2)] 3 :: blk gb #[.slice A' ((firstB l0.length now pts b).1.length) c'] 26 :: row k53 53 w0.heap.size (.slice A' ((firstB l0.length now pts b).1.length) c') ((firstB l0.length now pts b).1) F' :: blk gp #[.slice A0 l0.length c0] 26 :: blk gh #[.slice A1 l1.length c1] 44 :: blk ga #[.func (.func 70) #[] #[.pointer (some ⟨gm, 0, none⟩), .pointer (some ⟨gp, 0, none⟩), .pointer (some ⟨gb, 0, none⟩), .pointer (some ⟨gh, 0, none⟩), .pointer (some ⟨ga, 0, none⟩)]] 97 :: cs) _ := ⟨_, Hp.made hp hb hR_12⟩
   refine sx_rd 26 (.int .i64 ((lyForF s l1).length : Int)) (by rfl) (by kernel_rfl) ?_
   refine sx_rd 27 (.int .i64 0) (by rfl) (by kernel_rfl) ?_
   refine sx_nil ?_
   refine ex_then_n ?_
   refine wp_block ?_
   have hlf := lyForF_len s l1 (by have := hok.ar; omega)
   refine wp_loop_ghost (fun n a W => ∃ (r : List (Nat × Value)) (i : Nat) (Aixgbx0 : Option Addr) (nixgbx0 cixgbx0 : Nat) (Fixgbx0 : Nat → Prop), n = (lyForF s l1).length - i ∧ a = fr 49 ([(0, .slice AN now.length cN), (1, .int .i64 pts), (6, .pointer (some ⟨ga, 0, none⟩)), (25, .slice A_14 ((lyForF s l1).length) c_15), (26, .int .i64 ((lyForF s l1).length : Int)), (27, .int .i64 (i : Int))] ++ r) ∧ Hp w0 (row k53 53 w0.heap.size (.slice Aixgbx0 nixgbx0 cixgbx0) ((walkTo l1 l0.length d s now pts b i).1) Fixgbx0 :: blk gm #[.int .i64 ((walkTo l1 l0.length d s now pts b i).2)] 3 :: blk gb #[.slice Aixgbx0 nixgbx0 cixgbx0] 26 :: row k53 53 w0.heap.size (.slice A_14 ((lyForF s l1).length) c_15) (lyForF s l1) F_16 :: blk gp #[.slice A0 l0.length c0] 26 :: blk gh #[.slice A1 l1.length c1] 44 :: blk ga #[.func (.func 70) #[] #[.pointer (some ⟨gm, 0, none⟩), .pointer (some ⟨gp, 0, none⟩), .pointer (some ⟨gb, 0, none⟩), .pointer (some ⟨gh, 0, none⟩), .pointer (some ⟨ga, 0, none⟩)]] 97 :: cs) W ∧ (i ≤ (lyForF s l1).length)) _ ⟨_, 0, _, _, _, _, rfl, fr_front [(0, .slice AN now.length cN), (1, .int .i64 pts), (6, .pointer (some ⟨ga, 0, none⟩)), (25, .slice A_14 ((lyForF s l1).length) c_15), (26, .int .i64 ((lyForF s l1).length : Int)), (27, .int .i64 0)] ⟨rfl, rfl, rfl, rfl, rfl, rfl, trivial⟩, (hp.take [3, 1, 2, 0, 4, 5, 6] 7 (by decide) (by simp)), Nat.zero_le _⟩ ?_
   rintro _ _ W_18 ⟨r, i, Aixgbx0, nixgbx0, cixgbx0, Fixgbx0, rfl, rfl, hp, hi⟩
   obtain ⟨rfl, hccixgbx0⟩ := row_len (hp.at_ 0 _ (by rfl))
   refine wp_seq ?_
   refine sx_region ?_
   refine sx_rd 28 (.bool (decide ((i : Int) < ((lyForF s l1).length : Int)))) (by rfl) (by kernel_rfl) ?_
   refine sx_nil ?_
   refine ex_then_n ?_
   refine wp_seq ?_
   refine sx_cond (decide ((i : Int) < ((lyForF s l1).length : Int))) (by rfl) (fun c_19 => ?_) (fun c_19 => ?_)
   ·
    have c_19p := of_decide_eq_true c_19
    refine wp_skip ?_
    refine ex_then_n ?_
    refine wp_seq ?_
    refine wp_block ?_
    refine wp_seq ?_
    refine sx_region ?_
    refine sx_rd 29 (.pointer (some (adr A_14 (i : Int) 3))) (by rfl) (ix_run (d := k53) (row_C (hp.at_ 3 _ (by rfl))) (t := 26) (by rfl) (by rfl) (by rfl) Try.underlying26 (by kernel_rfl) (by omega) (by omega)) ?_
    refine sx_rd 30 (.agg #[.int .i64 ((rd_Play (lyForF s l1) (i : Int)).f0.f0), .int .i64 ((rd_Play (lyForF s l1) (i : Int)).f0.f1), .int .i64 ((rd_Play (lyForF s l1) (i : Int)).f1)]) (by rfl) (el_run (d := k53) (row_C (hp.at_ 3 _ (by rfl))) z53 (i : Int) (by omega) (by omega) (cells := [.int .i64 ((rd_Play (lyForF s l1) (i : Int)).f0.f0), .int .i64 ((rd_Play (lyForF s l1) (i : Int)).f0.f1), .int .i64 ((rd_Play (lyForF s l1) (i : Int)).f1)]) (fun cs h => k53_open h) 0 [.int .i64 ((rd_Play (lyForF s l1) (i : Int)).f0.f0), .int .i64 ((rd_Play (lyForF s l1) (i : Int)).f0.f1), .int .i64 ((rd_Play (lyForF s l1) (i : Int)).f1)] (by rfl) (t := 53) (p := (.tmp 29)) (by rfl) (by rfl) (by kernel_rfl) (by kernel_rfl)) ?_
    refine sx_box 10 hp #[.int .i64 0, .int .i64 0, .int .i64 0] 53 (by rfl) (fun W => by kernel_rfl) ?_
    intro g_20 W_21 hp
    refine sx_store (t := 53) (p := (.tmp 10)) (x := (.tmp 30)) (by rfl) (by rfl) 0 (by rfl) 0 [.int .i64 ((rd_Play (lyForF s l1) (i : Int)).f0.f0), .int .i64 ((rd_Play (lyForF s l1) (i : Int)).f0.f1), .int .i64 ((rd_Play (lyForF s l1) (i : Int)).f1)] (by rfl) (by rfl) (by kernel_rfl) (by simp [Value.oneCell']) (by show 3 ≤ 3; omega) #[.int .i64 ((rd_Play (lyForF s l1) (i : Int)).f0.f0), .int .i64 ((rd_Play (lyForF s l1) (i : Int)).f0.f1), .int .i64 ((rd_Play (lyForF s l1) (i : Int)).f1)] (by rfl) hp ?_
    intro W_22 hp; simp only [List.set_cons_succ, List.set_cons_zero] at hp
    refine sx_nil ?_
    refine ex_then_n ?_
    refine wp_seq ?_
    obtain ⟨hcan, hok2, h28⟩ := lyFor_ok s l1 now.length hok i (by omega)
    obtain ⟨s2, hso, hpt⟩ := snoc_spread hf (rd_Play (lyForF s l1) (i : Int)) hcan
    have hpb := lyPointsF_bd hok2 (by omega)
    refine sx_drawI (fun a W => ∃ (r : List (Nat × Value)) (Am_37 : Option Addr) (cm_38 : Nat) (Fm_39 : Nat → Prop), a = fr 49 ([(0, .slice AN now.length cN), (1, .int .i64 pts), (6, .pointer (some ⟨ga, 0, none⟩)), (11, .slice Am_37 ((now ++ [(rd_Play (lyForF s l1) (i : Int))]).length) cm_38), (25, .slice A_14 ((lyForF s l1).length) c_15), (26, .int .i64 ((lyForF s l1).length : Int)), (27, .int .i64 (i : Int))] ++ r) ∧ Hp w0 (row k53 53 w0.heap.size (.slice Am_37 ((now ++ [(rd_Play (lyForF s l1) (i : Int))]).length) cm_38) (now ++ [(rd_Play (lyForF s l1) (i : Int))]) Fm_39 :: blk g_20 #[.int .i64 ((rd_Play (lyForF s l1) (i : Int)).f0.f0), .int .i64 ((rd_Play (lyForF s l1) (i : Int)).f0.f1), .int .i64 ((rd_Play (lyForF s l1) (i : Int)).f1)] 53 :: row k53 53 w0.heap.size (.slice Aixgbx0 (((walkTo l1 l0.length d s now pts b i).1).length) cixgbx0) ((walkTo l1 l0.length d s now pts b i).1) Fixgbx0 :: blk gm #[.int .i64 ((walkTo l1 l0.length d s now pts b i).2)] 3 :: blk gb #[.slice Aixgbx0 (((walkTo l1 l0.length d s now pts b i).1).length) cixgbx0] 26 :: row k53 53 w0.heap.size (.slice A_14 ((lyForF s l1).length) c_15) (lyForF s l1) F_16 :: blk gp #[.slice A0 l0.length c0] 26 :: blk gh #[.slice A1 l1.length c1] 44 :: blk ga #[.func (.func 70) #[] #[.pointer (some ⟨gm, 0, none⟩), .pointer (some ⟨gp, 0, none⟩), .pointer (some ⟨gb, 0, none⟩), .pointer (some ⟨gh, 0, none⟩), .pointer (some ⟨ga, 0, none⟩)]] 97 :: cs) W) [0] (.rd 2 (.alt 1 (.alt 3 (.alt 4 (.rd 5 (.fin)) .non) .non) (.alt 3 (.alt 1 (.alt 4 (.rd 5 (.fin)) .non) .non) (.non)))) 6 (C := Hp w0 (blk g_20 #[.int .i64 ((rd_Play (lyForF s l1) (i : Int)).f0.f0), .int .i64 ((rd_Play (lyForF s l1) (i : Int)).f0.f1), .int .i64 ((rd_Play (lyForF s l1) (i : Int)).f1)] 53 :: row k53 53 w0.heap.size (.slice Aixgbx0 (((walkTo l1 l0.length d s now pts b i).1).length) cixgbx0) ((walkTo l1 l0.length d s now pts b i).1) Fixgbx0 :: blk gm #[.int .i64 ((walkTo l1 l0.length d s now pts b i).2)] 3 :: blk gb #[.slice Aixgbx0 (((walkTo l1 l0.length d s now pts b i).1).length) cixgbx0] 26 :: row k53 53 w0.heap.size (.slice A_14 ((lyForF s l1).length) c_15) (lyForF s l1) F_16 :: blk gp #[.slice A0 l0.length c0] 26 :: blk gh #[.slice A1 l1.length c1] 44 :: blk ga #[.func (.func 70) #[] #[.pointer (some ⟨gm, 0, none⟩), .pointer (some ⟨gp, 0, none⟩), .pointer (some ⟨gb, 0, none⟩), .pointer (some ⟨gh, 0, none⟩), .pointer (some ⟨ga, 0, none⟩)]] 97 :: cs)) (by kernel_rfl) (by kernel_rfl) (fun d _ _ _ _ h => by cases d <;> exact h) (fun W h => h.drew) hp ?_ ?_
    ·
     refine preI_read rfl ?_
     refine sxq_val 31 (.slice AN now.length cN) (by rfl) (fun W _ => (by kernel_rfl)) ?_
     refine sxq_nil ?_
     refine preI_nil ?_
     intro W_23 hp
     refine treeI_rd rfl ?_
     refine sxq_val 33 (.agg #[.int .i64 ((rd_Play (lyForF s l1) (i : Int)).f0.f0), .int .i64 ((rd_Play (lyForF s l1) (i : Int)).f0.f1), .int .i64 ((rd_Play (lyForF s l1) (i : Int)).f1)]) (by rfl) (fun W hp => (ldn (t := 53) (p := (.tmp 10)) (by rfl) (by rfl) (by kernel_rfl) (by kernel_rfl) (by kernel_rfl) (hp.at_ 0 _ (by rfl)))) ?_
     refine sxq_nil ?_
     refine treeI_alt rfl ?_ ?_
     ·
      refine sx_call 32 (by rfl) (by kernel_rfl) ((slices_Clone_impl_Play_impl_Play.calls AN cN now _ _ (hN _ hp.tail.tail.tail.tail.tail.tail.tail.tail) hcN (clone_playeq now (by first | omega | (simp; omega)))).mono ?_)
      rintro _ W_29 ⟨v_25, rfl, hR_24, hb⟩
      refine ⟨_, rfl, ?_⟩
      obtain ⟨A_26, c_27, rfl, hcc_c_27, _⟩ := Kd.R_reads hR_24
      obtain ⟨F_28, hp⟩ : ∃ F, Hp w0 (row k53 53 w0.heap.size (.slice A_26 now.length c_27) now F :: blk g_20 #[.int .i64 ((rd_Play (lyForF s l1) (i : Int)).f0.f0), .int .i64 ((rd_Play (lyForF s l1) (i : Int)).f0.f1), .int .i64 ((rd_Play (lyForF s l1) (i : Int)).f1)] 53 :: row k53 53 w0.heap.size (.slice Aixgbx0 (((walkTo l1 l0.length d s now pts b i).1).length) cixgbx0) ((walkTo l1 l0.length d s now pts b i).1) Fixgbx0 :: blk gm #[.int .i64 ((walkTo l1 l0.length d s now pts b i).2)] 3 :: blk gb #[.slice Aixgbx0 (((walkTo l1 l0.length d s now pts b i).1).length) cixgbx0] 26 :: row k53 53 w0.heap.size (.slice A_14 ((lyForF s l1).length) c_15) (lyForF s l1) F_16 :: blk gp #[.slice A0 l0.length c0] 26 :: blk gh #[.slice A1 l1.length c1] 44 :: blk ga #[.func (.func 70) #[] #[.pointer (some ⟨gm, 0, none⟩), .pointer (some ⟨gp, 0, none⟩), .pointer (some ⟨gb, 0, none⟩), .pointer (some ⟨gh, 0, none⟩), .pointer (some ⟨ga, 0, none⟩)]] 97 :: cs) _ := ⟨_, Hp.made hp hb hR_24⟩
      refine step_fin hp.tail ?_
      refine treeI_ev rfl ?_
      refine sx_lit 34 (by rfl) k53 w0.heap.size 53 ([(rd_Play (lyForF s l1) (i : Int))]) [.int .i64 ((rd_Play (lyForF s l1) (i : Int)).f0.f0), .int .i64 ((rd_Play (lyForF s l1) (i : Int)).f0.f1), .int .i64 ((rd_Play (lyForF s l1) (i : Int)).f1)] (fun W => by kernel_rfl) (play_reps _ _ _) (by simp) hp.size hp ?_
      intro g_30 F_31 W_32 hp hz; clear hz
      refine step_fin hp.tail.tail ?_
      refine treeI_ev rfl ?_
      refine sx_append 35 (by rfl) k53 1 (by rfl) (.agg #[.int .i64 0, .int .i64 0, .int .i64 0]) 24 (by rfl) Try.underlying26 (by kernel_rfl) rfl (by decide) (by decide) ([(rd_Play (lyForF s l1) (i : Int))]) (by rfl) (by rfl) (row_C (hp.at_ 0 _ (by rfl))) play_kp hp.size (by simp; omega) hp ?_
      intro A_33 c_34 F_35 W_36 hp hz; clear hz; simp only [List.set_cons_succ, List.set_cons_zero] at hp
      refine step_fin hp.tail.tail ?_
      refine treeI_rd rfl ?_
      refine sxq_val 11 (.slice A_33 ((now ++ [(rd_Play (lyForF s l1) (i : Int))]).length) c_34) (by rfl) (fun W hp => (by kernel_rfl)) ?_
      refine sxq_nil ?_
      refine treeI_fin ?_
      exact ⟨_, A_33, c_34, F_35, fr_front [(0, .slice AN now.length cN), (1, .int .i64 pts), (6, .pointer (some ⟨ga, 0, none⟩)), (11, .slice A_33 ((now ++ [(rd_Play (lyForF s l1) (i : Int))]).length) c_34), (25, .slice A_14 ((lyForF s l1).length) c_15), (26, .int .i64 ((lyForF s l1).length : Int)), (27, .int .i64 (i : Int))] ⟨rfl, rfl, rfl, rfl, rfl, rfl, rfl, trivial⟩, (hp.take [1, 2, 3, 4, 5, 6, 7, 8, 9] 10 (by decide) (by simp))⟩
     refine treeI_alt rfl ?_ ?_
     ·
      refine sx_lit 34 (by rfl) k53 w0.heap.size 53 ([(rd_Play (lyForF s l1) (i : Int))]) [.int .i64 ((rd_Play (lyForF s l1) (i : Int)).f0.f0), .int .i64 ((rd_Play (lyForF s l1) (i : Int)).f0.f1), .int .i64 ((rd_Play (lyForF s l1) (i : Int)).f1)] (fun W => by kernel_rfl) (play_reps _ _ _) (by simp) hp.size hp ?_
      intro g_40 F_41 W_42 hp hz; clear hz
      refine step_fin hp.tail ?_
      refine treeI_ev rfl ?_
      refine sx_call 32 (by rfl) (by kernel_rfl) ((slices_Clone_impl_Play_impl_Play.calls AN cN now _ _ (hN _ hp.tail.tail.tail.tail.tail.tail.tail.tail.tail) hcN (clone_playeq now (by first | omega | (simp; omega)))).mono ?_)
      rintro _ W_48 ⟨v_44, rfl, hR_43, hb⟩
      refine ⟨_, rfl, ?_⟩
      obtain ⟨A_45, c_46, rfl, hcc_c_46, _⟩ := Kd.R_reads hR_43
      obtain ⟨F_47, hp⟩ : ∃ F, Hp w0 (row k53 53 w0.heap.size (.slice A_45 now.length c_46) now F :: row k53 53 w0.heap.size (.slice (some ⟨g_40, 0, none⟩) ([(rd_Play (lyForF s l1) (i : Int))].length) ([(rd_Play (lyForF s l1) (i : Int))].length)) ([(rd_Play (lyForF s l1) (i : Int))]) F_41 :: blk g_20 #[.int .i64 ((rd_Play (lyForF s l1) (i : Int)).f0.f0), .int .i64 ((rd_Play (lyForF s l1) (i : Int)).f0.f1), .int .i64 ((rd_Play (lyForF s l1) (i : Int)).f1)] 53 :: row k53 53 w0.heap.size (.slice Aixgbx0 (((walkTo l1 l0.length d s now pts b i).1).length) cixgbx0) ((walkTo l1 l0.length d s now pts b i).1) Fixgbx0 :: blk gm #[.int .i64 ((walkTo l1 l0.length d s now pts b i).2)] 3 :: blk gb #[.slice Aixgbx0 (((walkTo l1 l0.length d s now pts b i).1).length) cixgbx0] 26 :: row k53 53 w0.heap.size (.slice A_14 ((lyForF s l1).length) c_15) (lyForF s l1) F_16 :: blk gp #[.slice A0 l0.length c0] 26 :: blk gh #[.slice A1 l1.length c1] 44 :: blk ga #[.func (.func 70) #[] #[.pointer (some ⟨gm, 0, none⟩), .pointer (some ⟨gp, 0, none⟩), .pointer (some ⟨gb, 0, none⟩), .pointer (some ⟨gh, 0, none⟩), .pointer (some ⟨ga, 0, none⟩)]] 97 :: cs) _ := ⟨_, Hp.made hp hb hR_43⟩
      refine step_fin hp.tail.tail ?_
      refine treeI_ev rfl ?_
      refine sx_append 35 (by rfl) k53 0 (by rfl) (.agg #[.int .i64 0, .int .i64 0, .int .i64 0]) 24 (by rfl) Try.underlying26 (by kernel_rfl) rfl (by decide) (by decide) ([(rd_Play (lyForF s l1) (i : Int))]) (by rfl) (by rfl) (row_C (hp.at_ 1 _ (by rfl))) play_kp hp.size (by simp; omega) hp ?_
      intro A_49 c_50 F_51 W_52 hp hz; clear hz; simp only [List.set_cons_succ, List.set_cons_zero] at hp
      refine step_fin hp.tail.tail ?_
      refine treeI_rd rfl ?_
      refine sxq_val 11 (.slice A_49 ((now ++ [(rd_Play (lyForF s l1) (i : Int))]).length) c_50) (by rfl) (fun W hp => (by kernel_rfl)) ?_
      refine sxq_nil ?_
      refine treeI_fin ?_
      exact ⟨_, A_49, c_50, F_51, fr_front [(0, .slice AN now.length cN), (1, .int .i64 pts), (6, .pointer (some ⟨ga, 0, none⟩)), (11, .slice A_49 ((now ++ [(rd_Play (lyForF s l1) (i : Int))]).length) c_50), (25, .slice A_14 ((lyForF s l1).length) c_15), (26, .int .i64 ((lyForF s l1).length : Int)), (27, .int .i64 (i : Int))] ⟨rfl, rfl, rfl, rfl, rfl, rfl, rfl, trivial⟩, (hp.take [0, 2, 3, 4, 5, 6, 7, 8, 9] 10 (by decide) (by simp))⟩
     exact treeI_non
    ·
     rintro _ W_53 ⟨r, Am_37, cm_38, Fm_39, rfl, hp⟩
     refine sx_nil ?_
     refine ex_then_n ?_
     refine wp_seq ?_
     refine sx_region ?_
     refine sx_rd 37 (.slice Am_37 ((now ++ [(rd_Play (lyForF s l1) (i : Int))]).length) cm_38) (by rfl) (by kernel_rfl) ?_
     refine sx_call 38 (by rfl) (by kernel_rfl) ((impl_spreadOf.calls Am_37 cm_38 (now ++ [(rd_Play (lyForF s l1) (i : Int))]) _ _ _ _ _ _ _ (row_C (hp.at_ 0 _ (by rfl))) (row_len (hp.at_ 0 _ (by rfl))).2 hso).mono ?_)
     rintro _ W_64 ⟨v_56, v_57, rfl, hR_54, hR_55, hb⟩
     refine ⟨_, rfl, ?_⟩
     obtain ⟨A_58, c_59, rfl, hcc_c_59, _⟩ := Kd.R_reads hR_54
     obtain ⟨A_61, c_62, rfl, hcc_c_62, _⟩ := Kd.R_reads hR_55
     obtain ⟨F_60, F_63, hp⟩ : ∃ F_60 F_63, Hp w0 (row k85 85 w0.heap.size (.slice A_58 s2.ar.length c_59) s2.ar F_60 :: row k51 51 w0.heap.size (.slice A_61 s2.ti.length c_62) s2.ti F_63 :: row k53 53 w0.heap.size (.slice Am_37 ((now ++ [(rd_Play (lyForF s l1) (i : Int))]).length) cm_38) (now ++ [(rd_Play (lyForF s l1) (i : Int))]) Fm_39 :: blk g_20 #[.int .i64 ((rd_Play (lyForF s l1) (i : Int)).f0.f0), .int .i64 ((rd_Play (lyForF s l1) (i : Int)).f0.f1), .int .i64 ((rd_Play (lyForF s l1) (i : Int)).f1)] 53 :: row k53 53 w0.heap.size (.slice Aixgbx0 (((walkTo l1 l0.length d s now pts b i).1).length) cixgbx0) ((walkTo l1 l0.length d s now pts b i).1) Fixgbx0 :: blk gm #[.int .i64 ((walkTo l1 l0.length d s now pts b i).2)] 3 :: blk gb #[.slice Aixgbx0 (((walkTo l1 l0.length d s now pts b i).1).length) cixgbx0] 26 :: row k53 53 w0.heap.size (.slice A_14 ((lyForF s l1).length) c_15) (lyForF s l1) F_16 :: blk gp #[.slice A0 l0.length c0] 26 :: blk gh #[.slice A1 l1.length c1] 44 :: blk ga #[.func (.func 70) #[] #[.pointer (some ⟨gm, 0, none⟩), .pointer (some ⟨gp, 0, none⟩), .pointer (some ⟨gb, 0, none⟩), .pointer (some ⟨gh, 0, none⟩), .pointer (some ⟨ga, 0, none⟩)]] 97 :: cs) _ := ⟨_, _, Hp.made2 hp hb rfl rfl hR_54 hR_55 (typed_apart hR_54 hR_55 (by decide))⟩
     refine sx_rd 36 (.tuple #[.agg #[.slice A_58 s2.ar.length c_59, .slice A_61 s2.ti.length c_62, .int .i64 s2.sp, .bool s2.w0, .bool s2.w1], .bool true]) (by rfl) (by kernel_rfl) ?_
     refine sx_rd 39 (.agg #[.slice A_58 s2.ar.length c_59, .slice A_61 s2.ti.length c_62, .int .i64 s2.sp, .bool s2.w0, .bool s2.w1]) (by rfl) (by kernel_rfl) ?_
     refine sx_rd 40 (.bool true) (by rfl) (by kernel_rfl) ?_
     refine sx_box 12 hp #[.slice none 0 0, .slice none 0 0, .int .i64 0, .bool false, .bool false] 70 (by rfl) (fun W => by kernel_rfl) ?_
     intro g_65 W_66 hp
     refine sx_store (t := 70) (p := (.tmp 12)) (x := (.tmp 39)) (by rfl) (by rfl) 0 (by rfl) 0 [.slice A_58 s2.ar.length c_59, .slice A_61 s2.ti.length c_62, .int .i64 s2.sp, .bool s2.w0, .bool s2.w1] (by rfl) (by rfl) (by kernel_rfl) (by simp [Value.oneCell']) (by show 5 ≤ 5; omega) #[.slice A_58 s2.ar.length c_59, .slice A_61 s2.ti.length c_62, .int .i64 s2.sp, .bool s2.w0, .bool s2.w1] (by rfl) hp ?_
     intro W_67 hp; simp only [List.set_cons_succ, List.set_cons_zero] at hp
     refine sx_rd 13 (.bool true) (by rfl) (by kernel_rfl) ?_
     refine sx_nil ?_
     refine ex_then_n ?_
     refine sx_drawT [1, 2] (.rd 0 (.rd 3 (.alt 4 (.rd 5 (.fin)) .non))) 6 (C := Hp w0 (blk g_65 #[.slice A_58 s2.ar.length c_59, .slice A_61 s2.ti.length c_62, .int .i64 s2.sp, .bool s2.w0, .bool s2.w1] 70 :: row k85 85 w0.heap.size (.slice A_58 s2.ar.length c_59) s2.ar F_60 :: row k51 51 w0.heap.size (.slice A_61 s2.ti.length c_62) s2.ti F_63 :: row k53 53 w0.heap.size (.slice Am_37 ((now ++ [(rd_Play (lyForF s l1) (i : Int))]).length) cm_38) (now ++ [(rd_Play (lyForF s l1) (i : Int))]) Fm_39 :: blk g_20 #[.int .i64 ((rd_Play (lyForF s l1) (i : Int)).f0.f0), .int .i64 ((rd_Play (lyForF s l1) (i : Int)).f0.f1), .int .i64 ((rd_Play (lyForF s l1) (i : Int)).f1)] 53 :: row k53 53 w0.heap.size (.slice Aixgbx0 (((walkTo l1 l0.length d s now pts b i).1).length) cixgbx0) ((walkTo l1 l0.length d s now pts b i).1) Fixgbx0 :: blk gm #[.int .i64 ((walkTo l1 l0.length d s now pts b i).2)] 3 :: blk gb #[.slice Aixgbx0 (((walkTo l1 l0.length d s now pts b i).1).length) cixgbx0] 26 :: row k53 53 w0.heap.size (.slice A_14 ((lyForF s l1).length) c_15) (lyForF s l1) F_16 :: blk gp #[.slice A0 l0.length c0] 26 :: blk gh #[.slice A1 l1.length c1] 44 :: blk ga #[.func (.func 70) #[] #[.pointer (some ⟨gm, 0, none⟩), .pointer (some ⟨gp, 0, none⟩), .pointer (some ⟨gb, 0, none⟩), .pointer (some ⟨gh, 0, none⟩), .pointer (some ⟨ga, 0, none⟩)]] 97 :: cs)) (by kernel_rfl) (by kernel_rfl) (fun d _ _ _ _ h => by cases d <;> exact h) (fun W h => h.drew) hp ?_
     refine preI_read rfl ?_
     refine sxq_val 42 (.slice Am_37 ((now ++ [(rd_Play (lyForF s l1) (i : Int))]).length) cm_38) (by rfl) (fun W _ => (by kernel_rfl)) ?_
     refine sxq_nil ?_
     refine preI_read rfl ?_
     refine sxq_val 43 (.int .i64 pts) (by rfl) (fun W _ => (by kernel_rfl)) ?_
     refine sxq_nil ?_
     refine preI_nil ?_
     intro W_68 hp
     refine treeI_rd rfl ?_
     refine sxq_val 41 (.func (.func 70) #[] #[.pointer (some ⟨gm, 0, none⟩), .pointer (some ⟨gp, 0, none⟩), .pointer (some ⟨gb, 0, none⟩), .pointer (some ⟨gh, 0, none⟩), .pointer (some ⟨ga, 0, none⟩)]) (by rfl) (fun W hp => (ld1 (t := 97) (p := (.tmp 6)) (by rfl) (by rfl) (by kernel_rfl) (hp.cell 11 (by rfl) 0 _ (by rfl)))) ?_
     refine sxq_nil ?_
     refine treeI_rd rfl ?_
     refine sxq_val 44 (.agg #[.slice A_58 s2.ar.length c_59, .slice A_61 s2.ti.length c_62, .int .i64 s2.sp, .bool s2.w0, .bool s2.w1]) (by rfl) (fun W hp => (ldn (t := 70) (p := (.tmp 12)) (by rfl) (by rfl) (by kernel_rfl) (by kernel_rfl) (by kernel_rfl) (hp.at_ 0 _ (by rfl)))) ?_
     refine sxq_nil ?_
     refine treeI_ev rfl ?_
     obtain ⟨k_69, hk_k_69⟩ := Ev.rounds hpt
     refine sx_call 45 (by rfl) (by kernel_rfl) ((impl_spread_points.calls k_69 A_58 c_59 s2.ar A_61 c_62 s2.ti s2.sp s2.w0 s2.w1 _ _ (row_C (hp.at_ 1 _ (by rfl))) (row_len (hp.at_ 1 _ (by rfl))).2 (row_C (hp.at_ 2 _ (by rfl))) (row_len (hp.at_ 2 _ (by rfl))).2 hk_k_69).mono ?_)
     rintro _ W_70 ⟨rfl, hb⟩
     refine ⟨_, rfl, ?_⟩
     replace hp := hp.below hb
     clear hb
     refine step_fin hp ?_
     refine treeI_rd rfl ?_
     refine sxq_val 46 (.int .i64 (pts + (lyPointsF (lyDo s (rd_Play (lyForF s l1) (i : Int)))))) (by rfl) (fun W hp => (wr_ok (by omega) (by kernel_rfl))) ?_
     refine sxq_nil ?_
     refine treeI_fin ?_
     refine tail_of [6] (by rfl) ?_
     refine tailI_op rfl ?_
     refine sx_call 47 (by rfl) (by kernel_rfl) ((ih (d - 1) (by omega) w0 _ (row k53 53 w0.heap.size (.slice Am_37 ((now ++ [(rd_Play (lyForF s l1) (i : Int))]).length) cm_38) (now ++ [(rd_Play (lyForF s l1) (i : Int))]) Fm_39 :: blk g_65 #[.slice A_58 s2.ar.length c_59, .slice A_61 s2.ti.length c_62, .int .i64 s2.sp, .bool s2.w0, .bool s2.w1] 70 :: row k85 85 w0.heap.size (.slice A_58 s2.ar.length c_59) s2.ar F_60 :: row k51 51 w0.heap.size (.slice A_61 s2.ti.length c_62) s2.ti F_63 :: blk g_20 #[.int .i64 ((rd_Play (lyForF s l1) (i : Int)).f0.f0), .int .i64 ((rd_Play (lyForF s l1) (i : Int)).f0.f1), .int .i64 ((rd_Play (lyForF s l1) (i : Int)).f1)] 53 :: row k53 53 w0.heap.size (.slice A_14 ((lyForF s l1).length) c_15) (lyForF s l1) F_16 :: cs) (lyDo s (rd_Play (lyForF s l1) (i : Int))) (now ++ [(rd_Play (lyForF s l1) (i : Int))]) Am_37 cm_38 (pts + lyPointsF (lyDo s (rd_Play (lyForF s l1) (i : Int)))) (by have hz := readSnoc hf (rd_Play (lyForF s l1) (i : Int)); rwa [if_pos hcan] at hz) (by simp; omega) (by simp; omega) (by simp; omega) (row_len (hp.at_ 3 _ (by rfl))).2 (fun W h => row_C (h.at_ 0 _ (by rfl))) (fun W h => hH W h.tail.tail.tail.tail.tail.tail) (walkTo l1 l0.length d s now pts b i) Aixgbx0 cixgbx0 Fixgbx0 (hp.take [6, 7, 5, 9, 10, 11, 3, 0, 1, 2, 4, 8] 12 (by decide) (by simp))).mono ?_)
     rintro _ W_71 ⟨Ab2, cb2, Fb2, rfl, hp⟩
     refine ⟨_, rfl, ?_⟩
     refine tailI_next ?_
     refine tailI_nil ?_
     refine ex_blk_n ?_
     refine ex_then_n ?_
     refine sx_region ?_
     refine sx_rd 48 (.int .i64 ((i : Int) + 1)) (by rfl) (wr_ok (by omega) (by kernel_rfl)) ?_
     refine sx_rd 27 (.int .i64 ((i : Int) + 1)) (by rfl) (by kernel_rfl) ?_
     refine sx_nil ?_
     refine ex_then_n ?_
     have hq_72 : (walkS l1 l0.length (d - 1) (lyDo s (rd_Play (lyForF s l1) (i : Int))) (now ++ [(rd_Play (lyForF s l1) (i : Int))]) (pts + lyPointsF (lyDo s (rd_Play (lyForF s l1) (i : Int)))) (walkTo l1 l0.length d s now pts b i)).1 = (walkTo l1 l0.length d s now pts b (i + 1)).1 := (by rw [walkTo_next l1 l0.length d s now pts b i (by omega)])
     rw [hq_72] at hp
     have hq_73 : (walkS l1 l0.length (d - 1) (lyDo s (rd_Play (lyForF s l1) (i : Int))) (now ++ [(rd_Play (lyForF s l1) (i : Int))]) (pts + lyPointsF (lyDo s (rd_Play (lyForF s l1) (i : Int)))) (walkTo l1 l0.length d s now pts b i)).2 = (walkTo l1 l0.length d s now pts b (i + 1)).2 := (by rw [walkTo_next l1 l0.length d s now pts b i (by omega)])
     rw [hq_73] at hp
     exact ⟨_, (by omega), _, (i + 1), _, _, _, _, rfl, fr_front [(0, .slice AN now.length cN), (1, .int .i64 pts), (6, .pointer (some ⟨ga, 0, none⟩)), (25, .slice A_14 ((lyForF s l1).length) c_15), (26, .int .i64 ((lyForF s l1).length : Int)), (27, .int .i64 ((i + 1 : Nat) : Int))] ⟨rfl, rfl, rfl, rfl, rfl, rfl, trivial⟩, (hp.take [2, 0, 1, 11, 3, 4, 5] 12 (by decide) (by simp)), (by omega)⟩
   ·
    have c_19p := of_decide_eq_false c_19
    refine wp_exit ?_
    refine ex_then_e (ex_then_e (ex_blk_here ?_))
    refine sx_end_n (.tuple #[]) (res0 (by rfl)) ?_
    obtain rfl : i = (lyForF s l1).length := by omega
    rw [walkTo_all hok hd] at hp
    exact ⟨_, _, _, rfl, (hp.take [1, 2, 0, 4, 5, 6] 7 (by decide) (by simp))⟩
end Go.Proofs.Ytlphnpinpflaaaa.Hd
