/- spec.plMoves, by hand. -/
import Derived.Test.YtjaojemmbeddfaaGreatPMovesA
import Derived.Test.YtjaojemmbeddfaaGreatMSx3
import Derived.Test.YtjaojemmbeddfaaGreatG2
namespace Go.Proofs.YtjaojemmbeddfaaGreat.Hd
open Go.RowKit Go.Proofs.YtjaojemmbeddfaaGreat.Pure Go.Proofs.YtjaojemmbeddfaaGreatW.PrintWords Go.Proofs.YtjaojemmbeddfaaGreatW.PrintLast Go.Proofs.YtjaojemmbeddfaaGreatW.PrintMore
set_option linter.unusedVariables false
set_option linter.unusedSimpArgs false
theorem reps_flat2 {α : Type} {R : α → List Value → Prop} {size : Nat} {f : α → List Value} (h : ∀ x, R x (f x)) (hs : ∀ x, (f x).length = size) (xs : List α) : Reps R size xs (xs.flatMap f) := by
 have key : ∀ (zs ys : List α), Reps R size ys (ys.flatMap f) → Reps R size (ys ++ zs) ((ys ++ zs).flatMap f) := by
  intro zs
  induction zs with
  | nil => intro ys h0; rwa [List.append_nil]
  | cons z zs ih =>
   intro ys h0
   have h1 := Reps.snoc h0 (h z) (hs z)
   have e : ys ++ z :: zs = (ys ++ [z]) ++ zs := by simp
   rw [e]
   refine ih (ys ++ [z]) ?_
   have e2 : (ys ++ [z]).flatMap f = ys.flatMap f ++ f z := by simp
   rw [e2]
   exact h1
 exact key xs [] (Reps.none _ _)
theorem lay_kp {W : World} {base : Nat} (x : S_plLay) (cs : List Value) (h : k55.K W x cs) : k55.M W base (fun _ => False) x cs := by rw [k55_open h]; exact k55_mkM _ _ _ _
theorem lay_reps (W : World) (base : Nat) (xs : List S_plLay) : Reps (k55.M W base (fun _ => False)) 4 xs (xs.flatMap fun x => [.int .i64 x.f0.f0, .int .i64 x.f0.f1, .bool x.f1, .bool x.f2]) := reps_flat2 (fun x => k55_mkM _ _ _ x) (fun _ => rfl) xs
def spec_plMoves.f (f s : List S_Tile) (r : List Int) (t p : Int) : Option (List S_plLay) := if f.length ≤ 1048576 ∧ s.length ≤ 1048576 ∧ r.length ≤ 2000000 then some (movesL f s r t p) else none
set_option maxRecDepth 100000 in
set_option maxHeartbeats 40000000 in
theorem spec_plMoves.calls (A0_0 : Option Addr) (c0_0 : Nat) (l0_0 : List S_Tile) (A0_1 : Option Addr) (c0_1 : Nat) (l0_1 : List S_Tile) (A0_2 : Option Addr) (c0_2 : Nat) (l0_2 : List Int) (a0_3 : Int) (a0_4 : Int) (r : List S_plLay) (w : World) (hr0_0 : Kd.C k53 w A0_0 l0_0.length l0_0) (hc0_0 : l0_0.length ≤ c0_0) (hr0_1 : Kd.C k53 w A0_1 l0_1.length l0_1) (hc0_1 : l0_1.length ≤ c0_1) (hr0_2 : Kd.C (Kd.int .i64) w A0_2 l0_2.length l0_2) (hc0_2 : l0_2.length ≤ c0_2) (h : spec_plMoves.f l0_0 l0_1 l0_2 a0_3 a0_4 = some r) :
  Calls Tryz.prog 28 #[.agg #[.slice A0_0 l0_0.length c0_0, .slice A0_1 l0_1.length c0_1, .slice A0_2 l0_2.length c0_2, .int .i64 a0_3, .int .i64 a0_4]] w fun e w' => ∃ v0_ : Value, e = .returned (v0_) ∧ Kd.R k55 55 w' w.heap.size (fun _ => True) v0_ r ∧ Below w.heap.size w w' := by
 unfold spec_plMoves.f at h
 by_cases hsz : l0_0.length ≤ 1048576 ∧ l0_1.length ≤ 1048576 ∧ l0_2.length ≤ 2000000
 case neg => rw [if_neg hsz] at h; cases h
 rw [if_pos hsz] at h
 obtain ⟨hz0, hz1, hz2⟩ := hsz
 obtain ⟨cs, hcs⟩ : ∃ cs, cs = [old w w.heap.size] := ⟨_, rfl⟩
 have hp : Hp w cs w := by rw [hcs]; exact Hp.old_start w
 have hc2 : ∀ W, Hp w cs W → Below w.heap.size w W := fun W h => by rw [hcs] at h; exact h.since 0 _ rfl
 have hC0_0 : ∀ W, Hp w cs W → Kd.C k53 W A0_0 l0_0.length l0_0 := fun W h => Kd.C_below hr0_0 (hc2 W h)
 have hC0_1 : ∀ W, Hp w cs W → Kd.C k53 W A0_1 l0_1.length l0_1 := fun W h => Kd.C_below hr0_1 (hc2 W h)
 have hC0_2 : ∀ W, Hp w cs W → Kd.C (Kd.int .i64) W A0_2 l0_2.length l0_2 := fun W h => Kd.C_below hr0_2 (hc2 W h)
 clear hcs
 refine sx_enter (N := 83) (l := [.agg #[.slice A0_0 l0_0.length c0_0, .slice A0_1 l0_1.length c0_1, .slice A0_2 l0_2.length c0_2, .int .i64 a0_3, .int .i64 a0_4]]) Tryz.func28 rfl rfl rfl ?_
 refine wp_seq ?_
 refine sx_region ?_
 refine sx_box 1 hp #[.slice A0_0 l0_0.length c0_0, .slice A0_1 l0_1.length c0_1, .slice A0_2 l0_2.length c0_2, .int .i64 a0_3, .int .i64 a0_4] 31 (by rfl) (fun W => by kernel_rfl) ?_
 intro g_1 W_2 hp
 refine sx_rd 2 (.slice none 0 0) (by rfl) (by kernel_rfl) ?_
 refine sx_nil ?_
 refine ex_then_n ?_
 refine wp_seq ?_
 refine wp_seq ?_
 refine sx_region ?_
 refine sx_rd 9 (.agg #[.slice A0_0 l0_0.length c0_0, .slice A0_1 l0_1.length c0_1, .slice A0_2 l0_2.length c0_2, .int .i64 a0_3, .int .i64 a0_4]) (by rfl) (ldn (t := 31) (p := (.tmp 1)) (by rfl) (by rfl) (by kernel_rfl) (by kernel_rfl) (by kernel_rfl) (hp.at_ 0 _ (by rfl))) ?_
 refine sx_call 10 (by rfl) (by kernel_rfl) ((spec_plOver.calls A0_0 c0_0 l0_0 A0_1 c0_1 l0_1 A0_2 c0_2 l0_2 a0_3 a0_4 _ _ (hC0_0 _ hp.tail) hc0_0 (hC0_1 _ hp.tail) hc0_1 (hC0_2 _ hp.tail) hc0_2 (plOver_eq l0_0 l0_1 l0_2 a0_3 a0_4)).mono ?_)
 rintro _ W_3 ⟨rfl, hb⟩
 refine ⟨_, rfl, ?_⟩
 replace hp := hp.below hb
 clear hb
 refine sx_nil ?_
 refine ex_then_n ?_
 refine sx_cond (overB l0_0 l0_1 a0_4) (by rfl) (fun c_4 => ?_) (fun c_4 => ?_)
 ·
  refine wp_seq ?_
  refine sx_region ?_
  refine sx_rd 2 (.slice none 0 0) (by rfl) (by kernel_rfl) ?_
  refine sx_nil ?_
  refine ex_then_n ?_
  refine wp_ret ?_
  refine ex_then_r ?_
  refine sx_end (.slice none 0 0) (res1 2 (by rfl)) ?_
  unfold movesL at h; rw [if_pos (show (overB l0_0 l0_1 a0_4) = true from by have q := c_4; simpa using q)] at h; obtain rfl := Option.some.inj h
  exact ⟨_, rfl, Kd.R_nil _ _ _ _ _, hc2 _ (hp.tail)⟩
 ·
  refine wp_skip ?_
  refine ex_then_n ?_
  refine wp_seq ?_
  refine sx_region ?_
  refine sx_rd 11 (.pointer (some ⟨g_1, 0, none⟩)) (by rfl) (by kernel_rfl) ?_
  refine sx_rd 12 (.slice A0_0 l0_0.length c0_0) (by rfl) (ld1 (t := 29) (p := (.tmp 11)) (by rfl) (by rfl) (by kernel_rfl) (hp.cell 0 (by rfl) 0 _ (by rfl))) ?_
  refine sx_rd 3 (.slice A0_0 l0_0.length c0_0) (by rfl) (by kernel_rfl) ?_
  refine sx_nil ?_
  refine ex_then_n ?_
  refine sx_cut (fun a_ W => ∃ (r_ : List (Nat × Value)) (Ah : Option Addr) (ch : Nat) (lh : List S_Tile), a_ = fr 83 ([(1, .pointer (some ⟨g_1, 0, none⟩)), (3, .slice Ah lh.length ch)] ++ r_) ∧ Hp w (blk g_1 #[.slice A0_0 l0_0.length c0_0, .slice A0_1 l0_1.length c0_1, .slice A0_2 l0_2.length c0_2, .int .i64 a0_3, .int .i64 a0_4] 31 :: cs) W ∧ (∀ W, Hp w cs W → Kd.C k53 W Ah lh.length lh) ∧ (lh.length ≤ ch) ∧ (lh.length ≤ 1048576) ∧ (ownT l0_0 l0_1 a0_3 = lh)) ?_ ?_
  ·
   refine wp_seq ?_
   refine sx_region ?_
   refine sx_rd 13 (.pointer (some ⟨g_1, 3, none⟩)) (by rfl) (by kernel_rfl) ?_
   refine sx_rd 14 (.int .i64 a0_3) (by rfl) (ld1 (t := 3) (p := (.tmp 13)) (by rfl) (by rfl) (by kernel_rfl) (hp.cell 0 (by rfl) 3 _ (by rfl))) ?_
   refine sx_rd 15 (.bool (a0_3 == 1)) (by rfl) (by kernel_rfl) ?_
   refine sx_nil ?_
   refine ex_then_n ?_
   refine sx_cond (a0_3 == 1) (by rfl) (fun c_5 => ?_) (fun c_5 => ?_)
   ·
    have c_5p := eq_of_beq_ c_5
    refine sx_region ?_
    refine sx_rd 16 (.pointer (some ⟨g_1, 1, none⟩)) (by rfl) (by kernel_rfl) ?_
    refine sx_rd 17 (.slice A0_1 l0_1.length c0_1) (by rfl) (ld1 (t := 29) (p := (.tmp 16)) (by rfl) (by rfl) (by kernel_rfl) (hp.cell 0 (by rfl) 1 _ (by rfl))) ?_
    refine sx_rd 3 (.slice A0_1 l0_1.length c0_1) (by rfl) (by kernel_rfl) ?_
    refine sx_nil ?_
    refine ex_then_n ?_
    exact ⟨_, A0_1, c0_1, l0_1, fr_front [(1, .pointer (some ⟨g_1, 0, none⟩)), (3, .slice A0_1 l0_1.length c0_1)] ⟨rfl, rfl, trivial⟩, hp, hC0_1, hc0_1, (by omega), (by unfold ownT; rw [if_pos c_5p])⟩
   ·
    have c_5p := ne_of_beq_ c_5
    refine wp_skip ?_
    refine ex_then_n ?_
    exact ⟨_, A0_0, c0_0, l0_0, fr_front [(1, .pointer (some ⟨g_1, 0, none⟩)), (3, .slice A0_0 l0_0.length c0_0)] ⟨rfl, rfl, trivial⟩, hp, hC0_0, hc0_0, (by omega), (by unfold ownT; rw [if_neg c_5p])⟩
  ·
   rintro _ W_6 ⟨r_, Ah, ch, lh, rfl, hp, hCh, hch, hlh, how⟩
   refine wp_seq ?_
   refine sx_region ?_
   refine sx_rd 4 (.slice none 0 0) (by rfl) (by kernel_rfl) ?_
   refine sx_nil ?_
   refine ex_then_n ?_
   refine wp_seq ?_
   refine wp_seq ?_
   refine sx_region ?_
   refine sx_rd 18 (.slice Ah lh.length ch) (by rfl) (by kernel_rfl) ?_
   obtain ⟨k_7, hk_k_7⟩ := Ev.rounds (tiSort_ev lh (by omega))
   refine sx_call 19 (by rfl) (by kernel_rfl) ((spec_tiSort.calls k_7 Ah ch lh _ _ (hCh _ hp.tail) hch hk_k_7).mono ?_)
   rintro _ W_13 ⟨v_9, rfl, hR_8, hb⟩
   refine ⟨_, rfl, ?_⟩
   obtain ⟨A_10, c_11, rfl, hcc_c_11, _⟩ := Kd.R_reads hR_8
   obtain ⟨F_12, hp⟩ : ∃ F, Hp w (row k53 53 w.heap.size (.slice A_10 (sortT lh).length c_11) (sortT lh) F :: blk g_1 #[.slice A0_0 l0_0.length c0_0, .slice A0_1 l0_1.length c0_1, .slice A0_2 l0_2.length c0_2, .int .i64 a0_3, .int .i64 a0_4] 31 :: cs) _ := ⟨_, Hp.made hp hb hR_8⟩
   refine sx_rd 20 (.int .i64 ((sortT lh).length : Int)) (by rfl) (by kernel_rfl) ?_
   refine sx_rd 21 (.int .i64 0) (by rfl) (by kernel_rfl) ?_
   refine sx_nil ?_
   refine ex_then_n ?_
   refine wp_block ?_
   have hTl := sortT_len lh
   have hp := hp.nilrow k55 55 w.heap.size
   refine wp_loop_ghost (fun n_ a_ W => ∃ (r_ : List (Nat × Value)) (i : Nat) (Ai4 : Option Addr) (ni4 ci4 : Nat) (Fi4 : Nat → Prop), n_ = (sortT lh).length - i ∧ a_ = fr 83 ([(1, .pointer (some ⟨g_1, 0, none⟩)), (4, .slice Ai4 ni4 ci4), (19, .slice A_10 ((sortT lh).length) c_11), (20, .int .i64 ((sortT lh).length : Int)), (21, .int .i64 (i : Int))] ++ r_) ∧ Hp w (row k55 55 w.heap.size (.slice Ai4 ni4 ci4) (fitTo l0_2 (sortT lh) i) Fi4 :: row k53 53 w.heap.size (.slice A_10 ((sortT lh).length) c_11) (sortT lh) F_12 :: blk g_1 #[.slice A0_0 l0_0.length c0_0, .slice A0_1 l0_1.length c0_1, .slice A0_2 l0_2.length c0_2, .int .i64 a0_3, .int .i64 a0_4] 31 :: cs) W ∧ (i ≤ (sortT lh).length)) _ ⟨_, 0, _, _, _, _, rfl, fr_front [(1, .pointer (some ⟨g_1, 0, none⟩)), (4, .slice none 0 0), (19, .slice A_10 ((sortT lh).length) c_11), (20, .int .i64 ((sortT lh).length : Int)), (21, .int .i64 0)] ⟨rfl, rfl, rfl, rfl, rfl, trivial⟩, (hp.take [0, 1, 2] 3 (by decide) (by simp)), Nat.zero_le _⟩ ?_
   rintro _ _ W_14 ⟨r_, i, Ai4, ni4, ci4, Fi4, rfl, rfl, hp, hi⟩
   obtain ⟨rfl, hcci4⟩ := row_len (hp.at_ 0 _ (by rfl))
   have hfl := fitTo_len l0_2 (sortT lh) i (by omega)
   refine wp_seq ?_
   refine sx_region ?_
   refine sx_rd 22 (.bool (decide ((i : Int) < ((sortT lh).length : Int)))) (by rfl) (by kernel_rfl) ?_
   refine sx_nil ?_
   refine ex_then_n ?_
   refine wp_seq ?_
   refine sx_cond (decide ((i : Int) < ((sortT lh).length : Int))) (by rfl) (fun c_15 => ?_) (fun c_15 => ?_)
   ·
    have c_15p := of_decide_eq_true c_15
    refine wp_skip ?_
    refine ex_then_n ?_
    refine wp_seq ?_
    refine wp_block ?_
    refine wp_seq ?_
    refine sx_region ?_
    refine sx_rd 23 (.pointer (some (adr A_10 (i : Int) 2))) (by rfl) (ix_run (d := k53) (row_C (hp.at_ 1 _ (by rfl))) (t := 29) (by rfl) (by rfl) (by rfl) Tryz.underlying29 (by kernel_rfl) (by omega) (by omega)) ?_
    refine sx_rd 24 (.agg #[.int .i64 ((rd_Tile (sortT lh) (i : Int)).f0), .int .i64 ((rd_Tile (sortT lh) (i : Int)).f1)]) (by rfl) (el_run (d := k53) (row_C (hp.at_ 1 _ (by rfl))) z53 (i : Int) (by omega) (by omega) (cells := [.int .i64 ((rd_Tile (sortT lh) (i : Int)).f0), .int .i64 ((rd_Tile (sortT lh) (i : Int)).f1)]) (fun cs h => k53_open h) 0 [.int .i64 ((rd_Tile (sortT lh) (i : Int)).f0), .int .i64 ((rd_Tile (sortT lh) (i : Int)).f1)] (by rfl) (t := 53) (p := (.tmp 23)) (by rfl) (by rfl) (by kernel_rfl) (by kernel_rfl)) ?_
    refine sx_box 6 hp #[.int .i64 0, .int .i64 0] 53 (by rfl) (fun W => by kernel_rfl) ?_
    intro g_16 W_17 hp
    refine sx_store (t := 53) (p := (.tmp 6)) (x := (.tmp 24)) (by rfl) (by rfl) 0 (by rfl) 0 [.int .i64 ((rd_Tile (sortT lh) (i : Int)).f0), .int .i64 ((rd_Tile (sortT lh) (i : Int)).f1)] (by rfl) (by rfl) (by kernel_rfl) (by simp [Value.oneCell']) (by show 2 ≤ 2; omega) #[.int .i64 ((rd_Tile (sortT lh) (i : Int)).f0), .int .i64 ((rd_Tile (sortT lh) (i : Int)).f1)] (by rfl) hp ?_
    intro W_18 hp; simp only [List.set_cons_succ, List.set_cons_zero] at hp
    refine sx_nil ?_
    refine ex_then_n ?_
    refine wp_seq ?_
    refine wp_seq ?_
    refine sx_region ?_
    refine sx_rd 25 (.pointer (some ⟨g_1, 2, none⟩)) (by rfl) (by kernel_rfl) ?_
    refine sx_rd 26 (.slice A0_2 l0_2.length c0_2) (by rfl) (ld1 (t := 23) (p := (.tmp 25)) (by rfl) (by rfl) (by kernel_rfl) (hp.cell 3 (by rfl) 2 _ (by rfl))) ?_
    refine sx_rd 27 (.int .i64 (l0_2.length : Int)) (by rfl) (by kernel_rfl) ?_
    refine sx_rd 28 (.bool ((l0_2.length : Int) == 0)) (by rfl) (by kernel_rfl) ?_
    refine sx_nil ?_
    refine ex_then_n ?_
    refine sx_cond ((l0_2.length : Int) == 0) (by rfl) (fun c_19 => ?_) (fun c_19 => ?_)
    ·
     have c_19p := eq_of_beq_ c_19
     refine wp_seq ?_
     refine sx_region ?_
     refine sx_rd 29 (.slice Ai4 ((fitTo l0_2 (sortT lh) i).length) ci4) (by rfl) (by kernel_rfl) ?_
     refine sx_rd 30 (.agg #[.int .i64 ((rd_Tile (sortT lh) (i : Int)).f0), .int .i64 ((rd_Tile (sortT lh) (i : Int)).f1)]) (by rfl) (ldn (t := 53) (p := (.tmp 6)) (by rfl) (by rfl) (by kernel_rfl) (by kernel_rfl) (by kernel_rfl) (hp.at_ 0 _ (by rfl))) ?_
     refine sx_rd 31 (.agg #[.int .i64 ((rd_Tile (sortT lh) (i : Int)).f0), .int .i64 ((rd_Tile (sortT lh) (i : Int)).f1), .bool true, .bool false]) (by rfl) (by kernel_rfl) ?_
     refine sx_lit 32 (by rfl) k55 w.heap.size 55 ([(⟨(rd_Tile (sortT lh) (i : Int)), true, false⟩ : S_plLay)]) [.int .i64 ((rd_Tile (sortT lh) (i : Int)).f0), .int .i64 ((rd_Tile (sortT lh) (i : Int)).f1), .bool true, .bool false] (fun W => by kernel_rfl) (lay_reps _ _ _) (by simp) hp.size hp ?_
     intro g_20 F_21 W_22 hp hz; clear hz
     refine sx_append 33 (by rfl) k55 2 (by rfl) (.agg #[.int .i64 0, .int .i64 0, .bool false, .bool false]) 24 (by rfl) Tryz.underlying50 (by kernel_rfl) rfl (by decide) (by decide) ([(⟨(rd_Tile (sortT lh) (i : Int)), true, false⟩ : S_plLay)]) (by rfl) (by rfl) (row_C (hp.at_ 0 _ (by rfl))) lay_kp hp.size (by first | omega | (simp; omega)) hp ?_
     intro A_23 c_24 F_25 W_26 hp hz; clear hz; simp only [List.set_cons_succ, List.set_cons_zero] at hp
     refine sx_rd 4 (.slice A_23 (((fitTo l0_2 (sortT lh) i) ++ [(⟨(rd_Tile (sortT lh) (i : Int)), true, false⟩ : S_plLay)]).length) c_24) (by rfl) (by kernel_rfl) ?_
     refine sx_nil ?_
     refine ex_then_n ?_
     refine wp_exit ?_
     refine ex_then_e (ex_blk_here ?_)
     refine ex_then_n ?_
     refine sx_region ?_
     refine sx_rd 76 (.int .i64 ((i : Int) + 1)) (by rfl) (wr_ok (by omega) (by kernel_rfl)) ?_
     refine sx_rd 21 (.int .i64 ((i : Int) + 1)) (by rfl) (by kernel_rfl) ?_
     refine sx_nil ?_
     refine ex_then_n ?_
     have hft : fitTo l0_2 (sortT lh) (i + 1) = fitTo l0_2 (sortT lh) i ++ fitL l0_2 (rd_Tile (sortT lh) (i : Int)) := fitTo_next l0_2 (sortT lh) i (by omega)
     have hq_27 : ((fitTo l0_2 (sortT lh) i) ++ [(⟨(rd_Tile (sortT lh) (i : Int)), true, false⟩ : S_plLay)]) = (fitTo l0_2 (sortT lh) (i + 1)) := by rw [hft]; unfold fitL; rw [if_pos (by omega)]
     rw [hq_27] at hp
     exact ⟨_, (by omega), _, (i + 1), _, _, _, _, rfl, fr_front [(1, .pointer (some ⟨g_1, 0, none⟩)), (4, .slice A_23 ((fitTo l0_2 (sortT lh) (i + 1)).length) c_24), (19, .slice A_10 ((sortT lh).length) c_11), (20, .int .i64 ((sortT lh).length : Int)), (21, .int .i64 ((i + 1 : Nat) : Int))] ⟨rfl, congrArg (fun z : List S_plLay => Value.slice A_23 z.length c_24) hq_27, rfl, rfl, rfl, trivial⟩, (hp.take [2, 3, 4] 5 (by decide) (by simp)), (by omega)⟩
    ·
     have c_19p := ne_of_beq_ c_19
     refine wp_skip ?_
     refine ex_then_n ?_
     refine wp_seq ?_
     refine sx_drawT [0, 4, 6] (.rd 1 (.rd 2 (.rd 3 (.rd 5 (.rd 7 (.rd 8 (.rd 9 (.rd 10 (.rd 11 (.rd 12 (.rd 13 (.fin)))))))))))) 14 (C := Hp w (blk g_16 #[.int .i64 ((rd_Tile (sortT lh) (i : Int)).f0), .int .i64 ((rd_Tile (sortT lh) (i : Int)).f1)] 53 :: row k55 55 w.heap.size (.slice Ai4 ((fitTo l0_2 (sortT lh) i).length) ci4) (fitTo l0_2 (sortT lh) i) Fi4 :: row k53 53 w.heap.size (.slice A_10 ((sortT lh).length) c_11) (sortT lh) F_12 :: blk g_1 #[.slice A0_0 l0_0.length c0_0, .slice A0_1 l0_1.length c0_1, .slice A0_2 l0_2.length c0_2, .int .i64 a0_3, .int .i64 a0_4] 31 :: cs)) (by kernel_rfl) (by kernel_rfl) (fun d _ _ _ _ h => by cases d <;> exact h) (fun W h => h.drew) hp ?_
     refine preI_read rfl ?_
     refine sxq_val 34 (.pointer (some ⟨g_1, 2, none⟩)) (by rfl) (fun W _ => (by kernel_rfl)) ?_
     refine sxq_nil ?_
     refine preI_read rfl ?_
     refine sxq_val 38 (.pointer (some ⟨g_1, 2, none⟩)) (by rfl) (fun W _ => (by kernel_rfl)) ?_
     refine sxq_nil ?_
     refine preI_read rfl ?_
     refine sxq_val 40 (.pointer (some ⟨g_1, 2, none⟩)) (by rfl) (fun W _ => (by kernel_rfl)) ?_
     refine sxq_nil ?_
     refine preI_nil ?_
     intro W_28 hp
     refine treeI_rd rfl ?_
     refine sxq_val 35 (.slice A0_2 l0_2.length c0_2) (by rfl) (fun W hp => (ld1 (t := 23) (p := (.tmp 34)) (by rfl) (by rfl) (by kernel_rfl) (hp.cell 3 (by rfl) 2 _ (by rfl)))) ?_
     refine sxq_nil ?_
     refine treeI_rd rfl ?_
     refine sxq_val 36 (.pointer (some (adr A0_2 0 1))) (by rfl) (fun W hp => (ix_run (d := (Kd.int .i64)) (hC0_2 _ hp.tail.tail.tail.tail) (t := 23) (by rfl) (by rfl) (by rfl) Tryz.underlying23 (by kernel_rfl) (by omega) (by omega))) ?_
     refine sxq_nil ?_
     refine treeI_rd rfl ?_
     refine sxq_val 37 (.int .i64 (rd l0_2 0)) (by rfl) (fun W hp => (ld1 (t := 3) (p := (.tmp 36)) (by rfl) (by rfl) (by kernel_rfl) (el_cell (d := (Kd.int .i64)) (hC0_2 _ hp.tail.tail.tail.tail) 0 0 (by omega) (by omega) (cells := [.int .i64 (rd l0_2 0)]) (fun cs h => h) 0 _ (by rfl)))) ?_
     refine sxq_nil ?_
     refine treeI_rd rfl ?_
     refine sxq_val 39 (.slice A0_2 l0_2.length c0_2) (by rfl) (fun W hp => (ld1 (t := 23) (p := (.tmp 38)) (by rfl) (by rfl) (by kernel_rfl) (hp.cell 3 (by rfl) 2 _ (by rfl)))) ?_
     refine sxq_nil ?_
     refine treeI_rd rfl ?_
     refine sxq_val 41 (.slice A0_2 l0_2.length c0_2) (by rfl) (fun W hp => (ld1 (t := 23) (p := (.tmp 40)) (by rfl) (by rfl) (by kernel_rfl) (hp.cell 3 (by rfl) 2 _ (by rfl)))) ?_
     refine sxq_nil ?_
     refine treeI_rd rfl ?_
     refine sxq_val 42 (.int .i64 (l0_2.length : Int)) (by rfl) (fun W hp => (by kernel_rfl)) ?_
     refine sxq_nil ?_
     refine treeI_rd rfl ?_
     refine sxq_val 43 (.int .i64 ((l0_2.length : Int) - 1)) (by rfl) (fun W hp => (wr_ok (by omega) (by kernel_rfl))) ?_
     refine sxq_nil ?_
     refine treeI_rd rfl ?_
     refine sxq_val 44 (.pointer (some (adr A0_2 ((l0_2.length : Int) - 1) 1))) (by rfl) (fun W hp => (ix_run (d := (Kd.int .i64)) (hC0_2 _ hp.tail.tail.tail.tail) (t := 23) (by rfl) (by rfl) (by rfl) Tryz.underlying23 (by kernel_rfl) (by omega) (by omega))) ?_
     refine sxq_nil ?_
     refine treeI_rd rfl ?_
     refine sxq_val 45 (.int .i64 (rd l0_2 ((l0_2.length : Int) - 1))) (by rfl) (fun W hp => (ld1 (t := 3) (p := (.tmp 44)) (by rfl) (by rfl) (by kernel_rfl) (el_cell (d := (Kd.int .i64)) (hC0_2 _ hp.tail.tail.tail.tail) 0 ((l0_2.length : Int) - 1) (by omega) (by omega) (cells := [.int .i64 (rd l0_2 ((l0_2.length : Int) - 1))]) (fun cs h => h) 0 _ (by rfl)))) ?_
     refine sxq_nil ?_
     refine treeI_rd rfl ?_
     refine sxq_val 7 (.int .i64 (rd l0_2 0)) (by rfl) (fun W hp => (by kernel_rfl)) ?_
     refine sxq_nil ?_
     refine treeI_rd rfl ?_
     refine sxq_val 8 (.int .i64 (rd l0_2 ((l0_2.length : Int) - 1))) (by rfl) (fun W hp => (by kernel_rfl)) ?_
     refine sxq_nil ?_
     refine treeI_fin ?_
     refine sx_nil ?_
     refine ex_then_n ?_
     refine wp_seq ?_
     refine wp_seq ?_
     rcases Bool.eq_false_or_eq_true ((rd_Tile (sortT lh) (i : Int)).f0 == (rd l0_2 0)) with c_29 | c_29
     ·
      have c_29p := eq_of_beq_ c_29
      refine sx_region ?_
      refine sx_rd 46 (.pointer (some ⟨g_16, 0, none⟩)) (by rfl) (by kernel_rfl) ?_
      refine sx_rd 47 (.int .i64 ((rd_Tile (sortT lh) (i : Int)).f0)) (by rfl) (ld1 (t := 3) (p := (.tmp 46)) (by rfl) (by rfl) (by kernel_rfl) (hp.cell 0 (by rfl) 0 _ (by rfl))) ?_
      refine sx_rd 48 (.int .i64 (rd l0_2 0)) (by rfl) (by kernel_rfl) ?_
      refine sx_rd 49 (.bool true) (by rfl) (bv c_29 (by kernel_rfl)) ?_
      refine sx_rd 50 (.bool true) (by rfl) (by kernel_rfl) ?_
      refine sx_skip 51 (by rfl) (by rfl) (by rfl) ?_
      refine sx_skip 52 (by rfl) (by rfl) (by rfl) ?_
      refine sx_skip 53 (by rfl) (by rfl) (by rfl) ?_
      refine sx_skip 54 (by rfl) (by rfl) (by rfl) ?_
      refine sx_rd 55 (.bool true) (by rfl) (by kernel_rfl) ?_
      refine sx_nil ?_
      refine ex_then_n ?_
      refine sx_then true (by rfl) rfl ?_
      refine sx_region ?_
      refine sx_rd 56 (.slice Ai4 ((fitTo l0_2 (sortT lh) i).length) ci4) (by rfl) (by kernel_rfl) ?_
      refine sx_rd 57 (.agg #[.int .i64 ((rd_Tile (sortT lh) (i : Int)).f0), .int .i64 ((rd_Tile (sortT lh) (i : Int)).f1)]) (by rfl) (ldn (t := 53) (p := (.tmp 6)) (by rfl) (by rfl) (by kernel_rfl) (by kernel_rfl) (by kernel_rfl) (hp.at_ 0 _ (by rfl))) ?_
      refine sx_rd 58 (.agg #[.int .i64 ((rd_Tile (sortT lh) (i : Int)).f0), .int .i64 ((rd_Tile (sortT lh) (i : Int)).f1), .bool true, .bool false]) (by rfl) (by kernel_rfl) ?_
      refine sx_lit 59 (by rfl) k55 w.heap.size 55 ([(⟨(rd_Tile (sortT lh) (i : Int)), true, false⟩ : S_plLay)]) [.int .i64 ((rd_Tile (sortT lh) (i : Int)).f0), .int .i64 ((rd_Tile (sortT lh) (i : Int)).f1), .bool true, .bool false] (fun W => by kernel_rfl) (lay_reps _ _ _) (by simp) hp.size hp ?_
      intro g_30 F_31 W_32 hp hz; clear hz
      refine sx_append 60 (by rfl) k55 2 (by rfl) (.agg #[.int .i64 0, .int .i64 0, .bool false, .bool false]) 24 (by rfl) Tryz.underlying50 (by kernel_rfl) rfl (by decide) (by decide) ([(⟨(rd_Tile (sortT lh) (i : Int)), true, false⟩ : S_plLay)]) (by rfl) (by rfl) (row_C (hp.at_ 0 _ (by rfl))) lay_kp hp.size (by first | omega | (simp; omega)) hp ?_
      intro A_33 c_34 F_35 W_36 hp hz; clear hz; simp only [List.set_cons_succ, List.set_cons_zero] at hp
      refine sx_rd 4 (.slice A_33 (((fitTo l0_2 (sortT lh) i) ++ [(⟨(rd_Tile (sortT lh) (i : Int)), true, false⟩ : S_plLay)]).length) c_34) (by rfl) (by kernel_rfl) ?_
      refine sx_nil ?_
      refine ex_then_n ?_
      refine wp_seq ?_
      rcases Bool.eq_false_or_eq_true ((rd_Tile (sortT lh) (i : Int)).f0 == (rd l0_2 ((l0_2.length : Int) - 1))) with c_37 | c_37
      ·
       have c_37p := eq_of_beq_ c_37
       refine sx_region ?_
       refine sx_rd 61 (.pointer (some ⟨g_16, 0, none⟩)) (by rfl) (by kernel_rfl) ?_
       refine sx_rd 62 (.int .i64 ((rd_Tile (sortT lh) (i : Int)).f0)) (by rfl) (ld1 (t := 3) (p := (.tmp 61)) (by rfl) (by rfl) (by kernel_rfl) (hp.cell 1 (by rfl) 0 _ (by rfl))) ?_
       refine sx_rd 63 (.int .i64 (rd l0_2 ((l0_2.length : Int) - 1))) (by rfl) (by kernel_rfl) ?_
       refine sx_rd 64 (.bool true) (by rfl) (bv c_37 (by kernel_rfl)) ?_
       refine sx_rd 65 (.bool true) (by rfl) (by kernel_rfl) ?_
       refine sx_skip 66 (by rfl) (by rfl) (by rfl) ?_
       refine sx_skip 67 (by rfl) (by rfl) (by rfl) ?_
       refine sx_skip 68 (by rfl) (by rfl) (by rfl) ?_
       refine sx_skip 69 (by rfl) (by rfl) (by rfl) ?_
       refine sx_rd 70 (.bool true) (by rfl) (by kernel_rfl) ?_
       refine sx_nil ?_
       refine ex_then_n ?_
       refine sx_then true (by rfl) rfl ?_
       refine sx_region ?_
       refine sx_rd 71 (.slice A_33 (((fitTo l0_2 (sortT lh) i) ++ [(⟨(rd_Tile (sortT lh) (i : Int)), true, false⟩ : S_plLay)]).length) c_34) (by rfl) (by kernel_rfl) ?_
       refine sx_rd 72 (.agg #[.int .i64 ((rd_Tile (sortT lh) (i : Int)).f0), .int .i64 ((rd_Tile (sortT lh) (i : Int)).f1)]) (by rfl) (ldn (t := 53) (p := (.tmp 6)) (by rfl) (by rfl) (by kernel_rfl) (by kernel_rfl) (by kernel_rfl) (hp.at_ 1 _ (by rfl))) ?_
       refine sx_rd 73 (.agg #[.int .i64 ((rd_Tile (sortT lh) (i : Int)).f0), .int .i64 ((rd_Tile (sortT lh) (i : Int)).f1), .bool false, .bool false]) (by rfl) (by kernel_rfl) ?_
       refine sx_lit 74 (by rfl) k55 w.heap.size 55 ([(⟨(rd_Tile (sortT lh) (i : Int)), false, false⟩ : S_plLay)]) [.int .i64 ((rd_Tile (sortT lh) (i : Int)).f0), .int .i64 ((rd_Tile (sortT lh) (i : Int)).f1), .bool false, .bool false] (fun W => by kernel_rfl) (lay_reps _ _ _) (by simp) hp.size hp ?_
       intro g_38 F_39 W_40 hp hz; clear hz
       refine sx_append 75 (by rfl) k55 3 (by rfl) (.agg #[.int .i64 0, .int .i64 0, .bool false, .bool false]) 24 (by rfl) Tryz.underlying50 (by kernel_rfl) rfl (by decide) (by decide) ([(⟨(rd_Tile (sortT lh) (i : Int)), false, false⟩ : S_plLay)]) (by rfl) (by rfl) (row_C (hp.at_ 0 _ (by rfl))) lay_kp hp.size (by first | omega | (simp; omega)) hp ?_
       intro A_41 c_42 F_43 W_44 hp hz; clear hz; simp only [List.set_cons_succ, List.set_cons_zero] at hp
       refine sx_rd 4 (.slice A_41 ((((fitTo l0_2 (sortT lh) i) ++ [(⟨(rd_Tile (sortT lh) (i : Int)), true, false⟩ : S_plLay)]) ++ [(⟨(rd_Tile (sortT lh) (i : Int)), false, false⟩ : S_plLay)]).length) c_42) (by rfl) (by kernel_rfl) ?_
       refine sx_nil ?_
       refine ex_blk_n ?_
       refine ex_then_n ?_
       refine sx_region ?_
       refine sx_rd 76 (.int .i64 ((i : Int) + 1)) (by rfl) (wr_ok (by omega) (by kernel_rfl)) ?_
       refine sx_rd 21 (.int .i64 ((i : Int) + 1)) (by rfl) (by kernel_rfl) ?_
       refine sx_nil ?_
       refine ex_then_n ?_
       have hft : fitTo l0_2 (sortT lh) (i + 1) = fitTo l0_2 (sortT lh) i ++ fitL l0_2 (rd_Tile (sortT lh) (i : Int)) := fitTo_next l0_2 (sortT lh) i (by omega)
       have hq_45 : (((fitTo l0_2 (sortT lh) i) ++ [(⟨(rd_Tile (sortT lh) (i : Int)), true, false⟩ : S_plLay)]) ++ [(⟨(rd_Tile (sortT lh) (i : Int)), false, false⟩ : S_plLay)]) = (fitTo l0_2 (sortT lh) (i + 1)) := by rw [hft, fitL_of (a := true) (b := true) (by omega) (by unfold hasT endA; rw [c_29]; rfl) (by unfold hasT endB; rw [c_37]; rfl)]; simp
       rw [hq_45] at hp
       exact ⟨_, (by omega), _, (i + 1), _, _, _, _, rfl, fr_front [(1, .pointer (some ⟨g_1, 0, none⟩)), (4, .slice A_41 ((fitTo l0_2 (sortT lh) (i + 1)).length) c_42), (19, .slice A_10 ((sortT lh).length) c_11), (20, .int .i64 ((sortT lh).length : Int)), (21, .int .i64 ((i + 1 : Nat) : Int))] ⟨rfl, congrArg (fun z : List S_plLay => Value.slice A_41 z.length c_42) hq_45, rfl, rfl, rfl, trivial⟩, (hp.take [3, 4, 5] 6 (by decide) (by simp)), (by omega)⟩
      ·
       have c_37p := ne_of_beq_ c_37
       refine sx_region ?_
       refine sx_rd 61 (.pointer (some ⟨g_16, 0, none⟩)) (by rfl) (by kernel_rfl) ?_
       refine sx_rd 62 (.int .i64 ((rd_Tile (sortT lh) (i : Int)).f0)) (by rfl) (ld1 (t := 3) (p := (.tmp 61)) (by rfl) (by rfl) (by kernel_rfl) (hp.cell 1 (by rfl) 0 _ (by rfl))) ?_
       refine sx_rd 63 (.int .i64 (rd l0_2 ((l0_2.length : Int) - 1))) (by rfl) (by kernel_rfl) ?_
       refine sx_rd 64 (.bool false) (by rfl) (bv c_37 (by kernel_rfl)) ?_
       refine sx_rd 65 (.bool false) (by rfl) (by kernel_rfl) ?_
       refine sx_want (by rfl) ?_
       refine sx_rd 66 (.pointer (some ⟨g_16, 1, none⟩)) (by rfl) (by kernel_rfl) ?_
       refine sx_want (by rfl) ?_
       refine sx_rd 67 (.int .i64 ((rd_Tile (sortT lh) (i : Int)).f1)) (by rfl) (ld1 (t := 3) (p := (.tmp 66)) (by rfl) (by rfl) (by kernel_rfl) (hp.cell 1 (by rfl) 1 _ (by rfl))) ?_
       refine sx_want (by rfl) ?_
       refine sx_rd 68 (.int .i64 (rd l0_2 ((l0_2.length : Int) - 1))) (by rfl) (by kernel_rfl) ?_
       refine sx_want (by rfl) ?_
       refine sx_rd 69 (.bool ((rd_Tile (sortT lh) (i : Int)).f1 == (rd l0_2 ((l0_2.length : Int) - 1)))) (by rfl) (by kernel_rfl) ?_
       refine sx_rd 70 (.bool ((rd_Tile (sortT lh) (i : Int)).f1 == (rd l0_2 ((l0_2.length : Int) - 1)))) (by rfl) (by kernel_rfl) ?_
       refine sx_nil ?_
       refine ex_then_n ?_
       refine sx_cond ((rd_Tile (sortT lh) (i : Int)).f1 == (rd l0_2 ((l0_2.length : Int) - 1))) (by rfl) (fun c_46 => ?_) (fun c_46 => ?_)
       ·
        have c_46p := eq_of_beq_ c_46
        refine sx_region ?_
        refine sx_rd 71 (.slice A_33 (((fitTo l0_2 (sortT lh) i) ++ [(⟨(rd_Tile (sortT lh) (i : Int)), true, false⟩ : S_plLay)]).length) c_34) (by rfl) (by kernel_rfl) ?_
        refine sx_rd 72 (.agg #[.int .i64 ((rd_Tile (sortT lh) (i : Int)).f0), .int .i64 ((rd_Tile (sortT lh) (i : Int)).f1)]) (by rfl) (ldn (t := 53) (p := (.tmp 6)) (by rfl) (by rfl) (by kernel_rfl) (by kernel_rfl) (by kernel_rfl) (hp.at_ 1 _ (by rfl))) ?_
        refine sx_rd 73 (.agg #[.int .i64 ((rd_Tile (sortT lh) (i : Int)).f0), .int .i64 ((rd_Tile (sortT lh) (i : Int)).f1), .bool false, .bool false]) (by rfl) (by kernel_rfl) ?_
        refine sx_lit 74 (by rfl) k55 w.heap.size 55 ([(⟨(rd_Tile (sortT lh) (i : Int)), false, false⟩ : S_plLay)]) [.int .i64 ((rd_Tile (sortT lh) (i : Int)).f0), .int .i64 ((rd_Tile (sortT lh) (i : Int)).f1), .bool false, .bool false] (fun W => by kernel_rfl) (lay_reps _ _ _) (by simp) hp.size hp ?_
        intro g_47 F_48 W_49 hp hz; clear hz
        refine sx_append 75 (by rfl) k55 3 (by rfl) (.agg #[.int .i64 0, .int .i64 0, .bool false, .bool false]) 24 (by rfl) Tryz.underlying50 (by kernel_rfl) rfl (by decide) (by decide) ([(⟨(rd_Tile (sortT lh) (i : Int)), false, false⟩ : S_plLay)]) (by rfl) (by rfl) (row_C (hp.at_ 0 _ (by rfl))) lay_kp hp.size (by first | omega | (simp; omega)) hp ?_
        intro A_50 c_51 F_52 W_53 hp hz; clear hz; simp only [List.set_cons_succ, List.set_cons_zero] at hp
        refine sx_rd 4 (.slice A_50 ((((fitTo l0_2 (sortT lh) i) ++ [(⟨(rd_Tile (sortT lh) (i : Int)), true, false⟩ : S_plLay)]) ++ [(⟨(rd_Tile (sortT lh) (i : Int)), false, false⟩ : S_plLay)]).length) c_51) (by rfl) (by kernel_rfl) ?_
        refine sx_nil ?_
        refine ex_blk_n ?_
        refine ex_then_n ?_
        refine sx_region ?_
        refine sx_rd 76 (.int .i64 ((i : Int) + 1)) (by rfl) (wr_ok (by omega) (by kernel_rfl)) ?_
        refine sx_rd 21 (.int .i64 ((i : Int) + 1)) (by rfl) (by kernel_rfl) ?_
        refine sx_nil ?_
        refine ex_then_n ?_
        have hft : fitTo l0_2 (sortT lh) (i + 1) = fitTo l0_2 (sortT lh) i ++ fitL l0_2 (rd_Tile (sortT lh) (i : Int)) := fitTo_next l0_2 (sortT lh) i (by omega)
        have hq_54 : (((fitTo l0_2 (sortT lh) i) ++ [(⟨(rd_Tile (sortT lh) (i : Int)), true, false⟩ : S_plLay)]) ++ [(⟨(rd_Tile (sortT lh) (i : Int)), false, false⟩ : S_plLay)]) = (fitTo l0_2 (sortT lh) (i + 1)) := by rw [hft, fitL_of (a := true) (b := true) (by omega) (by unfold hasT endA; rw [c_29]; rfl) (by unfold hasT endB; rw [c_37, c_46]; rfl)]; simp
        rw [hq_54] at hp
        exact ⟨_, (by omega), _, (i + 1), _, _, _, _, rfl, fr_front [(1, .pointer (some ⟨g_1, 0, none⟩)), (4, .slice A_50 ((fitTo l0_2 (sortT lh) (i + 1)).length) c_51), (19, .slice A_10 ((sortT lh).length) c_11), (20, .int .i64 ((sortT lh).length : Int)), (21, .int .i64 ((i + 1 : Nat) : Int))] ⟨rfl, congrArg (fun z : List S_plLay => Value.slice A_50 z.length c_51) hq_54, rfl, rfl, rfl, trivial⟩, (hp.take [3, 4, 5] 6 (by decide) (by simp)), (by omega)⟩
       ·
        have c_46p := ne_of_beq_ c_46
        refine wp_skip ?_
        refine ex_blk_n ?_
        refine ex_then_n ?_
        refine sx_region ?_
        refine sx_rd 76 (.int .i64 ((i : Int) + 1)) (by rfl) (wr_ok (by omega) (by kernel_rfl)) ?_
        refine sx_rd 21 (.int .i64 ((i : Int) + 1)) (by rfl) (by kernel_rfl) ?_
        refine sx_nil ?_
        refine ex_then_n ?_
        have hft : fitTo l0_2 (sortT lh) (i + 1) = fitTo l0_2 (sortT lh) i ++ fitL l0_2 (rd_Tile (sortT lh) (i : Int)) := fitTo_next l0_2 (sortT lh) i (by omega)
        have hq_55 : ((fitTo l0_2 (sortT lh) i) ++ [(⟨(rd_Tile (sortT lh) (i : Int)), true, false⟩ : S_plLay)]) = (fitTo l0_2 (sortT lh) (i + 1)) := by rw [hft, fitL_of (a := true) (b := false) (by omega) (by unfold hasT endA; rw [c_29]; rfl) (by unfold hasT endB; rw [c_37, c_46]; rfl)]; simp
        rw [hq_55] at hp
        exact ⟨_, (by omega), _, (i + 1), _, _, _, _, rfl, fr_front [(1, .pointer (some ⟨g_1, 0, none⟩)), (4, .slice A_33 ((fitTo l0_2 (sortT lh) (i + 1)).length) c_34), (19, .slice A_10 ((sortT lh).length) c_11), (20, .int .i64 ((sortT lh).length : Int)), (21, .int .i64 ((i + 1 : Nat) : Int))] ⟨rfl, congrArg (fun z : List S_plLay => Value.slice A_33 z.length c_34) hq_55, rfl, rfl, rfl, trivial⟩, (hp.take [2, 3, 4] 5 (by decide) (by simp)), (by omega)⟩
     ·
      have c_29p := ne_of_beq_ c_29
      refine sx_region ?_
      refine sx_rd 46 (.pointer (some ⟨g_16, 0, none⟩)) (by rfl) (by kernel_rfl) ?_
      refine sx_rd 47 (.int .i64 ((rd_Tile (sortT lh) (i : Int)).f0)) (by rfl) (ld1 (t := 3) (p := (.tmp 46)) (by rfl) (by rfl) (by kernel_rfl) (hp.cell 0 (by rfl) 0 _ (by rfl))) ?_
      refine sx_rd 48 (.int .i64 (rd l0_2 0)) (by rfl) (by kernel_rfl) ?_
      refine sx_rd 49 (.bool false) (by rfl) (bv c_29 (by kernel_rfl)) ?_
      refine sx_rd 50 (.bool false) (by rfl) (by kernel_rfl) ?_
      refine sx_want (by rfl) ?_
      refine sx_rd 51 (.pointer (some ⟨g_16, 1, none⟩)) (by rfl) (by kernel_rfl) ?_
      refine sx_want (by rfl) ?_
      refine sx_rd 52 (.int .i64 ((rd_Tile (sortT lh) (i : Int)).f1)) (by rfl) (ld1 (t := 3) (p := (.tmp 51)) (by rfl) (by rfl) (by kernel_rfl) (hp.cell 0 (by rfl) 1 _ (by rfl))) ?_
      refine sx_want (by rfl) ?_
      refine sx_rd 53 (.int .i64 (rd l0_2 0)) (by rfl) (by kernel_rfl) ?_
      refine sx_want (by rfl) ?_
      refine sx_rd 54 (.bool ((rd_Tile (sortT lh) (i : Int)).f1 == (rd l0_2 0))) (by rfl) (by kernel_rfl) ?_
      refine sx_rd 55 (.bool ((rd_Tile (sortT lh) (i : Int)).f1 == (rd l0_2 0))) (by rfl) (by kernel_rfl) ?_
      refine sx_nil ?_
      refine ex_then_n ?_
      refine sx_cond ((rd_Tile (sortT lh) (i : Int)).f1 == (rd l0_2 0)) (by rfl) (fun c_56 => ?_) (fun c_56 => ?_)
      ·
       have c_56p := eq_of_beq_ c_56
       refine sx_region ?_
       refine sx_rd 56 (.slice Ai4 ((fitTo l0_2 (sortT lh) i).length) ci4) (by rfl) (by kernel_rfl) ?_
       refine sx_rd 57 (.agg #[.int .i64 ((rd_Tile (sortT lh) (i : Int)).f0), .int .i64 ((rd_Tile (sortT lh) (i : Int)).f1)]) (by rfl) (ldn (t := 53) (p := (.tmp 6)) (by rfl) (by rfl) (by kernel_rfl) (by kernel_rfl) (by kernel_rfl) (hp.at_ 0 _ (by rfl))) ?_
       refine sx_rd 58 (.agg #[.int .i64 ((rd_Tile (sortT lh) (i : Int)).f0), .int .i64 ((rd_Tile (sortT lh) (i : Int)).f1), .bool true, .bool false]) (by rfl) (by kernel_rfl) ?_
       refine sx_lit 59 (by rfl) k55 w.heap.size 55 ([(⟨(rd_Tile (sortT lh) (i : Int)), true, false⟩ : S_plLay)]) [.int .i64 ((rd_Tile (sortT lh) (i : Int)).f0), .int .i64 ((rd_Tile (sortT lh) (i : Int)).f1), .bool true, .bool false] (fun W => by kernel_rfl) (lay_reps _ _ _) (by simp) hp.size hp ?_
       intro g_57 F_58 W_59 hp hz; clear hz
       refine sx_append 60 (by rfl) k55 2 (by rfl) (.agg #[.int .i64 0, .int .i64 0, .bool false, .bool false]) 24 (by rfl) Tryz.underlying50 (by kernel_rfl) rfl (by decide) (by decide) ([(⟨(rd_Tile (sortT lh) (i : Int)), true, false⟩ : S_plLay)]) (by rfl) (by rfl) (row_C (hp.at_ 0 _ (by rfl))) lay_kp hp.size (by first | omega | (simp; omega)) hp ?_
       intro A_60 c_61 F_62 W_63 hp hz; clear hz; simp only [List.set_cons_succ, List.set_cons_zero] at hp
       refine sx_rd 4 (.slice A_60 (((fitTo l0_2 (sortT lh) i) ++ [(⟨(rd_Tile (sortT lh) (i : Int)), true, false⟩ : S_plLay)]).length) c_61) (by rfl) (by kernel_rfl) ?_
       refine sx_nil ?_
       refine ex_then_n ?_
       refine wp_seq ?_
       rcases Bool.eq_false_or_eq_true ((rd_Tile (sortT lh) (i : Int)).f0 == (rd l0_2 ((l0_2.length : Int) - 1))) with c_64 | c_64
       ·
        have c_64p := eq_of_beq_ c_64
        refine sx_region ?_
        refine sx_rd 61 (.pointer (some ⟨g_16, 0, none⟩)) (by rfl) (by kernel_rfl) ?_
        refine sx_rd 62 (.int .i64 ((rd_Tile (sortT lh) (i : Int)).f0)) (by rfl) (ld1 (t := 3) (p := (.tmp 61)) (by rfl) (by rfl) (by kernel_rfl) (hp.cell 1 (by rfl) 0 _ (by rfl))) ?_
        refine sx_rd 63 (.int .i64 (rd l0_2 ((l0_2.length : Int) - 1))) (by rfl) (by kernel_rfl) ?_
        refine sx_rd 64 (.bool true) (by rfl) (bv c_64 (by kernel_rfl)) ?_
        refine sx_rd 65 (.bool true) (by rfl) (by kernel_rfl) ?_
        refine sx_skip 66 (by rfl) (by rfl) (by rfl) ?_
        refine sx_skip 67 (by rfl) (by rfl) (by rfl) ?_
        refine sx_skip 68 (by rfl) (by rfl) (by rfl) ?_
        refine sx_skip 69 (by rfl) (by rfl) (by rfl) ?_
        refine sx_rd 70 (.bool true) (by rfl) (by kernel_rfl) ?_
        refine sx_nil ?_
        refine ex_then_n ?_
        refine sx_then true (by rfl) rfl ?_
        refine sx_region ?_
        refine sx_rd 71 (.slice A_60 (((fitTo l0_2 (sortT lh) i) ++ [(⟨(rd_Tile (sortT lh) (i : Int)), true, false⟩ : S_plLay)]).length) c_61) (by rfl) (by kernel_rfl) ?_
        refine sx_rd 72 (.agg #[.int .i64 ((rd_Tile (sortT lh) (i : Int)).f0), .int .i64 ((rd_Tile (sortT lh) (i : Int)).f1)]) (by rfl) (ldn (t := 53) (p := (.tmp 6)) (by rfl) (by rfl) (by kernel_rfl) (by kernel_rfl) (by kernel_rfl) (hp.at_ 1 _ (by rfl))) ?_
        refine sx_rd 73 (.agg #[.int .i64 ((rd_Tile (sortT lh) (i : Int)).f0), .int .i64 ((rd_Tile (sortT lh) (i : Int)).f1), .bool false, .bool false]) (by rfl) (by kernel_rfl) ?_
        refine sx_lit 74 (by rfl) k55 w.heap.size 55 ([(⟨(rd_Tile (sortT lh) (i : Int)), false, false⟩ : S_plLay)]) [.int .i64 ((rd_Tile (sortT lh) (i : Int)).f0), .int .i64 ((rd_Tile (sortT lh) (i : Int)).f1), .bool false, .bool false] (fun W => by kernel_rfl) (lay_reps _ _ _) (by simp) hp.size hp ?_
        intro g_65 F_66 W_67 hp hz; clear hz
        refine sx_append 75 (by rfl) k55 3 (by rfl) (.agg #[.int .i64 0, .int .i64 0, .bool false, .bool false]) 24 (by rfl) Tryz.underlying50 (by kernel_rfl) rfl (by decide) (by decide) ([(⟨(rd_Tile (sortT lh) (i : Int)), false, false⟩ : S_plLay)]) (by rfl) (by rfl) (row_C (hp.at_ 0 _ (by rfl))) lay_kp hp.size (by first | omega | (simp; omega)) hp ?_
        intro A_68 c_69 F_70 W_71 hp hz; clear hz; simp only [List.set_cons_succ, List.set_cons_zero] at hp
        refine sx_rd 4 (.slice A_68 ((((fitTo l0_2 (sortT lh) i) ++ [(⟨(rd_Tile (sortT lh) (i : Int)), true, false⟩ : S_plLay)]) ++ [(⟨(rd_Tile (sortT lh) (i : Int)), false, false⟩ : S_plLay)]).length) c_69) (by rfl) (by kernel_rfl) ?_
        refine sx_nil ?_
        refine ex_blk_n ?_
        refine ex_then_n ?_
        refine sx_region ?_
        refine sx_rd 76 (.int .i64 ((i : Int) + 1)) (by rfl) (wr_ok (by omega) (by kernel_rfl)) ?_
        refine sx_rd 21 (.int .i64 ((i : Int) + 1)) (by rfl) (by kernel_rfl) ?_
        refine sx_nil ?_
        refine ex_then_n ?_
        have hft : fitTo l0_2 (sortT lh) (i + 1) = fitTo l0_2 (sortT lh) i ++ fitL l0_2 (rd_Tile (sortT lh) (i : Int)) := fitTo_next l0_2 (sortT lh) i (by omega)
        have hq_72 : (((fitTo l0_2 (sortT lh) i) ++ [(⟨(rd_Tile (sortT lh) (i : Int)), true, false⟩ : S_plLay)]) ++ [(⟨(rd_Tile (sortT lh) (i : Int)), false, false⟩ : S_plLay)]) = (fitTo l0_2 (sortT lh) (i + 1)) := by rw [hft, fitL_of (a := true) (b := true) (by omega) (by unfold hasT endA; rw [c_29, c_56]; rfl) (by unfold hasT endB; rw [c_64]; rfl)]; simp
        rw [hq_72] at hp
        exact ⟨_, (by omega), _, (i + 1), _, _, _, _, rfl, fr_front [(1, .pointer (some ⟨g_1, 0, none⟩)), (4, .slice A_68 ((fitTo l0_2 (sortT lh) (i + 1)).length) c_69), (19, .slice A_10 ((sortT lh).length) c_11), (20, .int .i64 ((sortT lh).length : Int)), (21, .int .i64 ((i + 1 : Nat) : Int))] ⟨rfl, congrArg (fun z : List S_plLay => Value.slice A_68 z.length c_69) hq_72, rfl, rfl, rfl, trivial⟩, (hp.take [3, 4, 5] 6 (by decide) (by simp)), (by omega)⟩
       ·
        have c_64p := ne_of_beq_ c_64
        refine sx_region ?_
        refine sx_rd 61 (.pointer (some ⟨g_16, 0, none⟩)) (by rfl) (by kernel_rfl) ?_
        refine sx_rd 62 (.int .i64 ((rd_Tile (sortT lh) (i : Int)).f0)) (by rfl) (ld1 (t := 3) (p := (.tmp 61)) (by rfl) (by rfl) (by kernel_rfl) (hp.cell 1 (by rfl) 0 _ (by rfl))) ?_
        refine sx_rd 63 (.int .i64 (rd l0_2 ((l0_2.length : Int) - 1))) (by rfl) (by kernel_rfl) ?_
        refine sx_rd 64 (.bool false) (by rfl) (bv c_64 (by kernel_rfl)) ?_
        refine sx_rd 65 (.bool false) (by rfl) (by kernel_rfl) ?_
        refine sx_want (by rfl) ?_
        refine sx_rd 66 (.pointer (some ⟨g_16, 1, none⟩)) (by rfl) (by kernel_rfl) ?_
        refine sx_want (by rfl) ?_
        refine sx_rd 67 (.int .i64 ((rd_Tile (sortT lh) (i : Int)).f1)) (by rfl) (ld1 (t := 3) (p := (.tmp 66)) (by rfl) (by rfl) (by kernel_rfl) (hp.cell 1 (by rfl) 1 _ (by rfl))) ?_
        refine sx_want (by rfl) ?_
        refine sx_rd 68 (.int .i64 (rd l0_2 ((l0_2.length : Int) - 1))) (by rfl) (by kernel_rfl) ?_
        refine sx_want (by rfl) ?_
        refine sx_rd 69 (.bool ((rd_Tile (sortT lh) (i : Int)).f1 == (rd l0_2 ((l0_2.length : Int) - 1)))) (by rfl) (by kernel_rfl) ?_
        refine sx_rd 70 (.bool ((rd_Tile (sortT lh) (i : Int)).f1 == (rd l0_2 ((l0_2.length : Int) - 1)))) (by rfl) (by kernel_rfl) ?_
        refine sx_nil ?_
        refine ex_then_n ?_
        refine sx_cond ((rd_Tile (sortT lh) (i : Int)).f1 == (rd l0_2 ((l0_2.length : Int) - 1))) (by rfl) (fun c_73 => ?_) (fun c_73 => ?_)
        ·
         have c_73p := eq_of_beq_ c_73
         refine sx_region ?_
         refine sx_rd 71 (.slice A_60 (((fitTo l0_2 (sortT lh) i) ++ [(⟨(rd_Tile (sortT lh) (i : Int)), true, false⟩ : S_plLay)]).length) c_61) (by rfl) (by kernel_rfl) ?_
         refine sx_rd 72 (.agg #[.int .i64 ((rd_Tile (sortT lh) (i : Int)).f0), .int .i64 ((rd_Tile (sortT lh) (i : Int)).f1)]) (by rfl) (ldn (t := 53) (p := (.tmp 6)) (by rfl) (by rfl) (by kernel_rfl) (by kernel_rfl) (by kernel_rfl) (hp.at_ 1 _ (by rfl))) ?_
         refine sx_rd 73 (.agg #[.int .i64 ((rd_Tile (sortT lh) (i : Int)).f0), .int .i64 ((rd_Tile (sortT lh) (i : Int)).f1), .bool false, .bool false]) (by rfl) (by kernel_rfl) ?_
         refine sx_lit 74 (by rfl) k55 w.heap.size 55 ([(⟨(rd_Tile (sortT lh) (i : Int)), false, false⟩ : S_plLay)]) [.int .i64 ((rd_Tile (sortT lh) (i : Int)).f0), .int .i64 ((rd_Tile (sortT lh) (i : Int)).f1), .bool false, .bool false] (fun W => by kernel_rfl) (lay_reps _ _ _) (by simp) hp.size hp ?_
         intro g_74 F_75 W_76 hp hz; clear hz
         refine sx_append 75 (by rfl) k55 3 (by rfl) (.agg #[.int .i64 0, .int .i64 0, .bool false, .bool false]) 24 (by rfl) Tryz.underlying50 (by kernel_rfl) rfl (by decide) (by decide) ([(⟨(rd_Tile (sortT lh) (i : Int)), false, false⟩ : S_plLay)]) (by rfl) (by rfl) (row_C (hp.at_ 0 _ (by rfl))) lay_kp hp.size (by first | omega | (simp; omega)) hp ?_
         intro A_77 c_78 F_79 W_80 hp hz; clear hz; simp only [List.set_cons_succ, List.set_cons_zero] at hp
         refine sx_rd 4 (.slice A_77 ((((fitTo l0_2 (sortT lh) i) ++ [(⟨(rd_Tile (sortT lh) (i : Int)), true, false⟩ : S_plLay)]) ++ [(⟨(rd_Tile (sortT lh) (i : Int)), false, false⟩ : S_plLay)]).length) c_78) (by rfl) (by kernel_rfl) ?_
         refine sx_nil ?_
         refine ex_blk_n ?_
         refine ex_then_n ?_
         refine sx_region ?_
         refine sx_rd 76 (.int .i64 ((i : Int) + 1)) (by rfl) (wr_ok (by omega) (by kernel_rfl)) ?_
         refine sx_rd 21 (.int .i64 ((i : Int) + 1)) (by rfl) (by kernel_rfl) ?_
         refine sx_nil ?_
         refine ex_then_n ?_
         have hft : fitTo l0_2 (sortT lh) (i + 1) = fitTo l0_2 (sortT lh) i ++ fitL l0_2 (rd_Tile (sortT lh) (i : Int)) := fitTo_next l0_2 (sortT lh) i (by omega)
         have hq_81 : (((fitTo l0_2 (sortT lh) i) ++ [(⟨(rd_Tile (sortT lh) (i : Int)), true, false⟩ : S_plLay)]) ++ [(⟨(rd_Tile (sortT lh) (i : Int)), false, false⟩ : S_plLay)]) = (fitTo l0_2 (sortT lh) (i + 1)) := by rw [hft, fitL_of (a := true) (b := true) (by omega) (by unfold hasT endA; rw [c_29, c_56]; rfl) (by unfold hasT endB; rw [c_64, c_73]; rfl)]; simp
         rw [hq_81] at hp
         exact ⟨_, (by omega), _, (i + 1), _, _, _, _, rfl, fr_front [(1, .pointer (some ⟨g_1, 0, none⟩)), (4, .slice A_77 ((fitTo l0_2 (sortT lh) (i + 1)).length) c_78), (19, .slice A_10 ((sortT lh).length) c_11), (20, .int .i64 ((sortT lh).length : Int)), (21, .int .i64 ((i + 1 : Nat) : Int))] ⟨rfl, congrArg (fun z : List S_plLay => Value.slice A_77 z.length c_78) hq_81, rfl, rfl, rfl, trivial⟩, (hp.take [3, 4, 5] 6 (by decide) (by simp)), (by omega)⟩
        ·
         have c_73p := ne_of_beq_ c_73
         refine wp_skip ?_
         refine ex_blk_n ?_
         refine ex_then_n ?_
         refine sx_region ?_
         refine sx_rd 76 (.int .i64 ((i : Int) + 1)) (by rfl) (wr_ok (by omega) (by kernel_rfl)) ?_
         refine sx_rd 21 (.int .i64 ((i : Int) + 1)) (by rfl) (by kernel_rfl) ?_
         refine sx_nil ?_
         refine ex_then_n ?_
         have hft : fitTo l0_2 (sortT lh) (i + 1) = fitTo l0_2 (sortT lh) i ++ fitL l0_2 (rd_Tile (sortT lh) (i : Int)) := fitTo_next l0_2 (sortT lh) i (by omega)
         have hq_82 : ((fitTo l0_2 (sortT lh) i) ++ [(⟨(rd_Tile (sortT lh) (i : Int)), true, false⟩ : S_plLay)]) = (fitTo l0_2 (sortT lh) (i + 1)) := by rw [hft, fitL_of (a := true) (b := false) (by omega) (by unfold hasT endA; rw [c_29, c_56]; rfl) (by unfold hasT endB; rw [c_64, c_73]; rfl)]; simp
         rw [hq_82] at hp
         exact ⟨_, (by omega), _, (i + 1), _, _, _, _, rfl, fr_front [(1, .pointer (some ⟨g_1, 0, none⟩)), (4, .slice A_60 ((fitTo l0_2 (sortT lh) (i + 1)).length) c_61), (19, .slice A_10 ((sortT lh).length) c_11), (20, .int .i64 ((sortT lh).length : Int)), (21, .int .i64 ((i + 1 : Nat) : Int))] ⟨rfl, congrArg (fun z : List S_plLay => Value.slice A_60 z.length c_61) hq_82, rfl, rfl, rfl, trivial⟩, (hp.take [2, 3, 4] 5 (by decide) (by simp)), (by omega)⟩
      ·
       have c_56p := ne_of_beq_ c_56
       refine wp_skip ?_
       refine ex_then_n ?_
       refine wp_seq ?_
       rcases Bool.eq_false_or_eq_true ((rd_Tile (sortT lh) (i : Int)).f0 == (rd l0_2 ((l0_2.length : Int) - 1))) with c_83 | c_83
       ·
        have c_83p := eq_of_beq_ c_83
        refine sx_region ?_
        refine sx_rd 61 (.pointer (some ⟨g_16, 0, none⟩)) (by rfl) (by kernel_rfl) ?_
        refine sx_rd 62 (.int .i64 ((rd_Tile (sortT lh) (i : Int)).f0)) (by rfl) (ld1 (t := 3) (p := (.tmp 61)) (by rfl) (by rfl) (by kernel_rfl) (hp.cell 0 (by rfl) 0 _ (by rfl))) ?_
        refine sx_rd 63 (.int .i64 (rd l0_2 ((l0_2.length : Int) - 1))) (by rfl) (by kernel_rfl) ?_
        refine sx_rd 64 (.bool true) (by rfl) (bv c_83 (by kernel_rfl)) ?_
        refine sx_rd 65 (.bool true) (by rfl) (by kernel_rfl) ?_
        refine sx_skip 66 (by rfl) (by rfl) (by rfl) ?_
        refine sx_skip 67 (by rfl) (by rfl) (by rfl) ?_
        refine sx_skip 68 (by rfl) (by rfl) (by rfl) ?_
        refine sx_skip 69 (by rfl) (by rfl) (by rfl) ?_
        refine sx_rd 70 (.bool true) (by rfl) (by kernel_rfl) ?_
        refine sx_nil ?_
        refine ex_then_n ?_
        refine sx_then true (by rfl) rfl ?_
        refine sx_region ?_
        refine sx_rd 71 (.slice Ai4 ((fitTo l0_2 (sortT lh) i).length) ci4) (by rfl) (by kernel_rfl) ?_
        refine sx_rd 72 (.agg #[.int .i64 ((rd_Tile (sortT lh) (i : Int)).f0), .int .i64 ((rd_Tile (sortT lh) (i : Int)).f1)]) (by rfl) (ldn (t := 53) (p := (.tmp 6)) (by rfl) (by rfl) (by kernel_rfl) (by kernel_rfl) (by kernel_rfl) (hp.at_ 0 _ (by rfl))) ?_
        refine sx_rd 73 (.agg #[.int .i64 ((rd_Tile (sortT lh) (i : Int)).f0), .int .i64 ((rd_Tile (sortT lh) (i : Int)).f1), .bool false, .bool false]) (by rfl) (by kernel_rfl) ?_
        refine sx_lit 74 (by rfl) k55 w.heap.size 55 ([(⟨(rd_Tile (sortT lh) (i : Int)), false, false⟩ : S_plLay)]) [.int .i64 ((rd_Tile (sortT lh) (i : Int)).f0), .int .i64 ((rd_Tile (sortT lh) (i : Int)).f1), .bool false, .bool false] (fun W => by kernel_rfl) (lay_reps _ _ _) (by simp) hp.size hp ?_
        intro g_84 F_85 W_86 hp hz; clear hz
        refine sx_append 75 (by rfl) k55 2 (by rfl) (.agg #[.int .i64 0, .int .i64 0, .bool false, .bool false]) 24 (by rfl) Tryz.underlying50 (by kernel_rfl) rfl (by decide) (by decide) ([(⟨(rd_Tile (sortT lh) (i : Int)), false, false⟩ : S_plLay)]) (by rfl) (by rfl) (row_C (hp.at_ 0 _ (by rfl))) lay_kp hp.size (by first | omega | (simp; omega)) hp ?_
        intro A_87 c_88 F_89 W_90 hp hz; clear hz; simp only [List.set_cons_succ, List.set_cons_zero] at hp
        refine sx_rd 4 (.slice A_87 (((fitTo l0_2 (sortT lh) i) ++ [(⟨(rd_Tile (sortT lh) (i : Int)), false, false⟩ : S_plLay)]).length) c_88) (by rfl) (by kernel_rfl) ?_
        refine sx_nil ?_
        refine ex_blk_n ?_
        refine ex_then_n ?_
        refine sx_region ?_
        refine sx_rd 76 (.int .i64 ((i : Int) + 1)) (by rfl) (wr_ok (by omega) (by kernel_rfl)) ?_
        refine sx_rd 21 (.int .i64 ((i : Int) + 1)) (by rfl) (by kernel_rfl) ?_
        refine sx_nil ?_
        refine ex_then_n ?_
        have hft : fitTo l0_2 (sortT lh) (i + 1) = fitTo l0_2 (sortT lh) i ++ fitL l0_2 (rd_Tile (sortT lh) (i : Int)) := fitTo_next l0_2 (sortT lh) i (by omega)
        have hq_91 : ((fitTo l0_2 (sortT lh) i) ++ [(⟨(rd_Tile (sortT lh) (i : Int)), false, false⟩ : S_plLay)]) = (fitTo l0_2 (sortT lh) (i + 1)) := by rw [hft, fitL_of (a := false) (b := true) (by omega) (by unfold hasT endA; rw [c_29, c_56]; rfl) (by unfold hasT endB; rw [c_83]; rfl)]; simp
        rw [hq_91] at hp
        exact ⟨_, (by omega), _, (i + 1), _, _, _, _, rfl, fr_front [(1, .pointer (some ⟨g_1, 0, none⟩)), (4, .slice A_87 ((fitTo l0_2 (sortT lh) (i + 1)).length) c_88), (19, .slice A_10 ((sortT lh).length) c_11), (20, .int .i64 ((sortT lh).length : Int)), (21, .int .i64 ((i + 1 : Nat) : Int))] ⟨rfl, congrArg (fun z : List S_plLay => Value.slice A_87 z.length c_88) hq_91, rfl, rfl, rfl, trivial⟩, (hp.take [2, 3, 4] 5 (by decide) (by simp)), (by omega)⟩
       ·
        have c_83p := ne_of_beq_ c_83
        refine sx_region ?_
        refine sx_rd 61 (.pointer (some ⟨g_16, 0, none⟩)) (by rfl) (by kernel_rfl) ?_
        refine sx_rd 62 (.int .i64 ((rd_Tile (sortT lh) (i : Int)).f0)) (by rfl) (ld1 (t := 3) (p := (.tmp 61)) (by rfl) (by rfl) (by kernel_rfl) (hp.cell 0 (by rfl) 0 _ (by rfl))) ?_
        refine sx_rd 63 (.int .i64 (rd l0_2 ((l0_2.length : Int) - 1))) (by rfl) (by kernel_rfl) ?_
        refine sx_rd 64 (.bool false) (by rfl) (bv c_83 (by kernel_rfl)) ?_
        refine sx_rd 65 (.bool false) (by rfl) (by kernel_rfl) ?_
        refine sx_want (by rfl) ?_
        refine sx_rd 66 (.pointer (some ⟨g_16, 1, none⟩)) (by rfl) (by kernel_rfl) ?_
        refine sx_want (by rfl) ?_
        refine sx_rd 67 (.int .i64 ((rd_Tile (sortT lh) (i : Int)).f1)) (by rfl) (ld1 (t := 3) (p := (.tmp 66)) (by rfl) (by rfl) (by kernel_rfl) (hp.cell 0 (by rfl) 1 _ (by rfl))) ?_
        refine sx_want (by rfl) ?_
        refine sx_rd 68 (.int .i64 (rd l0_2 ((l0_2.length : Int) - 1))) (by rfl) (by kernel_rfl) ?_
        refine sx_want (by rfl) ?_
        refine sx_rd 69 (.bool ((rd_Tile (sortT lh) (i : Int)).f1 == (rd l0_2 ((l0_2.length : Int) - 1)))) (by rfl) (by kernel_rfl) ?_
        refine sx_rd 70 (.bool ((rd_Tile (sortT lh) (i : Int)).f1 == (rd l0_2 ((l0_2.length : Int) - 1)))) (by rfl) (by kernel_rfl) ?_
        refine sx_nil ?_
        refine ex_then_n ?_
        refine sx_cond ((rd_Tile (sortT lh) (i : Int)).f1 == (rd l0_2 ((l0_2.length : Int) - 1))) (by rfl) (fun c_92 => ?_) (fun c_92 => ?_)
        ·
         have c_92p := eq_of_beq_ c_92
         refine sx_region ?_
         refine sx_rd 71 (.slice Ai4 ((fitTo l0_2 (sortT lh) i).length) ci4) (by rfl) (by kernel_rfl) ?_
         refine sx_rd 72 (.agg #[.int .i64 ((rd_Tile (sortT lh) (i : Int)).f0), .int .i64 ((rd_Tile (sortT lh) (i : Int)).f1)]) (by rfl) (ldn (t := 53) (p := (.tmp 6)) (by rfl) (by rfl) (by kernel_rfl) (by kernel_rfl) (by kernel_rfl) (hp.at_ 0 _ (by rfl))) ?_
         refine sx_rd 73 (.agg #[.int .i64 ((rd_Tile (sortT lh) (i : Int)).f0), .int .i64 ((rd_Tile (sortT lh) (i : Int)).f1), .bool false, .bool false]) (by rfl) (by kernel_rfl) ?_
         refine sx_lit 74 (by rfl) k55 w.heap.size 55 ([(⟨(rd_Tile (sortT lh) (i : Int)), false, false⟩ : S_plLay)]) [.int .i64 ((rd_Tile (sortT lh) (i : Int)).f0), .int .i64 ((rd_Tile (sortT lh) (i : Int)).f1), .bool false, .bool false] (fun W => by kernel_rfl) (lay_reps _ _ _) (by simp) hp.size hp ?_
         intro g_93 F_94 W_95 hp hz; clear hz
         refine sx_append 75 (by rfl) k55 2 (by rfl) (.agg #[.int .i64 0, .int .i64 0, .bool false, .bool false]) 24 (by rfl) Tryz.underlying50 (by kernel_rfl) rfl (by decide) (by decide) ([(⟨(rd_Tile (sortT lh) (i : Int)), false, false⟩ : S_plLay)]) (by rfl) (by rfl) (row_C (hp.at_ 0 _ (by rfl))) lay_kp hp.size (by first | omega | (simp; omega)) hp ?_
         intro A_96 c_97 F_98 W_99 hp hz; clear hz; simp only [List.set_cons_succ, List.set_cons_zero] at hp
         refine sx_rd 4 (.slice A_96 (((fitTo l0_2 (sortT lh) i) ++ [(⟨(rd_Tile (sortT lh) (i : Int)), false, false⟩ : S_plLay)]).length) c_97) (by rfl) (by kernel_rfl) ?_
         refine sx_nil ?_
         refine ex_blk_n ?_
         refine ex_then_n ?_
         refine sx_region ?_
         refine sx_rd 76 (.int .i64 ((i : Int) + 1)) (by rfl) (wr_ok (by omega) (by kernel_rfl)) ?_
         refine sx_rd 21 (.int .i64 ((i : Int) + 1)) (by rfl) (by kernel_rfl) ?_
         refine sx_nil ?_
         refine ex_then_n ?_
         have hft : fitTo l0_2 (sortT lh) (i + 1) = fitTo l0_2 (sortT lh) i ++ fitL l0_2 (rd_Tile (sortT lh) (i : Int)) := fitTo_next l0_2 (sortT lh) i (by omega)
         have hq_100 : ((fitTo l0_2 (sortT lh) i) ++ [(⟨(rd_Tile (sortT lh) (i : Int)), false, false⟩ : S_plLay)]) = (fitTo l0_2 (sortT lh) (i + 1)) := by rw [hft, fitL_of (a := false) (b := true) (by omega) (by unfold hasT endA; rw [c_29, c_56]; rfl) (by unfold hasT endB; rw [c_83, c_92]; rfl)]; simp
         rw [hq_100] at hp
         exact ⟨_, (by omega), _, (i + 1), _, _, _, _, rfl, fr_front [(1, .pointer (some ⟨g_1, 0, none⟩)), (4, .slice A_96 ((fitTo l0_2 (sortT lh) (i + 1)).length) c_97), (19, .slice A_10 ((sortT lh).length) c_11), (20, .int .i64 ((sortT lh).length : Int)), (21, .int .i64 ((i + 1 : Nat) : Int))] ⟨rfl, congrArg (fun z : List S_plLay => Value.slice A_96 z.length c_97) hq_100, rfl, rfl, rfl, trivial⟩, (hp.take [2, 3, 4] 5 (by decide) (by simp)), (by omega)⟩
        ·
         have c_92p := ne_of_beq_ c_92
         refine wp_skip ?_
         refine ex_blk_n ?_
         refine ex_then_n ?_
         refine sx_region ?_
         refine sx_rd 76 (.int .i64 ((i : Int) + 1)) (by rfl) (wr_ok (by omega) (by kernel_rfl)) ?_
         refine sx_rd 21 (.int .i64 ((i : Int) + 1)) (by rfl) (by kernel_rfl) ?_
         refine sx_nil ?_
         refine ex_then_n ?_
         have hft : fitTo l0_2 (sortT lh) (i + 1) = fitTo l0_2 (sortT lh) i ++ fitL l0_2 (rd_Tile (sortT lh) (i : Int)) := fitTo_next l0_2 (sortT lh) i (by omega)
         have hq_101 : (fitTo l0_2 (sortT lh) i) = (fitTo l0_2 (sortT lh) (i + 1)) := by rw [hft, fitL_of (a := false) (b := false) (by omega) (by unfold hasT endA; rw [c_29, c_56]; rfl) (by unfold hasT endB; rw [c_83, c_92]; rfl)]; simp
         rw [hq_101] at hp
         exact ⟨_, (by omega), _, (i + 1), _, _, _, _, rfl, fr_front [(1, .pointer (some ⟨g_1, 0, none⟩)), (4, .slice Ai4 ((fitTo l0_2 (sortT lh) (i + 1)).length) ci4), (19, .slice A_10 ((sortT lh).length) c_11), (20, .int .i64 ((sortT lh).length : Int)), (21, .int .i64 ((i + 1 : Nat) : Int))] ⟨rfl, congrArg (fun z : List S_plLay => Value.slice Ai4 z.length ci4) hq_101, rfl, rfl, rfl, trivial⟩, (hp.take [1, 2, 3] 4 (by decide) (by simp)), (by omega)⟩
   ·
    have c_15p := of_decide_eq_false c_15
    refine wp_exit ?_
    refine ex_then_e (ex_then_e (ex_blk_here ?_))
    refine ex_then_n ?_
    refine wp_seq ?_
    refine wp_seq ?_
    refine sx_region ?_
    refine sx_rd 77 (.slice Ai4 ((fitTo l0_2 (sortT lh) i).length) ci4) (by rfl) (by kernel_rfl) ?_
    refine sx_rd 78 (.int .i64 ((fitTo l0_2 (sortT lh) i).length : Int)) (by rfl) (by kernel_rfl) ?_
    refine sx_rd 79 (.bool (((fitTo l0_2 (sortT lh) i).length : Int) == 0)) (by rfl) (by kernel_rfl) ?_
    refine sx_nil ?_
    refine ex_then_n ?_
    refine sx_cond (((fitTo l0_2 (sortT lh) i).length : Int) == 0) (by rfl) (fun c_102 => ?_) (fun c_102 => ?_)
    ·
     have c_102p := eq_of_beq_ c_102
     refine wp_seq ?_
     refine sx_region ?_
     refine sx_rd 80 (.agg #[.int .i64 0, .int .i64 0, .bool false, .bool true]) (by rfl) (by kernel_rfl) ?_
     refine sx_lit 81 (by rfl) k55 w.heap.size 55 ([(⟨⟨0, 0⟩, false, true⟩ : S_plLay)]) [.int .i64 0, .int .i64 0, .bool false, .bool true] (fun W => by kernel_rfl) (lay_reps _ _ _) (by simp) hp.size hp ?_
     intro g_103 F_104 W_105 hp hz; clear hz
     refine sx_rd 2 (.slice (some ⟨g_103, 0, none⟩) ([(⟨⟨0, 0⟩, false, true⟩ : S_plLay)].length) ([(⟨⟨0, 0⟩, false, true⟩ : S_plLay)].length)) (by rfl) (by kernel_rfl) ?_
     refine sx_nil ?_
     refine ex_then_n ?_
     refine wp_ret ?_
     refine ex_then_r ?_
     refine sx_end (.slice (some ⟨g_103, 0, none⟩) ([(⟨⟨0, 0⟩, false, true⟩ : S_plLay)].length) ([(⟨⟨0, 0⟩, false, true⟩ : S_plLay)].length)) (res1 2 (by rfl)) ?_
     obtain rfl : i = (sortT lh).length := by omega
     unfold movesL at h; rw [if_neg (show ¬ (overB l0_0 l0_1 a0_4) = true from by have q := c_4; simpa using q), how] at h
     rw [if_pos (by omega)] at h; obtain rfl := Option.some.inj h
     exact ⟨_, rfl, Kd.R_mono (row_R (hp.at_ 0 _ (by rfl))) (fun _ _ => trivial), hc2 _ (hp.tail.tail.tail.tail)⟩
    ·
     have c_102p := ne_of_beq_ c_102
     refine wp_skip ?_
     refine ex_then_n ?_
     refine wp_seq ?_
     refine sx_region ?_
     refine sx_rd 82 (.slice Ai4 ((fitTo l0_2 (sortT lh) i).length) ci4) (by rfl) (by kernel_rfl) ?_
     refine sx_rd 2 (.slice Ai4 ((fitTo l0_2 (sortT lh) i).length) ci4) (by rfl) (by kernel_rfl) ?_
     refine sx_nil ?_
     refine ex_then_n ?_
     refine wp_ret ?_
     refine sx_end (.slice Ai4 ((fitTo l0_2 (sortT lh) i).length) ci4) (res1 2 (by rfl)) ?_
     obtain rfl : i = (sortT lh).length := by omega
     unfold movesL at h; rw [if_neg (show ¬ (overB l0_0 l0_1 a0_4) = true from by have q := c_4; simpa using q), how] at h
     rw [if_neg (by omega)] at h; obtain rfl := Option.some.inj h
     exact ⟨_, rfl, Kd.R_mono (row_R (hp.at_ 0 _ (by rfl))) (fun _ _ => trivial), hc2 _ (hp.tail.tail.tail)⟩
end Go.Proofs.YtjaojemmbeddfaaGreat.Hd
