/- spec.BestPlay, by hand. -/
import Derived.Test.YtlphnpinpflaaaaMLyCan
import Derived.Test.YtlphnpinpflaaaaPBestA
import Derived.Test.YtlphnpinpflaaaaMSx2
namespace Go.Proofs.Ytlphnpinpflaaaa.Hd
open Go.RowKit Go.Proofs.Ytlphnpinpflaaaa.Pure Go.Proofs.YtlphnpinpflaaaaW.PrintWords Go.Proofs.YtlphnpinpflaaaaW.PrintLast Go.Proofs.YtlphnpinpflaaaaW.PrintMore
set_option linter.unusedVariables false
set_option linter.unusedSimpArgs false
def spec_BestPlay.f (l : List S_Play) (hand : List S_Tile) : Option (Int × Int × Int × Int × Bool) := if l.length ≤ 8388608 ∧ hand.length ≤ 1048576 then (match lyReadF l with | some s => if handB hand = true then some (bestAns s (lyForF s hand)) else some (0, 0, 0, 0, false) | none => some (0, 0, 0, 0, false)) else none
set_option maxRecDepth 100000 in
set_option maxHeartbeats 40000000 in
theorem spec_BestPlay.calls (A0 : Option Addr) (c0 : Nat) (l0 : List S_Play) (A1 : Option Addr) (c1 : Nat) (l1 : List S_Tile) (r0 : Int) (r1 : Int) (r2 : Int) (r3 : Int) (r4 : Bool) (w : World) (hr0 : Kd.C k53 w A0 l0.length l0) (hc0 : l0.length ≤ c0) (hr1 : Kd.C k51 w A1 l1.length l1) (hc1 : l1.length ≤ c1) (h : spec_BestPlay.f l0 l1 = some (r0, r1, r2, r3, r4)) :
    Calls Try.prog 39 #[.slice A0 l0.length c0, .slice A1 l1.length c1] w fun e w' => e = .returned (.tuple #[.agg #[.int .i64 r0, .int .i64 r1, .int .i64 r2], .int .i64 r3, .bool r4]) ∧ Below w.heap.size w w' := by
  unfold spec_BestPlay.f at h
  by_cases hsz : l0.length ≤ 8388608 ∧ l1.length ≤ 1048576
  · rw [if_pos hsz] at h
    obtain ⟨hlen, hlen1⟩ := hsz
    obtain ⟨cs, hcs⟩ : ∃ cs, cs = [old w w.heap.size] := ⟨_, rfl⟩
    have hp : Hp w cs w := by rw [hcs]; exact Hp.old_start w
    have hc2 : ∀ W, Hp w cs W → Below w.heap.size w W := fun W h => by rw [hcs] at h; exact h.since 0 _ rfl
    have hC0 : ∀ W, Hp w cs W → Kd.C k53 W A0 l0.length l0 := fun W h => Kd.C_below hr0 (hc2 W h)
    have hC1 : ∀ W, Hp w cs W → Kd.C k51 W A1 l1.length l1 := fun W h => Kd.C_below hr1 (hc2 W h)
    clear hcs
    cases hf : lyReadF l0 with
    | none =>
      rw [hf] at h; dsimp only at h
      refine sx_enter (N := 51) (l := [.slice A0 l0.length c0, .slice A1 l1.length c1]) Try.func39 rfl rfl rfl ?_
      refine wp_seq ?_
      refine sx_region ?_
      refine sx_box 4 hp #[.int .i64 0, .int .i64 0, .int .i64 0] 53 (by rfl) (fun W => by kernel_rfl) ?_
      intro g_1 W_2 hp
      refine sx_rd 5 (.int .i64 0) (by rfl) (by kernel_rfl) ?_
      refine sx_rd 6 (.bool false) (by rfl) (by kernel_rfl) ?_
      refine sx_nil ?_
      refine ex_then_n ?_
      refine wp_seq ?_
      refine sx_region ?_
      refine sx_rd 16 (.slice A0 l0.length c0) (by rfl) (by kernel_rfl) ?_
      refine sx_rd 17 (.slice A1 l1.length c1) (by rfl) (by kernel_rfl) ?_
      refine sx_call 18 (by rfl) (by kernel_rfl) ((lyAsked_none w _ (blk g_1 #[.int .i64 0, .int .i64 0, .int .i64 0] 53 :: cs) l0 A0 c0 hlen l1 A1 c1 hc1 (fun W h => hC0 W h.tail) (fun W h => hC1 W h.tail) hp hf).mono ?_)
      rintro _ W_3 ⟨g, rfl, hp⟩
      refine ⟨_, rfl, ?_⟩
      refine sx_rd 15 (.tuple #[.pointer (some ⟨g, 0, none⟩), .bool false]) (by rfl) (by kernel_rfl) ?_
      refine sx_rd 19 (.pointer (some ⟨g, 0, none⟩)) (by rfl) (by kernel_rfl) ?_
      refine sx_rd 20 (.bool false) (by rfl) (by kernel_rfl) ?_
      refine sx_rd 7 (.pointer (some ⟨g, 0, none⟩)) (by rfl) (by kernel_rfl) ?_
      refine sx_rd 8 (.bool false) (by rfl) (by kernel_rfl) ?_
      refine sx_nil ?_
      refine ex_then_n ?_
      refine wp_seq ?_
      refine wp_seq ?_
      refine sx_region ?_
      refine sx_rd 21 (.bool false) (by rfl) (by kernel_rfl) ?_
      refine sx_rd 22 (.bool true) (by rfl) (by kernel_rfl) ?_
      refine sx_nil ?_
      refine ex_then_n ?_
      refine sx_then true (by rfl) rfl ?_
      refine wp_seq ?_
      refine sx_region ?_
      refine sx_rd 23 (.agg #[.int .i64 0, .int .i64 0, .int .i64 0]) (by rfl) (by kernel_rfl) ?_
      refine sx_store (t := 53) (p := (.tmp 4)) (x := (.tmp 23)) (by rfl) (by rfl) 0 (by rfl) 0 [.int .i64 0, .int .i64 0, .int .i64 0] (by rfl) (by rfl) (by kernel_rfl) (by simp [Value.oneCell']) (by show 3 ≤ 3; omega) #[.int .i64 0, .int .i64 0, .int .i64 0] (by rfl) hp ?_
      intro W_4 hp; simp only [List.set_cons_succ, List.set_cons_zero] at hp
      refine sx_rd 5 (.int .i64 0) (by rfl) (by kernel_rfl) ?_
      refine sx_rd 6 (.bool false) (by rfl) (by kernel_rfl) ?_
      refine sx_nil ?_
      refine ex_then_n ?_
      refine wp_ret ?_
      refine ex_then_r ?_
      refine sx_end (.tuple #[.agg #[.int .i64 0, .int .i64 0, .int .i64 0], .int .i64 0, .bool false]) (rescT3 (p := 4) (u := 5) (x := 6) (by rfl) (by rfl) (by kernel_rfl) (by kernel_rfl) (hp.at_ 0 _ (by rfl))) ?_
      have hbw := hc2 _ (hp.tail)
      simp only [Option.some.injEq, Prod.mk.injEq] at h; obtain ⟨rfl, rfl, rfl, rfl, rfl⟩ := h
      exact ⟨rfl, hbw⟩
    | some s =>
      rw [hf] at h; dsimp only at h
      obtain ⟨hok, hl28⟩ := lyOk_read hf
      have hlf := lyForF_len s l1 (by have := hok.ar; omega)
      refine sx_enter (N := 51) (l := [.slice A0 l0.length c0, .slice A1 l1.length c1]) Try.func39 rfl rfl rfl ?_
      refine wp_seq ?_
      refine sx_region ?_
      refine sx_box 4 hp #[.int .i64 0, .int .i64 0, .int .i64 0] 53 (by rfl) (fun W => by kernel_rfl) ?_
      intro g_1 W_2 hp
      refine sx_rd 5 (.int .i64 0) (by rfl) (by kernel_rfl) ?_
      refine sx_rd 6 (.bool false) (by rfl) (by kernel_rfl) ?_
      refine sx_nil ?_
      refine ex_then_n ?_
      refine wp_seq ?_
      refine sx_region ?_
      refine sx_rd 16 (.slice A0 l0.length c0) (by rfl) (by kernel_rfl) ?_
      refine sx_rd 17 (.slice A1 l1.length c1) (by rfl) (by kernel_rfl) ?_
      refine sx_call 18 (by rfl) (by kernel_rfl) ((lyAsked_some w _ (blk g_1 #[.int .i64 0, .int .i64 0, .int .i64 0] 53 :: cs) l0 A0 c0 hlen l1 A1 c1 hc1 (fun W h => hC0 W h.tail) (fun W h => hC1 W h.tail) hp s hf).mono ?_)
      rintro _ W_3 ⟨g, AA, cA, AB, cB, FA, FB, rfl, hp⟩
      refine ⟨_, rfl, ?_⟩
      refine sx_rd 15 (.tuple #[.pointer (some ⟨g, 0, none⟩), .bool (handB l1)]) (by rfl) (by kernel_rfl) ?_
      refine sx_rd 19 (.pointer (some ⟨g, 0, none⟩)) (by rfl) (by kernel_rfl) ?_
      refine sx_rd 20 (.bool (handB l1)) (by rfl) (by kernel_rfl) ?_
      refine sx_rd 7 (.pointer (some ⟨g, 0, none⟩)) (by rfl) (by kernel_rfl) ?_
      refine sx_rd 8 (.bool (handB l1)) (by rfl) (by kernel_rfl) ?_
      refine sx_nil ?_
      refine ex_then_n ?_
      refine wp_seq ?_
      refine wp_seq ?_
      refine sx_region ?_
      refine sx_rd 21 (.bool (handB l1)) (by rfl) (by kernel_rfl) ?_
      refine sx_rd 22 (.bool (!(handB l1))) (by rfl) (by kernel_rfl) ?_
      refine sx_nil ?_
      refine ex_then_n ?_
      refine sx_cond (!(handB l1)) (by rfl) (fun c_4 => ?_) (fun c_4 => ?_)
      ·
        refine wp_seq ?_
        refine sx_region ?_
        refine sx_rd 23 (.agg #[.int .i64 0, .int .i64 0, .int .i64 0]) (by rfl) (by kernel_rfl) ?_
        refine sx_store (t := 53) (p := (.tmp 4)) (x := (.tmp 23)) (by rfl) (by rfl) 3 (by rfl) 0 [.int .i64 0, .int .i64 0, .int .i64 0] (by rfl) (by rfl) (by kernel_rfl) (by simp [Value.oneCell']) (by show 3 ≤ 3; omega) #[.int .i64 0, .int .i64 0, .int .i64 0] (by rfl) hp ?_
        intro W_5 hp; simp only [List.set_cons_succ, List.set_cons_zero] at hp
        refine sx_rd 5 (.int .i64 0) (by rfl) (by kernel_rfl) ?_
        refine sx_rd 6 (.bool false) (by rfl) (by kernel_rfl) ?_
        refine sx_nil ?_
        refine ex_then_n ?_
        refine wp_ret ?_
        refine ex_then_r ?_
        refine sx_end (.tuple #[.agg #[.int .i64 0, .int .i64 0, .int .i64 0], .int .i64 0, .bool false]) (rescT3 (p := 4) (u := 5) (x := 6) (by rfl) (by rfl) (by kernel_rfl) (by kernel_rfl) (hp.at_ 3 _ (by rfl))) ?_
        have hbw := hc2 _ (hp.tail.tail.tail.tail)
        rw [if_neg (by rw [(not_eq c_4)]; simp)] at h
        simp only [Option.some.injEq, Prod.mk.injEq] at h; obtain ⟨rfl, rfl, rfl, rfl, rfl⟩ := h
        exact ⟨rfl, hbw⟩
      ·
        refine wp_skip ?_
        refine ex_then_n ?_
        refine wp_seq ?_
        refine sx_region ?_
        refine sx_rd 24 (.agg #[.int .i64 0, .int .i64 0, .int .i64 0]) (by rfl) (by kernel_rfl) ?_
        refine sx_box 9 hp #[.int .i64 0, .int .i64 0, .int .i64 0] 53 (by rfl) (fun W => by kernel_rfl) ?_
        intro g_6 W_7 hp
        refine sx_store (t := 53) (p := (.tmp 9)) (x := (.tmp 24)) (by rfl) (by rfl) 0 (by rfl) 0 [.int .i64 0, .int .i64 0, .int .i64 0] (by rfl) (by rfl) (by kernel_rfl) (by simp [Value.oneCell']) (by show 3 ≤ 3; omega) #[.int .i64 0, .int .i64 0, .int .i64 0] (by rfl) hp ?_
        intro W_8 hp; simp only [List.set_cons_succ, List.set_cons_zero] at hp
        refine sx_rd 10 (.int .i64 (-1)) (by rfl) (by kernel_rfl) ?_
        refine sx_nil ?_
        refine ex_then_n ?_
        refine wp_seq ?_
        refine wp_seq ?_
        refine sx_region ?_
        refine sx_rd 25 (.pointer (some ⟨g, 0, none⟩)) (by rfl) (by kernel_rfl) ?_
        refine sx_rd 26 (.slice A1 l1.length c1) (by rfl) (by kernel_rfl) ?_
        refine sx_call 27 (by rfl) (by kernel_rfl) ((lyFor_sx w _ (blk g_6 #[.int .i64 0, .int .i64 0, .int .i64 0] 53 :: blk g_1 #[.int .i64 0, .int .i64 0, .int .i64 0] 53 :: cs) g s AA cA AB cB w.heap.size FA FB l1 A1 c1 hlen1 hc1 (by have := hok.ti; omega) (by have := hok.ar; omega) (fun W h => hC1 W h.tail.tail) (hp.take [1, 2, 3, 0, 4] 5 (by decide) (by simp))).mono ?_)
        rintro _ W_9 ⟨AF, nF, cF, FF, hfin, rfl, hp⟩
        refine ⟨_, rfl, ?_⟩
        rw [hfin] at hp
        obtain ⟨rfl, -⟩ := row_len (hp.at_ 0 _ (by rfl))
        refine sx_rd 28 (.int .i64 ((lyForF s l1).length : Int)) (by rfl) (by kernel_rfl) ?_
        refine sx_rd 29 (.int .i64 0) (by rfl) (by kernel_rfl) ?_
        refine sx_nil ?_
        refine ex_then_n ?_
        refine wp_block ?_
        refine wp_loop_ghost (fun n a W => ∃ (r : List (Nat × Value)) (i : Nat) , n = (lyForF s l1).length - i ∧ a = fr 51 ([(4, .pointer (some ⟨g_1, 0, none⟩)), (7, .pointer (some ⟨g, 0, none⟩)), (9, .pointer (some ⟨g_6, 0, none⟩)), (10, .int .i64 ((bestTo s (lyForF s l1) i).2)), (27, .slice AF ((lyForF s l1).length) cF), (28, .int .i64 ((lyForF s l1).length : Int)), (29, .int .i64 (i : Int))] ++ r) ∧ Hp w (blk g_6 #[.int .i64 ((bestTo s (lyForF s l1) i).1.f0.f0), .int .i64 ((bestTo s (lyForF s l1) i).1.f0.f1), .int .i64 ((bestTo s (lyForF s l1) i).1.f1)] 53 :: row k53 53 w.heap.size (.slice AF ((lyForF s l1).length) cF) (lyForF s l1) FF :: blk g #[.slice AA s.ar.length cA, .slice AB s.ti.length cB, .int .i64 s.sp, .int .i64 s.wt, .bool s.fi, .bool s.l0, .bool s.l1] 83 :: row k85 85 w.heap.size (.slice AA s.ar.length cA) s.ar FA :: row k51 51 w.heap.size (.slice AB s.ti.length cB) s.ti FB :: blk g_1 #[.int .i64 0, .int .i64 0, .int .i64 0] 53 :: cs) W ∧ (i ≤ (lyForF s l1).length)) _ ⟨_, 0, rfl, fr_front [(4, .pointer (some ⟨g_1, 0, none⟩)), (7, .pointer (some ⟨g, 0, none⟩)), (9, .pointer (some ⟨g_6, 0, none⟩)), (10, .int .i64 (-1)), (27, .slice AF ((lyForF s l1).length) cF), (28, .int .i64 ((lyForF s l1).length : Int)), (29, .int .i64 0)] ⟨rfl, rfl, rfl, rfl, rfl, rfl, rfl, trivial⟩, (hp.take [4, 0, 1, 2, 3, 5] 6 (by decide) (by simp)), Nat.zero_le _⟩ ?_
        rintro _ _ W_10 ⟨r, i, rfl, rfl, hp, hi⟩
        refine wp_seq ?_
        refine sx_region ?_
        refine sx_rd 30 (.bool (decide ((i : Int) < ((lyForF s l1).length : Int)))) (by rfl) (by kernel_rfl) ?_
        refine sx_nil ?_
        refine ex_then_n ?_
        refine wp_seq ?_
        refine sx_cond (decide ((i : Int) < ((lyForF s l1).length : Int))) (by rfl) (fun c_11 => ?_) (fun c_11 => ?_)
        ·
          have c_11p := of_decide_eq_true c_11
          refine wp_skip ?_
          refine ex_then_n ?_
          refine wp_seq ?_
          refine wp_block ?_
          refine wp_seq ?_
          refine sx_region ?_
          refine sx_rd 31 (.pointer (some (adr AF (i : Int) 3))) (by rfl) (ix_run (d := k53) (row_C (hp.at_ 1 _ (by rfl))) (t := 26) (by rfl) (by rfl) (by rfl) Try.underlying26 (by kernel_rfl) (by omega) (by omega)) ?_
          refine sx_rd 32 (.agg #[.int .i64 ((rd_Play (lyForF s l1) (i : Int)).f0.f0), .int .i64 ((rd_Play (lyForF s l1) (i : Int)).f0.f1), .int .i64 ((rd_Play (lyForF s l1) (i : Int)).f1)]) (by rfl) (el_run (d := k53) (row_C (hp.at_ 1 _ (by rfl))) z53 (i : Int) (by omega) (by omega) (cells := [.int .i64 ((rd_Play (lyForF s l1) (i : Int)).f0.f0), .int .i64 ((rd_Play (lyForF s l1) (i : Int)).f0.f1), .int .i64 ((rd_Play (lyForF s l1) (i : Int)).f1)]) (fun cs h => k53_open h) 0 [.int .i64 ((rd_Play (lyForF s l1) (i : Int)).f0.f0), .int .i64 ((rd_Play (lyForF s l1) (i : Int)).f0.f1), .int .i64 ((rd_Play (lyForF s l1) (i : Int)).f1)] (by rfl) (t := 53) (p := (.tmp 31)) (by rfl) (by rfl) (by kernel_rfl) (by kernel_rfl)) ?_
          refine sx_box 12 hp #[.int .i64 0, .int .i64 0, .int .i64 0] 53 (by rfl) (fun W => by kernel_rfl) ?_
          intro g_12 W_13 hp
          refine sx_store (t := 53) (p := (.tmp 12)) (x := (.tmp 32)) (by rfl) (by rfl) 0 (by rfl) 0 [.int .i64 ((rd_Play (lyForF s l1) (i : Int)).f0.f0), .int .i64 ((rd_Play (lyForF s l1) (i : Int)).f0.f1), .int .i64 ((rd_Play (lyForF s l1) (i : Int)).f1)] (by rfl) (by rfl) (by kernel_rfl) (by simp [Value.oneCell']) (by show 3 ≤ 3; omega) #[.int .i64 ((rd_Play (lyForF s l1) (i : Int)).f0.f0), .int .i64 ((rd_Play (lyForF s l1) (i : Int)).f0.f1), .int .i64 ((rd_Play (lyForF s l1) (i : Int)).f1)] (by rfl) hp ?_
          intro W_14 hp; simp only [List.set_cons_succ, List.set_cons_zero] at hp
          refine sx_nil ?_
          refine ex_then_n ?_
          refine wp_seq ?_
          refine sx_region ?_
          refine sx_rd 33 (.pointer (some ⟨g, 0, none⟩)) (by rfl) (by kernel_rfl) ?_
          refine sx_call 34 (by rfl) (by kernel_rfl) ((lyCopy_sx w _ (blk g_12 #[.int .i64 ((rd_Play (lyForF s l1) (i : Int)).f0.f0), .int .i64 ((rd_Play (lyForF s l1) (i : Int)).f0.f1), .int .i64 ((rd_Play (lyForF s l1) (i : Int)).f1)] 53 :: blk g_6 #[.int .i64 ((bestTo s (lyForF s l1) i).1.f0.f0), .int .i64 ((bestTo s (lyForF s l1) i).1.f0.f1), .int .i64 ((bestTo s (lyForF s l1) i).1.f1)] 53 :: row k53 53 w.heap.size (.slice AF ((lyForF s l1).length) cF) (lyForF s l1) FF :: blk g_1 #[.int .i64 0, .int .i64 0, .int .i64 0] 53 :: cs) g s AA cA AB cB w.heap.size FA FB (by have := hok.ti; omega) (by have := hok.ar; omega) (hp.take [3, 4, 5, 0, 1, 2, 6] 7 (by decide) (by simp))).mono ?_)
          rintro _ W_15 ⟨g2, A3, c3, F3, A4, c4, F4, rfl, hp⟩
          refine ⟨_, rfl, ?_⟩
          replace hp := (hp.take [2, 1, 0, 6, 7, 8, 3, 4, 5, 9] 10 (by decide) (by simp))
          refine sx_rd 13 (.pointer (some ⟨g2, 0, none⟩)) (by rfl) (by kernel_rfl) ?_
          refine sx_nil ?_
          refine ex_then_n ?_
          refine wp_seq ?_
          refine sx_region ?_
          refine sx_rd 35 (.pointer (some ⟨g2, 0, none⟩)) (by rfl) (by kernel_rfl) ?_
          refine sx_rd 36 (.agg #[.int .i64 ((rd_Play (lyForF s l1) (i : Int)).f0.f0), .int .i64 ((rd_Play (lyForF s l1) (i : Int)).f0.f1), .int .i64 ((rd_Play (lyForF s l1) (i : Int)).f1)]) (by rfl) (ldn (t := 53) (p := (.tmp 12)) (by rfl) (by rfl) (by kernel_rfl) (by kernel_rfl) (by kernel_rfl) (hp.at_ 3 _ (by rfl))) ?_
          obtain ⟨hcan, hok2, h28⟩ := lyFor_ok s l1 l0.length hok i (by omega)
          refine sx_call 37 (by rfl) (by kernel_rfl) ((lyAdd_sx w _ (blk g_12 #[.int .i64 ((rd_Play (lyForF s l1) (i : Int)).f0.f0), .int .i64 ((rd_Play (lyForF s l1) (i : Int)).f0.f1), .int .i64 ((rd_Play (lyForF s l1) (i : Int)).f1)] 53 :: blk g_6 #[.int .i64 ((bestTo s (lyForF s l1) i).1.f0.f0), .int .i64 ((bestTo s (lyForF s l1) i).1.f0.f1), .int .i64 ((bestTo s (lyForF s l1) i).1.f1)] 53 :: row k53 53 w.heap.size (.slice AF ((lyForF s l1).length) cF) (lyForF s l1) FF :: blk g #[.slice AA s.ar.length cA, .slice AB s.ti.length cB, .int .i64 s.sp, .int .i64 s.wt, .bool s.fi, .bool s.l0, .bool s.l1] 83 :: row k85 85 w.heap.size (.slice AA s.ar.length cA) s.ar FA :: row k51 51 w.heap.size (.slice AB s.ti.length cB) s.ti FB :: blk g_1 #[.int .i64 0, .int .i64 0, .int .i64 0] 53 :: cs) g2 s A3 c3 A4 c4 w.heap.size F3 F4 (rd_Play (lyForF s l1) (i : Int)) (Nat.le_refl _) (by have := hok.ti; omega) (by have := hok.ar; omega) (hp.take [0, 1, 2, 3, 4, 5, 6, 7, 8, 9] 10 (by decide) (by simp))).mono ?_)
          rintro _ W_16 ⟨s', A5, c5, A6, c6, F5, F6, rfl, hs', hp⟩
          refine ⟨.bool true, congrArg (fun b => Ending.returned (.bool b)) hcan, ?_⟩
          rw [hcan, if_pos rfl] at hs'; subst hs'
          refine sx_nil ?_
          refine ex_then_n ?_
          refine wp_seq ?_
          refine sx_region ?_
          refine sx_rd 38 (.pointer (some ⟨g2, 0, none⟩)) (by rfl) (by kernel_rfl) ?_
          refine sx_call 39 (by rfl) (by kernel_rfl) ((lyPoints_sx w _ (blk g_12 #[.int .i64 ((rd_Play (lyForF s l1) (i : Int)).f0.f0), .int .i64 ((rd_Play (lyForF s l1) (i : Int)).f0.f1), .int .i64 ((rd_Play (lyForF s l1) (i : Int)).f1)] 53 :: blk g_6 #[.int .i64 ((bestTo s (lyForF s l1) i).1.f0.f0), .int .i64 ((bestTo s (lyForF s l1) i).1.f0.f1), .int .i64 ((bestTo s (lyForF s l1) i).1.f1)] 53 :: row k53 53 w.heap.size (.slice AF ((lyForF s l1).length) cF) (lyForF s l1) FF :: blk g #[.slice AA s.ar.length cA, .slice AB s.ti.length cB, .int .i64 s.sp, .int .i64 s.wt, .bool s.fi, .bool s.l0, .bool s.l1] 83 :: row k85 85 w.heap.size (.slice AA s.ar.length cA) s.ar FA :: row k51 51 w.heap.size (.slice AB s.ti.length cB) s.ti FB :: blk g_1 #[.int .i64 0, .int .i64 0, .int .i64 0] 53 :: cs) g2 (lyDo s (rd_Play (lyForF s l1) (i : Int))) A5 c5 A6 c6 w.heap.size F5 F6 (by have := hok2.ti; omega) (by have := hok2.ar; omega) ⟨hok2.ends, hok2.tiles⟩ (hp.take [0, 1, 2, 3, 4, 5, 6, 7, 8, 9] 10 (by decide) (by simp))).mono ?_)
          rintro _ W_17 ⟨rfl, hp⟩
          refine ⟨_, rfl, ?_⟩
          refine sx_rd 14 (.int .i64 (lyPointsF (lyDo s (rd_Play (lyForF s l1) (i : Int))))) (by rfl) (by kernel_rfl) ?_
          refine sx_nil ?_
          refine ex_then_n ?_
          refine wp_seq ?_
          refine sx_region ?_
          refine sx_rd 40 (.int .i64 (lyPointsF (lyDo s (rd_Play (lyForF s l1) (i : Int))))) (by rfl) (by kernel_rfl) ?_
          refine sx_rd 41 (.int .i64 ((bestTo s (lyForF s l1) i).2)) (by rfl) (by kernel_rfl) ?_
          refine sx_rd 42 (.bool (decide ((lyPointsF (lyDo s (rd_Play (lyForF s l1) (i : Int)))) > (bestTo s (lyForF s l1) i).2))) (by rfl) (by kernel_rfl) ?_
          refine sx_nil ?_
          refine ex_then_n ?_
          refine sx_cond (decide ((lyPointsF (lyDo s (rd_Play (lyForF s l1) (i : Int)))) > (bestTo s (lyForF s l1) i).2)) (by rfl) (fun c_18 => ?_) (fun c_18 => ?_)
          ·
            have c_18p := of_decide_eq_true c_18
            refine wp_seq ?_
            refine sx_region ?_
            refine sx_rd 43 (.agg #[.int .i64 ((rd_Play (lyForF s l1) (i : Int)).f0.f0), .int .i64 ((rd_Play (lyForF s l1) (i : Int)).f0.f1), .int .i64 ((rd_Play (lyForF s l1) (i : Int)).f1)]) (by rfl) (ldn (t := 53) (p := (.tmp 12)) (by rfl) (by rfl) (by kernel_rfl) (by kernel_rfl) (by kernel_rfl) (hp.at_ 3 _ (by rfl))) ?_
            refine sx_store (t := 53) (p := (.tmp 9)) (x := (.tmp 43)) (by rfl) (by rfl) 4 (by rfl) 0 [.int .i64 ((rd_Play (lyForF s l1) (i : Int)).f0.f0), .int .i64 ((rd_Play (lyForF s l1) (i : Int)).f0.f1), .int .i64 ((rd_Play (lyForF s l1) (i : Int)).f1)] (by rfl) (by rfl) (by kernel_rfl) (by simp [Value.oneCell']) (by show 3 ≤ 3; omega) #[.int .i64 ((rd_Play (lyForF s l1) (i : Int)).f0.f0), .int .i64 ((rd_Play (lyForF s l1) (i : Int)).f0.f1), .int .i64 ((rd_Play (lyForF s l1) (i : Int)).f1)] (by rfl) hp ?_
            intro W_19 hp; simp only [List.set_cons_succ, List.set_cons_zero] at hp
            refine sx_nil ?_
            refine ex_then_n ?_
            refine sx_region ?_
            refine sx_rd 44 (.int .i64 (lyPointsF (lyDo s (rd_Play (lyForF s l1) (i : Int))))) (by rfl) (by kernel_rfl) ?_
            refine sx_rd 10 (.int .i64 (lyPointsF (lyDo s (rd_Play (lyForF s l1) (i : Int))))) (by rfl) (by kernel_rfl) ?_
            refine sx_nil ?_
            refine ex_blk_n ?_
            refine ex_then_n ?_
            refine sx_region ?_
            refine sx_rd 45 (.int .i64 ((i : Int) + 1)) (by rfl) (wr_ok (by omega) (by kernel_rfl)) ?_
            refine sx_rd 29 (.int .i64 ((i : Int) + 1)) (by rfl) (by kernel_rfl) ?_
            refine sx_nil ?_
            refine ex_then_n ?_
            have hq_20 : (lyPointsF (lyDo s (rd_Play (lyForF s l1) (i : Int)))) = (bestTo s (lyForF s l1) (i + 1)).2 := (by rw [bestTo_next s (lyForF s l1) i (by omega)]; unfold bestStep; rw [if_pos c_18p])
            have hq_21 : (rd_Play (lyForF s l1) (i : Int)).f0.f0 = (bestTo s (lyForF s l1) (i + 1)).1.f0.f0 := (by rw [bestTo_next s (lyForF s l1) i (by omega)]; unfold bestStep; rw [if_pos c_18p])
            rw [hq_21] at hp
            have hq_22 : (rd_Play (lyForF s l1) (i : Int)).f0.f1 = (bestTo s (lyForF s l1) (i + 1)).1.f0.f1 := (by rw [bestTo_next s (lyForF s l1) i (by omega)]; unfold bestStep; rw [if_pos c_18p])
            rw [hq_22] at hp
            have hq_23 : (rd_Play (lyForF s l1) (i : Int)).f1 = (bestTo s (lyForF s l1) (i + 1)).1.f1 := (by rw [bestTo_next s (lyForF s l1) i (by omega)]; unfold bestStep; rw [if_pos c_18p])
            rw [hq_23] at hp
            exact ⟨_, (by omega), _, (i + 1), rfl, fr_front [(4, .pointer (some ⟨g_1, 0, none⟩)), (7, .pointer (some ⟨g, 0, none⟩)), (9, .pointer (some ⟨g_6, 0, none⟩)), (10, .int .i64 ((bestTo s (lyForF s l1) (i + 1)).2)), (27, .slice AF ((lyForF s l1).length) cF), (28, .int .i64 ((lyForF s l1).length : Int)), (29, .int .i64 ((i + 1 : Nat) : Int))] ⟨rfl, rfl, rfl, congrArg (Value.int .i64) hq_20, rfl, rfl, rfl, trivial⟩, (hp.take [4, 5, 6, 7, 8, 9] 10 (by decide) (by simp)), (by omega)⟩
          ·
            have c_18p := of_decide_eq_false c_18
            refine wp_skip ?_
            refine ex_blk_n ?_
            refine ex_then_n ?_
            refine sx_region ?_
            refine sx_rd 45 (.int .i64 ((i : Int) + 1)) (by rfl) (wr_ok (by omega) (by kernel_rfl)) ?_
            refine sx_rd 29 (.int .i64 ((i : Int) + 1)) (by rfl) (by kernel_rfl) ?_
            refine sx_nil ?_
            refine ex_then_n ?_
            have hq_24 : (bestTo s (lyForF s l1) i).2 = (bestTo s (lyForF s l1) (i + 1)).2 := (by rw [bestTo_next s (lyForF s l1) i (by omega)]; unfold bestStep; rw [if_neg c_18p])
            have hq_25 : (bestTo s (lyForF s l1) i).1.f0.f0 = (bestTo s (lyForF s l1) (i + 1)).1.f0.f0 := (by rw [bestTo_next s (lyForF s l1) i (by omega)]; unfold bestStep; rw [if_neg c_18p])
            rw [hq_25] at hp
            have hq_26 : (bestTo s (lyForF s l1) i).1.f0.f1 = (bestTo s (lyForF s l1) (i + 1)).1.f0.f1 := (by rw [bestTo_next s (lyForF s l1) i (by omega)]; unfold bestStep; rw [if_neg c_18p])
            rw [hq_26] at hp
            have hq_27 : (bestTo s (lyForF s l1) i).1.f1 = (bestTo s (lyForF s l1) (i + 1)).1.f1 := (by rw [bestTo_next s (lyForF s l1) i (by omega)]; unfold bestStep; rw [if_neg c_18p])
            rw [hq_27] at hp
            exact ⟨_, (by omega), _, (i + 1), rfl, fr_front [(4, .pointer (some ⟨g_1, 0, none⟩)), (7, .pointer (some ⟨g, 0, none⟩)), (9, .pointer (some ⟨g_6, 0, none⟩)), (10, .int .i64 ((bestTo s (lyForF s l1) (i + 1)).2)), (27, .slice AF ((lyForF s l1).length) cF), (28, .int .i64 ((lyForF s l1).length : Int)), (29, .int .i64 ((i + 1 : Nat) : Int))] ⟨rfl, rfl, rfl, congrArg (Value.int .i64) hq_24, rfl, rfl, rfl, trivial⟩, (hp.take [4, 5, 6, 7, 8, 9] 10 (by decide) (by simp)), (by omega)⟩
        ·
          have c_11p := of_decide_eq_false c_11
          refine wp_exit ?_
          refine ex_then_e (ex_then_e (ex_blk_here ?_))
          refine ex_then_n ?_
          refine wp_seq ?_
          refine wp_seq ?_
          refine sx_region ?_
          refine sx_rd 46 (.int .i64 ((bestTo s (lyForF s l1) i).2)) (by rfl) (by kernel_rfl) ?_
          refine sx_rd 47 (.bool (decide ((bestTo s (lyForF s l1) i).2 < 0))) (by rfl) (by kernel_rfl) ?_
          refine sx_nil ?_
          refine ex_then_n ?_
          refine sx_cond (decide ((bestTo s (lyForF s l1) i).2 < 0)) (by rfl) (fun c_28 => ?_) (fun c_28 => ?_)
          ·
            have c_28p := of_decide_eq_true c_28
            refine wp_seq ?_
            refine sx_region ?_
            refine sx_rd 48 (.agg #[.int .i64 0, .int .i64 0, .int .i64 0]) (by rfl) (by kernel_rfl) ?_
            refine sx_store (t := 53) (p := (.tmp 4)) (x := (.tmp 48)) (by rfl) (by rfl) 5 (by rfl) 0 [.int .i64 0, .int .i64 0, .int .i64 0] (by rfl) (by rfl) (by kernel_rfl) (by simp [Value.oneCell']) (by show 3 ≤ 3; omega) #[.int .i64 0, .int .i64 0, .int .i64 0] (by rfl) hp ?_
            intro W_29 hp; simp only [List.set_cons_succ, List.set_cons_zero] at hp
            refine sx_rd 5 (.int .i64 0) (by rfl) (by kernel_rfl) ?_
            refine sx_rd 6 (.bool false) (by rfl) (by kernel_rfl) ?_
            refine sx_nil ?_
            refine ex_then_n ?_
            refine wp_ret ?_
            refine ex_then_r ?_
            refine sx_end (.tuple #[.agg #[.int .i64 0, .int .i64 0, .int .i64 0], .int .i64 0, .bool false]) (rescT3 (p := 4) (u := 5) (x := 6) (by rfl) (by rfl) (by kernel_rfl) (by kernel_rfl) (hp.at_ 5 _ (by rfl))) ?_
            have hbw := hc2 _ (hp.tail.tail.tail.tail.tail.tail)
            obtain rfl : i = (lyForF s l1).length := by omega
            rw [if_pos (show handB l1 = true from by have q := (not_eq c_4); simpa using q)] at h; unfold bestAns at h; rw [if_pos c_28p] at h
            simp only [Option.some.injEq, Prod.mk.injEq] at h; obtain ⟨rfl, rfl, rfl, rfl, rfl⟩ := h
            exact ⟨rfl, hbw⟩
          ·
            have c_28p := of_decide_eq_false c_28
            refine wp_skip ?_
            refine ex_then_n ?_
            refine wp_seq ?_
            refine sx_region ?_
            refine sx_rd 49 (.agg #[.int .i64 ((bestTo s (lyForF s l1) i).1.f0.f0), .int .i64 ((bestTo s (lyForF s l1) i).1.f0.f1), .int .i64 ((bestTo s (lyForF s l1) i).1.f1)]) (by rfl) (ldn (t := 53) (p := (.tmp 9)) (by rfl) (by rfl) (by kernel_rfl) (by kernel_rfl) (by kernel_rfl) (hp.at_ 0 _ (by rfl))) ?_
            refine sx_rd 50 (.int .i64 ((bestTo s (lyForF s l1) i).2)) (by rfl) (by kernel_rfl) ?_
            refine sx_store (t := 53) (p := (.tmp 4)) (x := (.tmp 49)) (by rfl) (by rfl) 5 (by rfl) 0 [.int .i64 ((bestTo s (lyForF s l1) i).1.f0.f0), .int .i64 ((bestTo s (lyForF s l1) i).1.f0.f1), .int .i64 ((bestTo s (lyForF s l1) i).1.f1)] (by rfl) (by rfl) (by kernel_rfl) (by simp [Value.oneCell']) (by show 3 ≤ 3; omega) #[.int .i64 ((bestTo s (lyForF s l1) i).1.f0.f0), .int .i64 ((bestTo s (lyForF s l1) i).1.f0.f1), .int .i64 ((bestTo s (lyForF s l1) i).1.f1)] (by rfl) hp ?_
            intro W_30 hp; simp only [List.set_cons_succ, List.set_cons_zero] at hp
            refine sx_rd 5 (.int .i64 ((bestTo s (lyForF s l1) i).2)) (by rfl) (by kernel_rfl) ?_
            refine sx_rd 6 (.bool true) (by rfl) (by kernel_rfl) ?_
            refine sx_nil ?_
            refine ex_then_n ?_
            refine wp_ret ?_
            refine sx_end (.tuple #[.agg #[.int .i64 ((bestTo s (lyForF s l1) i).1.f0.f0), .int .i64 ((bestTo s (lyForF s l1) i).1.f0.f1), .int .i64 ((bestTo s (lyForF s l1) i).1.f1)], .int .i64 ((bestTo s (lyForF s l1) i).2), .bool true]) (rescT3 (p := 4) (u := 5) (x := 6) (by rfl) (by rfl) (by kernel_rfl) (by kernel_rfl) (hp.at_ 5 _ (by rfl))) ?_
            have hbw := hc2 _ (hp.tail.tail.tail.tail.tail.tail)
            obtain rfl : i = (lyForF s l1).length := by omega
            rw [if_pos (show handB l1 = true from by have q := (not_eq c_4); simpa using q)] at h; unfold bestAns at h; rw [if_neg c_28p] at h
            simp only [Option.some.injEq, Prod.mk.injEq] at h; obtain ⟨rfl, rfl, rfl, rfl, rfl⟩ := h
            exact ⟨rfl, hbw⟩
  · rw [if_neg hsz] at h
    cases h
end Go.Proofs.Ytlphnpinpflaaaa.Hd
