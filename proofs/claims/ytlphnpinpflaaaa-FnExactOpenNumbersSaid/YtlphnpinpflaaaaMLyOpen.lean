/- spec.OpenNumbers, by hand. -/
import Derived.Test.YtlphnpinpflaaaaMLyRead
import Derived.Test.YtlphnpinpflaaaaPOpenA
import Derived.Test.YtlphnpinpflaaaaMLyEx
namespace Go.Proofs.Ytlphnpinpflaaaa.Hd
open Go.RowKit Go.Proofs.Ytlphnpinpflaaaa.Pure Go.Proofs.YtlphnpinpflaaaaW.PrintWords Go.Proofs.YtlphnpinpflaaaaW.PrintLast Go.Proofs.YtlphnpinpflaaaaW.PrintMore
set_option linter.unusedVariables false
set_option linter.unusedSimpArgs false
def spec_OpenNumbers.f (l : List S_Play) : Option (List Int × Bool) := if l.length ≤ 8388608 then (match lyReadF l with | some s => some (opn s.ar 10, true) | none => some ([], false)) else none
set_option maxRecDepth 100000 in
set_option maxHeartbeats 40000000 in
theorem spec_OpenNumbers.calls (A0 : Option Addr) (c0 : Nat) (l0 : List S_Play) (r0 : List Int) (r1 : Bool) (w : World) (hr0 : Kd.C k53 w A0 l0.length l0) (hc0 : l0.length ≤ c0) (h : spec_OpenNumbers.f l0 = some (r0, r1)) :
    Calls Try.prog 28 #[.slice A0 l0.length c0] w fun e w' => ∃ v0_ : Value, e = .returned (.tuple #[v0_, .bool r1]) ∧ Kd.R (Kd.int .i64) 3 w' w.heap.size (fun _ => True) v0_ r0 ∧ Below w.heap.size w w' := by
  unfold spec_OpenNumbers.f at h
  by_cases hsz : l0.length ≤ 8388608
  · rw [if_pos hsz] at h
    have hlen : l0.length ≤ 8388608 := hsz
    obtain ⟨cs, hcs⟩ : ∃ cs, cs = [old w w.heap.size] := ⟨_, rfl⟩
    have hp : Hp w cs w := by rw [hcs]; exact Hp.old_start w
    have hc2 : ∀ W, Hp w cs W → Below w.heap.size w W := fun W h => by rw [hcs] at h; exact h.since 0 _ rfl
    have hC0 : ∀ W, Hp w cs W → Kd.C k53 W A0 l0.length l0 := fun W h => Kd.C_below hr0 (hc2 W h)
    clear hcs
    have hC := hC0
    cases hf : lyReadF l0 with
    | none =>
      rw [hf] at h; simp only [Option.some.injEq, Prod.mk.injEq] at h; obtain ⟨rfl, rfl⟩ := h
      refine sx_enter (N := 46) (l := [.slice A0 l0.length c0]) Try.func28 rfl rfl rfl ?_
      refine wp_seq ?_
      refine sx_region ?_
      refine sx_rd 2 (.slice none 0 0) (by rfl) (by kernel_rfl) ?_
      refine sx_rd 3 (.bool false) (by rfl) (by kernel_rfl) ?_
      refine sx_nil ?_
      refine ex_then_n ?_
      refine wp_seq ?_
      refine sx_region ?_
      refine sx_rd 11 (.slice A0 l0.length c0) (by rfl) (by kernel_rfl) ?_
      refine sx_call 12 (by rfl) (by kernel_rfl) ((lyRead_none w _ cs l0 A0 c0 hlen hC hp hf).mono ?_)
      rintro _ W_1 ⟨g, rfl, hp⟩
      refine ⟨_, rfl, ?_⟩
      refine sx_rd 10 (.tuple #[.pointer (some ⟨g, 0, none⟩), .bool false]) (by rfl) (by kernel_rfl) ?_
      refine sx_rd 13 (.pointer (some ⟨g, 0, none⟩)) (by rfl) (by kernel_rfl) ?_
      refine sx_rd 14 (.bool false) (by rfl) (by kernel_rfl) ?_
      refine sx_rd 4 (.pointer (some ⟨g, 0, none⟩)) (by rfl) (by kernel_rfl) ?_
      refine sx_rd 5 (.bool false) (by rfl) (by kernel_rfl) ?_
      refine sx_nil ?_
      refine ex_then_n ?_
      refine wp_seq ?_
      refine wp_seq ?_
      refine sx_region ?_
      refine sx_rd 15 (.bool false) (by rfl) (by kernel_rfl) ?_
      refine sx_rd 16 (.bool true) (by rfl) (by kernel_rfl) ?_
      refine sx_nil ?_
      refine ex_then_n ?_
      refine sx_then true (by rfl) rfl ?_
      refine wp_seq ?_
      refine sx_region ?_
      refine sx_rd 2 (.slice none 0 0) (by rfl) (by kernel_rfl) ?_
      refine sx_rd 3 (.bool false) (by rfl) (by kernel_rfl) ?_
      refine sx_nil ?_
      refine ex_then_n ?_
      refine wp_ret ?_
      refine ex_then_r ?_
      refine sx_end (.tuple #[.slice none 0 0, .bool false]) (res2 2 3 (by rfl)) ?_
      exact ⟨_, rfl, Kd.R_nil _ _ _ _ _, hc2 _ (hp)⟩
    | some s =>
      rw [hf] at h; simp only [Option.some.injEq, Prod.mk.injEq] at h; obtain ⟨rfl, rfl⟩ := h
      obtain ⟨hok, hl28⟩ := lyOk_read hf
      have har := hok.ar
      refine sx_enter (N := 46) (l := [.slice A0 l0.length c0]) Try.func28 rfl rfl rfl ?_
      refine wp_seq ?_
      refine sx_region ?_
      refine sx_rd 2 (.slice none 0 0) (by rfl) (by kernel_rfl) ?_
      refine sx_rd 3 (.bool false) (by rfl) (by kernel_rfl) ?_
      refine sx_nil ?_
      refine ex_then_n ?_
      refine wp_seq ?_
      refine sx_region ?_
      refine sx_rd 11 (.slice A0 l0.length c0) (by rfl) (by kernel_rfl) ?_
      refine sx_call 12 (by rfl) (by kernel_rfl) ((lyRead_some w _ cs l0 A0 c0 hlen hC hp s hf).mono ?_)
      rintro _ W_1 ⟨g, A1, c1, A2, c2, F1, F2, rfl, hp⟩
      refine ⟨_, rfl, ?_⟩
      refine sx_rd 10 (.tuple #[.pointer (some ⟨g, 0, none⟩), .bool true]) (by rfl) (by kernel_rfl) ?_
      refine sx_rd 13 (.pointer (some ⟨g, 0, none⟩)) (by rfl) (by kernel_rfl) ?_
      refine sx_rd 14 (.bool true) (by rfl) (by kernel_rfl) ?_
      refine sx_rd 4 (.pointer (some ⟨g, 0, none⟩)) (by rfl) (by kernel_rfl) ?_
      refine sx_rd 5 (.bool true) (by rfl) (by kernel_rfl) ?_
      refine sx_nil ?_
      refine ex_then_n ?_
      refine wp_seq ?_
      refine wp_seq ?_
      refine sx_region ?_
      refine sx_rd 15 (.bool true) (by rfl) (by kernel_rfl) ?_
      refine sx_rd 16 (.bool false) (by rfl) (by kernel_rfl) ?_
      refine sx_nil ?_
      refine ex_then_n ?_
      refine sx_else false (by rfl) rfl ?_
      refine wp_skip ?_
      refine ex_then_n ?_
      refine wp_seq ?_
      refine sx_region ?_
      refine sx_rd 6 (.slice none 0 0) (by rfl) (by kernel_rfl) ?_
      refine sx_nil ?_
      refine ex_then_n ?_
      refine wp_seq ?_
      refine wp_seq ?_
      refine sx_region ?_
      refine sx_rd 7 (.int .i64 0) (by rfl) (by kernel_rfl) ?_
      refine sx_nil ?_
      refine ex_then_n ?_
      refine wp_block ?_
      have hp := hp.nilrow (Kd.int .i64) 3 w.heap.size
      refine wp_loop_ghost (fun n a W => ∃ (r : List (Nat × Value)) (i : Nat) (Ai6 : Option Addr) (ni6 ci6 : Nat) (Fi6 : Nat → Prop), n = 10 - i ∧ a = fr 46 ([(4, .pointer (some ⟨g, 0, none⟩)), (6, .slice Ai6 ni6 ci6), (7, .int .i64 (i : Int))] ++ r) ∧ Hp w (row (Kd.int .i64) 3 w.heap.size (.slice Ai6 ni6 ci6) (opn s.ar i) Fi6 :: blk g #[.slice A1 s.ar.length c1, .slice A2 s.ti.length c2, .int .i64 s.sp, .int .i64 s.wt, .bool s.fi, .bool s.l0, .bool s.l1] 83 :: row k85 85 w.heap.size (.slice A1 s.ar.length c1) s.ar F1 :: row k51 51 w.heap.size (.slice A2 s.ti.length c2) s.ti F2 :: cs) W ∧ (i ≤ 10)) _ ⟨_, 0, _, _, _, _, rfl, fr_front [(4, .pointer (some ⟨g, 0, none⟩)), (6, .slice none 0 0), (7, .int .i64 0)] ⟨rfl, rfl, rfl, trivial⟩, (hp.take [0, 1, 2, 3] 4 (by decide) (by simp)), Nat.zero_le _⟩ ?_
      rintro _ _ W_2 ⟨r, i, Ai6, ni6, ci6, Fi6, rfl, rfl, hp, hi⟩
      obtain ⟨rfl, hcci6⟩ := row_len (hp.at_ 0 _ (by rfl))
      have hol := opn_len s.ar i
      refine wp_seq ?_
      refine wp_seq ?_
      refine sx_region ?_
      refine sx_rd 17 (.int .i64 (i : Int)) (by rfl) (by kernel_rfl) ?_
      refine sx_rd 18 (.bool (decide ((i : Int) ≤ 9))) (by rfl) (by kernel_rfl) ?_
      refine sx_nil ?_
      refine ex_then_n ?_
      refine sx_cond (decide ((i : Int) ≤ 9)) (by rfl) (fun c_3 => ?_) (fun c_3 => ?_)
      ·
        have c_3p := of_decide_eq_true c_3
        refine wp_skip ?_
        refine ex_then_n ?_
        refine wp_seq ?_
        refine wp_block ?_
        refine wp_seq ?_
        refine sx_region ?_
        refine sx_rd 21 (.pointer (some ⟨g, 0, none⟩)) (by rfl) (by kernel_rfl) ?_
        refine sx_rd 22 (.pointer (some ⟨g, 0, none⟩)) (by rfl) (by kernel_rfl) ?_
        refine sx_rd 23 (.pointer (some ⟨g, 0, none⟩)) (by rfl) (by kernel_rfl) ?_
        refine sx_rd 24 (.slice A1 s.ar.length c1) (by rfl) (ld1 (t := 67) (p := (.tmp 23)) (by rfl) (by rfl) (by kernel_rfl) (hp.cell 1 (by rfl) 0 _ (by rfl))) ?_
        refine sx_rd 25 (.int .i64 (s.ar.length : Int)) (by rfl) (by kernel_rfl) ?_
        refine sx_rd 26 (.int .i64 0) (by rfl) (by kernel_rfl) ?_
        refine sx_nil ?_
        refine ex_then_n ?_
        refine wp_block ?_
        have e0_4 : (opn s.ar i) = (opnA s.ar i 0) := (opnA_0 s.ar i).symm
        have hp : Hp w (row (Kd.int .i64) 3 w.heap.size (.slice Ai6 ((opn s.ar i).length) ci6) (opnA s.ar i 0) Fi6 :: blk g #[.slice A1 s.ar.length c1, .slice A2 s.ti.length c2, .int .i64 s.sp, .int .i64 s.wt, .bool s.fi, .bool s.l0, .bool s.l1] 83 :: row k85 85 w.heap.size (.slice A1 s.ar.length c1) s.ar F1 :: row k51 51 w.heap.size (.slice A2 s.ti.length c2) s.ti F2 :: cs) W_2 := by rw [← e0_4]; exact hp
        refine wp_loop_ghost (fun n a W => ∃ (r : List (Nat × Value)) (j : Nat) (Aj6 : Option Addr) (nj6 cj6 : Nat) (Fj6 : Nat → Prop), n = s.ar.length - j ∧ a = fr 46 ([(4, .pointer (some ⟨g, 0, none⟩)), (6, .slice Aj6 nj6 cj6), (7, .int .i64 (i : Int)), (24, .slice A1 s.ar.length c1), (25, .int .i64 (s.ar.length : Int)), (26, .int .i64 (j : Int))] ++ r) ∧ Hp w (row (Kd.int .i64) 3 w.heap.size (.slice Aj6 nj6 cj6) (opnA s.ar i j) Fj6 :: blk g #[.slice A1 s.ar.length c1, .slice A2 s.ti.length c2, .int .i64 s.sp, .int .i64 s.wt, .bool s.fi, .bool s.l0, .bool s.l1] 83 :: row k85 85 w.heap.size (.slice A1 s.ar.length c1) s.ar F1 :: row k51 51 w.heap.size (.slice A2 s.ti.length c2) s.ti F2 :: cs) W ∧ (j ≤ s.ar.length)) _ ⟨_, 0, _, _, _, _, rfl, fr_front [(4, .pointer (some ⟨g, 0, none⟩)), (6, .slice Ai6 ((opn s.ar i).length) ci6), (7, .int .i64 (i : Int)), (24, .slice A1 s.ar.length c1), (25, .int .i64 (s.ar.length : Int)), (26, .int .i64 0)] ⟨rfl, rfl, rfl, rfl, rfl, rfl, trivial⟩, (hp.take [0, 1, 2, 3] 4 (by decide) (by simp)), Nat.zero_le _⟩ ?_
        rintro _ _ W_5 ⟨r, j, Aj6, nj6, cj6, Fj6, rfl, rfl, hp, hj⟩
        obtain ⟨rfl, hccj6⟩ := row_len (hp.at_ 0 _ (by rfl))
        have hal := opnA_len s.ar i j
        refine wp_seq ?_
        refine sx_region ?_
        refine sx_rd 27 (.bool (decide ((j : Int) < (s.ar.length : Int)))) (by rfl) (by kernel_rfl) ?_
        refine sx_nil ?_
        refine ex_then_n ?_
        refine wp_seq ?_
        refine sx_cond (decide ((j : Int) < (s.ar.length : Int))) (by rfl) (fun c_6 => ?_) (fun c_6 => ?_)
        ·
          have c_6p := of_decide_eq_true c_6
          refine wp_skip ?_
          refine ex_then_n ?_
          refine wp_seq ?_
          refine wp_block ?_
          refine wp_seq ?_
          refine sx_region ?_
          refine sx_rd 28 (.pointer (some (adr A1 (j : Int) 3))) (by rfl) (ix_run (d := k85) (row_C (hp.at_ 2 _ (by rfl))) (t := 67) (by rfl) (by rfl) (by rfl) Try.underlying67 (by kernel_rfl) (by omega) (by omega)) ?_
          refine sx_rd 29 (.agg #[.int .i64 ((rd_Arm s.ar (j : Int)).f0), .bool ((rd_Arm s.ar (j : Int)).f1), .bool ((rd_Arm s.ar (j : Int)).f2)]) (by rfl) (el_run (d := k85) (row_C (hp.at_ 2 _ (by rfl))) z85 (j : Int) (by omega) (by omega) (cells := [.int .i64 ((rd_Arm s.ar (j : Int)).f0), .bool ((rd_Arm s.ar (j : Int)).f1), .bool ((rd_Arm s.ar (j : Int)).f2)]) (fun cs h => k85_open h) 0 [.int .i64 ((rd_Arm s.ar (j : Int)).f0), .bool ((rd_Arm s.ar (j : Int)).f1), .bool ((rd_Arm s.ar (j : Int)).f2)] (by rfl) (t := 85) (p := (.tmp 28)) (by rfl) (by rfl) (by kernel_rfl) (by kernel_rfl)) ?_
          refine sx_box 9 hp #[.int .i64 0, .bool false, .bool false] 85 (by rfl) (fun W => by kernel_rfl) ?_
          intro g_7 W_8 hp
          refine sx_store (t := 85) (p := (.tmp 9)) (x := (.tmp 29)) (by rfl) (by rfl) 0 (by rfl) 0 [.int .i64 ((rd_Arm s.ar (j : Int)).f0), .bool ((rd_Arm s.ar (j : Int)).f1), .bool ((rd_Arm s.ar (j : Int)).f2)] (by rfl) (by rfl) (by kernel_rfl) (by simp [Value.oneCell']) (by show 3 ≤ 3; omega) #[.int .i64 ((rd_Arm s.ar (j : Int)).f0), .bool ((rd_Arm s.ar (j : Int)).f1), .bool ((rd_Arm s.ar (j : Int)).f2)] (by rfl) hp ?_
          intro W_9 hp; simp only [List.set_cons_succ, List.set_cons_zero] at hp
          refine sx_nil ?_
          refine ex_then_n ?_
          refine wp_seq ?_
          rcases Bool.eq_false_or_eq_true ((rd_Arm s.ar (j : Int)).f0 == (i : Int)) with c_10 | c_10
          ·
            have c_10p := eq_of_beq_ c_10
            refine sx_region ?_
            refine sx_rd 30 (.pointer (some ⟨g_7, 0, none⟩)) (by rfl) (by kernel_rfl) ?_
            refine sx_rd 31 (.int .i64 ((rd_Arm s.ar (j : Int)).f0)) (by rfl) (ld1 (t := 3) (p := (.tmp 30)) (by rfl) (by rfl) (by kernel_rfl) (hp.cell 0 (by rfl) 0 _ (by rfl))) ?_
            refine sx_rd 32 (.int .i64 (i : Int)) (by rfl) (by kernel_rfl) ?_
            refine sx_rd 33 (.bool true) (by rfl) (bv c_10 (by kernel_rfl)) ?_
            refine sx_rd 34 (.bool true) (by rfl) (by kernel_rfl) ?_
            refine sx_want (by rfl) ?_
            refine sx_rd 35 (.slice Aj6 ((opnA s.ar i j).length) cj6) (by rfl) (by kernel_rfl) ?_
            refine sx_want (by rfl) ?_
            refine sx_rd 36 (.int .i64 (i : Int)) (by rfl) (by kernel_rfl) ?_
            refine sx_want (by rfl) ?_
            obtain ⟨k_11, hk_k_11⟩ := Ev.rounds (has_ev (opnA s.ar i j) (by have := opnA_len s.ar i j; omega) (i : Int))
            refine sx_call 37 (by rfl) (by kernel_rfl) ((spec_l1Has.calls k_11 Aj6 cj6 (opnA s.ar i j) (i : Int) _ _ (row_C (hp.at_ 1 _ (by rfl))) (row_len (hp.at_ 1 _ (by rfl))).2 hk_k_11).mono ?_)
            rintro _ W_12 ⟨rfl, hb⟩
            refine ⟨_, rfl, ?_⟩
            replace hp := hp.below hb.below
            clear hb
            refine sx_want (by rfl) ?_
            refine sx_rd 38 (.bool (!(decide ((i : Int) ∈ (opnA s.ar i j))))) (by rfl) (by kernel_rfl) ?_
            refine sx_rd 39 (.bool (!(decide ((i : Int) ∈ (opnA s.ar i j))))) (by rfl) (by kernel_rfl) ?_
            refine sx_nil ?_
            refine ex_then_n ?_
            refine sx_cond (!(decide ((i : Int) ∈ (opnA s.ar i j)))) (by rfl) (fun c_13 => ?_) (fun c_13 => ?_)
            ·
              refine sx_region ?_
              refine sx_rd 40 (.slice Aj6 ((opnA s.ar i j).length) cj6) (by rfl) (by kernel_rfl) ?_
              refine sx_rd 41 (.int .i64 (i : Int)) (by rfl) (by kernel_rfl) ?_
              refine sx_lit 42 (by rfl) (Kd.int .i64) w.heap.size 3 ([(i : Int)]) [.int .i64 (i : Int)] (fun W => by kernel_rfl) (Reps.snoc (cs := []) (Reps.none _ _) rfl rfl) (by simp) hp.size hp ?_
              intro g_14 F_15 W_16 hp hz; clear hz
              refine sx_append 43 (by rfl) (Kd.int .i64) 2 (by rfl) (.int .i64 0) 8 (by rfl) Try.underlying30 (by kernel_rfl) rfl (by decide) (by decide) ([(i : Int)]) (by rfl) (by rfl) (row_C (hp.at_ 0 _ (by rfl))) (fun x cs h => h) hp.size (by simp; omega) hp ?_
              intro A_17 c_18 F_19 W_20 hp hz; clear hz; simp only [List.set_cons_succ, List.set_cons_zero] at hp
              refine sx_rd 6 (.slice A_17 (((opnA s.ar i j) ++ [(i : Int)]).length) c_18) (by rfl) (by kernel_rfl) ?_
              refine sx_nil ?_
              refine ex_blk_n ?_
              refine ex_then_n ?_
              refine sx_region ?_
              refine sx_rd 44 (.int .i64 ((j : Int) + 1)) (by rfl) (wr_ok (by omega) (by kernel_rfl)) ?_
              refine sx_rd 26 (.int .i64 ((j : Int) + 1)) (by rfl) (by kernel_rfl) ?_
              refine sx_nil ?_
              refine ex_then_n ?_
              have hq_21 : ((opnA s.ar i j) ++ [(i : Int)]) = (opnA s.ar i (j + 1)) := opnA_new s.ar i j (by omega) c_10 (not_eq c_13)
              rw [hq_21] at hp
              exact ⟨_, (by omega), _, (j + 1), _, _, _, _, rfl, fr_front [(4, .pointer (some ⟨g, 0, none⟩)), (6, .slice A_17 ((opnA s.ar i (j + 1)).length) c_18), (7, .int .i64 (i : Int)), (24, .slice A1 s.ar.length c1), (25, .int .i64 (s.ar.length : Int)), (26, .int .i64 ((j + 1 : Nat) : Int))] ⟨rfl, congrArg (fun z : List Int => Value.slice A_17 z.length c_18) hq_21, rfl, rfl, rfl, rfl, trivial⟩, (hp.take [2, 3, 4, 5] 6 (by decide) (by simp)), (by omega)⟩
            ·
              refine wp_skip ?_
              refine ex_blk_n ?_
              refine ex_then_n ?_
              refine sx_region ?_
              refine sx_rd 44 (.int .i64 ((j : Int) + 1)) (by rfl) (wr_ok (by omega) (by kernel_rfl)) ?_
              refine sx_rd 26 (.int .i64 ((j : Int) + 1)) (by rfl) (by kernel_rfl) ?_
              refine sx_nil ?_
              refine ex_then_n ?_
              have hq_22 : (opnA s.ar i j) = (opnA s.ar i (j + 1)) := opnA_old s.ar i j (by omega) c_10 (not_eq c_13)
              rw [hq_22] at hp
              exact ⟨_, (by omega), _, (j + 1), _, _, _, _, rfl, fr_front [(4, .pointer (some ⟨g, 0, none⟩)), (6, .slice Aj6 ((opnA s.ar i (j + 1)).length) cj6), (7, .int .i64 (i : Int)), (24, .slice A1 s.ar.length c1), (25, .int .i64 (s.ar.length : Int)), (26, .int .i64 ((j + 1 : Nat) : Int))] ⟨rfl, congrArg (fun z : List Int => Value.slice Aj6 z.length cj6) hq_22, rfl, rfl, rfl, rfl, trivial⟩, (hp.take [1, 2, 3, 4] 5 (by decide) (by simp)), (by omega)⟩
          ·
            have c_10p := ne_of_beq_ c_10
            refine sx_region ?_
            refine sx_rd 30 (.pointer (some ⟨g_7, 0, none⟩)) (by rfl) (by kernel_rfl) ?_
            refine sx_rd 31 (.int .i64 ((rd_Arm s.ar (j : Int)).f0)) (by rfl) (ld1 (t := 3) (p := (.tmp 30)) (by rfl) (by rfl) (by kernel_rfl) (hp.cell 0 (by rfl) 0 _ (by rfl))) ?_
            refine sx_rd 32 (.int .i64 (i : Int)) (by rfl) (by kernel_rfl) ?_
            refine sx_rd 33 (.bool false) (by rfl) (bv c_10 (by kernel_rfl)) ?_
            refine sx_rd 34 (.bool false) (by rfl) (by kernel_rfl) ?_
            refine sx_skip 35 (by rfl) (by rfl) (by rfl) ?_
            refine sx_skip 36 (by rfl) (by rfl) (by rfl) ?_
            refine sx_skip 37 (by rfl) (by rfl) (by rfl) ?_
            refine sx_skip 38 (by rfl) (by rfl) (by rfl) ?_
            refine sx_rd 39 (.bool false) (by rfl) (by kernel_rfl) ?_
            refine sx_nil ?_
            refine ex_then_n ?_
            refine sx_else false (by rfl) rfl ?_
            refine wp_skip ?_
            refine ex_blk_n ?_
            refine ex_then_n ?_
            refine sx_region ?_
            refine sx_rd 44 (.int .i64 ((j : Int) + 1)) (by rfl) (wr_ok (by omega) (by kernel_rfl)) ?_
            refine sx_rd 26 (.int .i64 ((j : Int) + 1)) (by rfl) (by kernel_rfl) ?_
            refine sx_nil ?_
            refine ex_then_n ?_
            have hq_23 : (opnA s.ar i j) = (opnA s.ar i (j + 1)) := opnA_no s.ar i j (by omega) c_10
            rw [hq_23] at hp
            exact ⟨_, (by omega), _, (j + 1), _, _, _, _, rfl, fr_front [(4, .pointer (some ⟨g, 0, none⟩)), (6, .slice Aj6 ((opnA s.ar i (j + 1)).length) cj6), (7, .int .i64 (i : Int)), (24, .slice A1 s.ar.length c1), (25, .int .i64 (s.ar.length : Int)), (26, .int .i64 ((j + 1 : Nat) : Int))] ⟨rfl, congrArg (fun z : List Int => Value.slice Aj6 z.length cj6) hq_23, rfl, rfl, rfl, rfl, trivial⟩, (hp.take [1, 2, 3, 4] 5 (by decide) (by simp)), (by omega)⟩
        ·
          have c_6p := of_decide_eq_false c_6
          refine wp_exit ?_
          refine ex_then_e (ex_then_e (ex_blk_here ?_))
          refine ex_blk_n ?_
          refine ex_then_n ?_
          refine sx_region ?_
          refine sx_rd 19 (.int .i64 (i : Int)) (by rfl) (by kernel_rfl) ?_
          refine sx_rd 20 (.int .i64 ((i : Int) + 1)) (by rfl) (wr_ok (by omega) (by kernel_rfl)) ?_
          refine sx_rd 7 (.int .i64 ((i : Int) + 1)) (by rfl) (by kernel_rfl) ?_
          refine sx_nil ?_
          refine ex_then_n ?_
          have hq_24 : (opnA s.ar i j) = (opn s.ar (i + 1)) := by rw [show j = s.ar.length by omega]; exact opnA_all s.ar i
          rw [hq_24] at hp
          exact ⟨_, (by omega), _, (i + 1), _, _, _, _, rfl, fr_front [(4, .pointer (some ⟨g, 0, none⟩)), (6, .slice Aj6 ((opn s.ar (i + 1)).length) cj6), (7, .int .i64 ((i + 1 : Nat) : Int))] ⟨rfl, congrArg (fun z : List Int => Value.slice Aj6 z.length cj6) hq_24, rfl, trivial⟩, (hp.take [0, 1, 2, 3] 4 (by decide) (by simp)), (by omega)⟩
      ·
        have c_3p := of_decide_eq_false c_3
        refine wp_exit ?_
        refine ex_then_e (ex_then_e (ex_blk_here ?_))
        refine ex_then_n ?_
        refine wp_seq ?_
        refine sx_region ?_
        refine sx_rd 45 (.slice Ai6 ((opn s.ar i).length) ci6) (by rfl) (by kernel_rfl) ?_
        refine sx_rd 2 (.slice Ai6 ((opn s.ar i).length) ci6) (by rfl) (by kernel_rfl) ?_
        refine sx_rd 3 (.bool true) (by rfl) (by kernel_rfl) ?_
        refine sx_nil ?_
        refine ex_then_n ?_
        refine wp_ret ?_
        refine sx_end (.tuple #[.slice Ai6 ((opn s.ar i).length) ci6, .bool true]) (res2 2 3 (by rfl)) ?_
        obtain rfl : i = 10 := by omega
        exact ⟨_, rfl, Kd.R_mono (row_R (hp.at_ 0 _ (by rfl))) (fun _ _ => trivial), hc2 _ (hp.tail.tail.tail.tail)⟩
  · rw [if_neg hsz] at h
    cases h
end Go.Proofs.Ytlphnpinpflaaaa.Hd
