/- impl.OpenNumbers, by hand. -/
import Derived.Test.YtlphnpinpflaaaaMSpreadOf
import Derived.Test.YtlphnpinpflaaaaMSortI
import Derived.Test.YtlphnpinpflaaaaMSx2
namespace Go.Proofs.Ytlphnpinpflaaaa.Hd
open Go.RowKit Go.Proofs.Ytlphnpinpflaaaa.Pure Go.Proofs.YtlphnpinpflaaaaW.PrintWords Go.Proofs.YtlphnpinpflaaaaW.PrintLast Go.Proofs.YtlphnpinpflaaaaW.PrintMore
set_option linter.unusedVariables false
set_option linter.unusedSimpArgs false
theorem ends_next (l : List S_Arm) (i : Nat) (h : i < l.length) : ((l.take i).map (fun a => a.f0)) ++ [(rd_Arm l (i : Int)).f0] = ((l.take (i + 1)).map (fun a => a.f0)) := by
  rw [List.take_succ_eq_append_getElem h, List.map_append]
  simp [rd_Arm, h]
def impl_OpenNumbers.f (l : List S_Play) : Option (List Int × Bool) := if l.length ≤ 8388608 then (match spReadF l with | some s => some (Lib.compact (sortI (s.ar.map (fun a => a.f0))), true) | none => some ([], false)) else none
set_option maxRecDepth 100000 in
set_option maxHeartbeats 40000000 in
theorem impl_OpenNumbers.calls (A0 : Option Addr) (c0 : Nat) (l0 : List S_Play) (r0 : List Int) (r1 : Bool) (w : World) (hr0 : Kd.C k53 w A0 l0.length l0) (hc0 : l0.length ≤ c0) (h : impl_OpenNumbers.f l0 = some (r0, r1)) :
    Calls Try.prog 29 #[.slice A0 l0.length c0] w fun e w' => ∃ v0_ : Value, e = .returned (.tuple #[v0_, .bool r1]) ∧ Kd.R (Kd.int .i64) 3 w' w.heap.size (fun _ => True) v0_ r0 ∧ Below w.heap.size w w' := by
  unfold impl_OpenNumbers.f at h
  by_cases hsz : l0.length ≤ 8388608
  · rw [if_pos hsz] at h
    have hlen : l0.length ≤ 8388608 := hsz
    obtain ⟨cs, hcs⟩ : ∃ cs, cs = [old w w.heap.size] := ⟨_, rfl⟩
    have hp : Hp w cs w := by rw [hcs]; exact Hp.old_start w
    have hc2 : ∀ W, Hp w cs W → Below w.heap.size w W := fun W h => by rw [hcs] at h; exact h.since 0 _ rfl
    have hC0 : ∀ W, Hp w cs W → Kd.C k53 W A0 l0.length l0 := fun W h => Kd.C_below hr0 (hc2 W h)
    clear hcs
    have hC := hC0
    cases hf : spReadF l0 with
    | none =>
      rw [hf] at h; simp only [Option.some.injEq, Prod.mk.injEq] at h; obtain ⟨rfl, rfl⟩ := h
      refine sx_enter (N := 34) (l := [.slice A0 l0.length c0]) Try.func29 rfl rfl rfl ?_
      refine wp_seq ?_
      refine sx_region ?_
      refine sx_rd 2 (.slice none 0 0) (by rfl) (by kernel_rfl) ?_
      refine sx_rd 3 (.bool false) (by rfl) (by kernel_rfl) ?_
      refine sx_nil ?_
      refine ex_then_n ?_
      refine wp_seq ?_
      refine sx_region ?_
      refine sx_rd 10 (.slice A0 l0.length c0) (by rfl) (by kernel_rfl) ?_
      refine sx_call 11 (by rfl) (by kernel_rfl) ((impl_spreadOf.calls A0 c0 l0 _ _ _ _ _ _ _ (hC0 _ hp) hc0 (show impl_spreadOf.f l0 = some ([], [], 0, false, false, false) by unfold impl_spreadOf.f; rw [hf])).mono ?_)
      rintro _ W_11 ⟨v_3, v_4, rfl, hR_1, hR_2, hb⟩
      refine ⟨_, rfl, ?_⟩
      obtain ⟨A_5, c_6, rfl, hcc_c_6, _⟩ := Kd.R_reads hR_1
      obtain ⟨A_8, c_9, rfl, hcc_c_9, _⟩ := Kd.R_reads hR_2
      obtain ⟨F_7, F_10, hp⟩ : ∃ F_7 F_10, Hp w (row k85 85 w.heap.size (.slice A_5 ([] : List S_Arm).length c_6) ([] : List S_Arm) F_7 :: row k51 51 w.heap.size (.slice A_8 ([] : List S_Tile).length c_9) ([] : List S_Tile) F_10 :: cs) _ := ⟨_, _, Hp.made2 hp hb rfl rfl hR_1 hR_2 (typed_apart hR_1 hR_2 (by decide))⟩
      refine sx_rd 9 (.tuple #[.agg #[.slice A_5 (([] : List S_Arm).length) c_6, .slice A_8 (([] : List S_Tile).length) c_9, .int .i64 0, .bool false, .bool false], .bool false]) (by rfl) (by kernel_rfl) ?_
      refine sx_rd 12 (.agg #[.slice A_5 (([] : List S_Arm).length) c_6, .slice A_8 (([] : List S_Tile).length) c_9, .int .i64 0, .bool false, .bool false]) (by rfl) (by kernel_rfl) ?_
      refine sx_rd 13 (.bool false) (by rfl) (by kernel_rfl) ?_
      refine sx_box 4 hp #[.slice none 0 0, .slice none 0 0, .int .i64 0, .bool false, .bool false] 70 (by rfl) (fun W => by kernel_rfl) ?_
      intro g_12 W_13 hp
      refine sx_store (t := 70) (p := (.tmp 4)) (x := (.tmp 12)) (by rfl) (by rfl) 0 (by rfl) 0 [.slice A_5 (([] : List S_Arm).length) c_6, .slice A_8 (([] : List S_Tile).length) c_9, .int .i64 0, .bool false, .bool false] (by rfl) (by rfl) (by kernel_rfl) (by simp [Value.oneCell']) (by show 5 ≤ 5; omega) #[.slice A_5 (([] : List S_Arm).length) c_6, .slice A_8 (([] : List S_Tile).length) c_9, .int .i64 0, .bool false, .bool false] (by rfl) hp ?_
      intro W_14 hp; simp only [List.set_cons_succ, List.set_cons_zero] at hp
      refine sx_rd 5 (.bool false) (by rfl) (by kernel_rfl) ?_
      refine sx_nil ?_
      refine ex_then_n ?_
      refine wp_seq ?_
      refine wp_seq ?_
      refine sx_region ?_
      refine sx_rd 14 (.bool false) (by rfl) (by kernel_rfl) ?_
      refine sx_rd 15 (.bool true) (by rfl) (by kernel_rfl) ?_
      refine sx_nil ?_
      refine ex_then_n ?_
      refine sx_then true (by rfl) rfl ?_
      refine wp_seq ?_
      refine sx_region ?_
      refine sx_rd 2 (.slice none 0 0) (by rfl) (by kernel_rfl) ?_
      refine sx_rd 3 (.bool false) (by rfl) (by kernel_rfl) ?_
      refine sx_nil ?_
      refine ex_then_n ?_
      refine wp_ret ?_
      refine ex_then_r ?_
      refine sx_end (.tuple #[.slice none 0 0, .bool false]) (res2 2 3 (by rfl)) ?_
      exact ⟨_, rfl, Kd.R_nil _ _ _ _ _, hc2 _ (hp.tail.tail.tail)⟩
    | some s =>
      rw [hf] at h; simp only [Option.some.injEq, Prod.mk.injEq] at h; obtain ⟨rfl, rfl⟩ := h
      have hok := spOk_fold _ _ _ _ spOk_start hf
      rw [Nat.zero_add] at hok
      have har := hok.ar
      have hle := hok.le
      refine sx_enter (N := 34) (l := [.slice A0 l0.length c0]) Try.func29 rfl rfl rfl ?_
      refine wp_seq ?_
      refine sx_region ?_
      refine sx_rd 2 (.slice none 0 0) (by rfl) (by kernel_rfl) ?_
      refine sx_rd 3 (.bool false) (by rfl) (by kernel_rfl) ?_
      refine sx_nil ?_
      refine ex_then_n ?_
      refine wp_seq ?_
      refine sx_region ?_
      refine sx_rd 10 (.slice A0 l0.length c0) (by rfl) (by kernel_rfl) ?_
      refine sx_call 11 (by rfl) (by kernel_rfl) ((impl_spreadOf.calls A0 c0 l0 _ _ _ _ _ _ _ (hC0 _ hp) hc0 (show impl_spreadOf.f l0 = some (s.ar, s.ti, s.sp, s.w0, s.w1, true) by unfold impl_spreadOf.f; rw [hf])).mono ?_)
      rintro _ W_11 ⟨v_3, v_4, rfl, hR_1, hR_2, hb⟩
      refine ⟨_, rfl, ?_⟩
      obtain ⟨A_5, c_6, rfl, hcc_c_6, _⟩ := Kd.R_reads hR_1
      obtain ⟨A_8, c_9, rfl, hcc_c_9, _⟩ := Kd.R_reads hR_2
      obtain ⟨F_7, F_10, hp⟩ : ∃ F_7 F_10, Hp w (row k85 85 w.heap.size (.slice A_5 s.ar.length c_6) s.ar F_7 :: row k51 51 w.heap.size (.slice A_8 s.ti.length c_9) s.ti F_10 :: cs) _ := ⟨_, _, Hp.made2 hp hb rfl rfl hR_1 hR_2 (typed_apart hR_1 hR_2 (by decide))⟩
      refine sx_rd 9 (.tuple #[.agg #[.slice A_5 s.ar.length c_6, .slice A_8 s.ti.length c_9, .int .i64 s.sp, .bool s.w0, .bool s.w1], .bool true]) (by rfl) (by kernel_rfl) ?_
      refine sx_rd 12 (.agg #[.slice A_5 s.ar.length c_6, .slice A_8 s.ti.length c_9, .int .i64 s.sp, .bool s.w0, .bool s.w1]) (by rfl) (by kernel_rfl) ?_
      refine sx_rd 13 (.bool true) (by rfl) (by kernel_rfl) ?_
      refine sx_box 4 hp #[.slice none 0 0, .slice none 0 0, .int .i64 0, .bool false, .bool false] 70 (by rfl) (fun W => by kernel_rfl) ?_
      intro g_12 W_13 hp
      refine sx_store (t := 70) (p := (.tmp 4)) (x := (.tmp 12)) (by rfl) (by rfl) 0 (by rfl) 0 [.slice A_5 s.ar.length c_6, .slice A_8 s.ti.length c_9, .int .i64 s.sp, .bool s.w0, .bool s.w1] (by rfl) (by rfl) (by kernel_rfl) (by simp [Value.oneCell']) (by show 5 ≤ 5; omega) #[.slice A_5 s.ar.length c_6, .slice A_8 s.ti.length c_9, .int .i64 s.sp, .bool s.w0, .bool s.w1] (by rfl) hp ?_
      intro W_14 hp; simp only [List.set_cons_succ, List.set_cons_zero] at hp
      refine sx_rd 5 (.bool true) (by rfl) (by kernel_rfl) ?_
      refine sx_nil ?_
      refine ex_then_n ?_
      refine wp_seq ?_
      refine wp_seq ?_
      refine sx_region ?_
      refine sx_rd 14 (.bool true) (by rfl) (by kernel_rfl) ?_
      refine sx_rd 15 (.bool false) (by rfl) (by kernel_rfl) ?_
      refine sx_nil ?_
      refine ex_then_n ?_
      refine sx_else false (by rfl) rfl ?_
      refine wp_skip ?_
      refine ex_then_n ?_
      refine wp_seq ?_
      refine sx_region ?_
      refine sx_lit 16 (by rfl) (Kd.int .i64) w.heap.size 3 ([] : List Int) [] (fun W => by kernel_rfl) (Reps.none _ _) (by simp) hp.size hp ?_
      intro g_15 F_16 W_17 hp hz; clear hz
      refine sx_rd 6 (.slice (some ⟨g_15, 0, none⟩) (([] : List Int).length) (([] : List Int).length)) (by rfl) (by kernel_rfl) ?_
      refine sx_nil ?_
      refine ex_then_n ?_
      refine wp_seq ?_
      refine wp_seq ?_
      refine sx_region ?_
      refine sx_rd 17 (.pointer (some ⟨g_12, 0, none⟩)) (by rfl) (by kernel_rfl) ?_
      refine sx_rd 18 (.slice A_5 s.ar.length c_6) (by rfl) (ld1 (t := 67) (p := (.tmp 17)) (by rfl) (by rfl) (by kernel_rfl) (hp.cell 1 (by rfl) 0 _ (by rfl))) ?_
      refine sx_rd 19 (.int .i64 (s.ar.length : Int)) (by rfl) (by kernel_rfl) ?_
      refine sx_rd 20 (.int .i64 0) (by rfl) (by kernel_rfl) ?_
      refine sx_nil ?_
      refine ex_then_n ?_
      refine wp_block ?_
      refine wp_loop_ghost (fun n a W => ∃ (r : List (Nat × Value)) (i : Nat) (Ai6 : Option Addr) (ni6 ci6 : Nat) (Fi6 : Nat → Prop), n = s.ar.length - i ∧ a = fr 34 ([(6, .slice Ai6 ni6 ci6), (18, .slice A_5 s.ar.length c_6), (19, .int .i64 (s.ar.length : Int)), (20, .int .i64 (i : Int))] ++ r) ∧ Hp w (row (Kd.int .i64) 3 w.heap.size (.slice Ai6 ni6 ci6) ((s.ar.take i).map (fun a => a.f0)) Fi6 :: blk g_12 #[.slice A_5 s.ar.length c_6, .slice A_8 s.ti.length c_9, .int .i64 s.sp, .bool s.w0, .bool s.w1] 70 :: row k85 85 w.heap.size (.slice A_5 s.ar.length c_6) s.ar F_7 :: row k51 51 w.heap.size (.slice A_8 s.ti.length c_9) s.ti F_10 :: cs) W ∧ (i ≤ s.ar.length)) _ ⟨_, 0, _, _, _, _, rfl, fr_front [(6, .slice (some ⟨g_15, 0, none⟩) (([] : List Int).length) (([] : List Int).length)), (18, .slice A_5 s.ar.length c_6), (19, .int .i64 (s.ar.length : Int)), (20, .int .i64 0)] ⟨rfl, rfl, rfl, rfl, trivial⟩, (hp.take [0, 1, 2, 3] 4 (by decide) (by simp)), Nat.zero_le _⟩ ?_
      rintro _ _ W_18 ⟨r, i, Ai6, ni6, ci6, Fi6, rfl, rfl, hp, hi⟩
      obtain ⟨rfl, hcci6⟩ := row_len (hp.at_ 0 _ (by rfl))
      have hol : ((s.ar.take i).map (fun a => a.f0)).length ≤ i := by simp; omega
      refine wp_seq ?_
      refine sx_region ?_
      refine sx_rd 21 (.bool (decide ((i : Int) < (s.ar.length : Int)))) (by rfl) (by kernel_rfl) ?_
      refine sx_nil ?_
      refine ex_then_n ?_
      refine wp_seq ?_
      refine sx_cond (decide ((i : Int) < (s.ar.length : Int))) (by rfl) (fun c_19 => ?_) (fun c_19 => ?_)
      ·
        have c_19p := of_decide_eq_true c_19
        refine wp_skip ?_
        refine ex_then_n ?_
        refine wp_seq ?_
        refine wp_block ?_
        refine wp_seq ?_
        refine sx_region ?_
        refine sx_rd 22 (.pointer (some (adr A_5 (i : Int) 3))) (by rfl) (ix_run (d := k85) (row_C (hp.at_ 2 _ (by rfl))) (t := 67) (by rfl) (by rfl) (by rfl) Try.underlying67 (by kernel_rfl) (by omega) (by omega)) ?_
        refine sx_rd 23 (.agg #[.int .i64 ((rd_Arm s.ar (i : Int)).f0), .bool ((rd_Arm s.ar (i : Int)).f1), .bool ((rd_Arm s.ar (i : Int)).f2)]) (by rfl) (el_run (d := k85) (row_C (hp.at_ 2 _ (by rfl))) z85 (i : Int) (by omega) (by omega) (cells := [.int .i64 ((rd_Arm s.ar (i : Int)).f0), .bool ((rd_Arm s.ar (i : Int)).f1), .bool ((rd_Arm s.ar (i : Int)).f2)]) (fun cs h => k85_open h) 0 [.int .i64 ((rd_Arm s.ar (i : Int)).f0), .bool ((rd_Arm s.ar (i : Int)).f1), .bool ((rd_Arm s.ar (i : Int)).f2)] (by rfl) (t := 85) (p := (.tmp 22)) (by rfl) (by rfl) (by kernel_rfl) (by kernel_rfl)) ?_
        refine sx_box 8 hp #[.int .i64 0, .bool false, .bool false] 85 (by rfl) (fun W => by kernel_rfl) ?_
        intro g_20 W_21 hp
        refine sx_store (t := 85) (p := (.tmp 8)) (x := (.tmp 23)) (by rfl) (by rfl) 0 (by rfl) 0 [.int .i64 ((rd_Arm s.ar (i : Int)).f0), .bool ((rd_Arm s.ar (i : Int)).f1), .bool ((rd_Arm s.ar (i : Int)).f2)] (by rfl) (by rfl) (by kernel_rfl) (by simp [Value.oneCell']) (by show 3 ≤ 3; omega) #[.int .i64 ((rd_Arm s.ar (i : Int)).f0), .bool ((rd_Arm s.ar (i : Int)).f1), .bool ((rd_Arm s.ar (i : Int)).f2)] (by rfl) hp ?_
        intro W_22 hp; simp only [List.set_cons_succ, List.set_cons_zero] at hp
        refine sx_nil ?_
        refine ex_then_n ?_
        refine sx_region ?_
        refine sx_rd 24 (.slice Ai6 (((s.ar.take i).map (fun a => a.f0)).length) ci6) (by rfl) (by kernel_rfl) ?_
        refine sx_rd 25 (.pointer (some ⟨g_20, 0, none⟩)) (by rfl) (by kernel_rfl) ?_
        refine sx_rd 26 (.int .i64 ((rd_Arm s.ar (i : Int)).f0)) (by rfl) (ld1 (t := 3) (p := (.tmp 25)) (by rfl) (by rfl) (by kernel_rfl) (hp.cell 0 (by rfl) 0 _ (by rfl))) ?_
        refine sx_lit 27 (by rfl) (Kd.int .i64) w.heap.size 3 ([(rd_Arm s.ar (i : Int)).f0]) [.int .i64 ((rd_Arm s.ar (i : Int)).f0)] (fun W => by kernel_rfl) (Reps.snoc (cs := []) (Reps.none _ _) rfl rfl) (by simp) hp.size hp ?_
        intro g_23 F_24 W_25 hp hz; clear hz
        refine sx_append 28 (by rfl) (Kd.int .i64) 2 (by rfl) (.int .i64 0) 8 (by rfl) Try.underlying30 (by kernel_rfl) rfl (by decide) (by decide) ([(rd_Arm s.ar (i : Int)).f0]) (by rfl) (by rfl) (row_C (hp.at_ 0 _ (by rfl))) (fun x cs h => h) hp.size (by simp; omega) hp ?_
        intro A_26 c_27 F_28 W_29 hp hz; clear hz; simp only [List.set_cons_succ, List.set_cons_zero] at hp
        refine sx_rd 6 (.slice A_26 ((((s.ar.take i).map (fun a => a.f0)) ++ [(rd_Arm s.ar (i : Int)).f0]).length) c_27) (by rfl) (by kernel_rfl) ?_
        refine sx_nil ?_
        refine ex_blk_n ?_
        refine ex_then_n ?_
        refine sx_region ?_
        refine sx_rd 29 (.int .i64 ((i : Int) + 1)) (by rfl) (wr_ok (by omega) (by kernel_rfl)) ?_
        refine sx_rd 20 (.int .i64 ((i : Int) + 1)) (by rfl) (by kernel_rfl) ?_
        refine sx_nil ?_
        refine ex_then_n ?_
        have hq_30 : (((s.ar.take i).map (fun a => a.f0)) ++ [(rd_Arm s.ar (i : Int)).f0]) = ((s.ar.take (i + 1)).map (fun a => a.f0)) := ends_next s.ar i (by omega)
        rw [hq_30] at hp
        exact ⟨_, (by omega), _, (i + 1), _, _, _, _, rfl, fr_front [(6, .slice A_26 (((s.ar.take (i + 1)).map (fun a => a.f0)).length) c_27), (18, .slice A_5 s.ar.length c_6), (19, .int .i64 (s.ar.length : Int)), (20, .int .i64 ((i + 1 : Nat) : Int))] ⟨congrArg (fun z : List Int => Value.slice A_26 z.length c_27) hq_30, rfl, rfl, rfl, trivial⟩, (hp.take [2, 3, 4, 5] 6 (by decide) (by simp)), (by omega)⟩
      ·
        have c_19p := of_decide_eq_false c_19
        have hq : ((s.ar.take i).map (fun a => a.f0)) = (s.ar.map (fun a => a.f0)) := by rw [List.take_of_length_le (by omega)]
        rw [hq] at hp
        rw [hq]
        refine wp_exit ?_
        refine ex_then_e (ex_then_e (ex_blk_here ?_))
        refine ex_then_n ?_
        refine wp_seq ?_
        refine sx_region ?_
        refine sx_rd 30 (.slice Ai6 ((s.ar.map (fun a => a.f0)).length) ci6) (by rfl) (by kernel_rfl) ?_
        refine sx_call 31 (by rfl) (by kernel_rfl) ((sortI_R (row_R (hp.at_ 0 _ (by rfl))) (by simp; omega)).mono ?_)
        rintro _ W_31 ⟨rfl, hR2, hm⟩
        refine ⟨_, rfl, ?_⟩
        obtain ⟨FS, hp⟩ := Hp.turn hp hm hR2
        refine sx_nil ?_
        refine ex_then_n ?_
        refine wp_seq ?_
        refine sx_region ?_
        refine sx_rd 32 (.slice Ai6 ((s.ar.map (fun a => a.f0)).length) ci6) (by rfl) (by kernel_rfl) ?_
        refine sx_call 33 (by rfl) (by kernel_rfl) ((compactI_R (row_R (hp.at_ 0 _ (by rfl))) (by rw [sortI_len]; simp; omega)).mono ?_)
        rintro _ W_32 ⟨u, rfl, hR3, hm⟩
        refine ⟨_, rfl, ?_⟩
        obtain ⟨AK, cK, rfl, _, _⟩ := Kd.R_reads hR3
        obtain ⟨FK, hp⟩ := Hp.turn hp hm hR3
        refine sx_rd 2 (.slice AK ((Lib.compact (sortI (s.ar.map (fun a => a.f0)))).length) cK) (by rfl) (by kernel_rfl) ?_
        refine sx_rd 3 (.bool true) (by rfl) (by kernel_rfl) ?_
        refine sx_nil ?_
        refine ex_then_n ?_
        refine wp_ret ?_
        refine sx_end (.tuple #[.slice AK ((Lib.compact (sortI (s.ar.map (fun a => a.f0)))).length) cK, .bool true]) (res2 2 3 (by rfl)) ?_
        exact ⟨_, rfl, Kd.R_mono (row_R (hp.at_ 0 _ (by rfl))) (fun _ _ => trivial), hc2 _ (hp.tail.tail.tail.tail)⟩
  · rw [if_neg hsz] at h
    cases h
end Go.Proofs.Ytlphnpinpflaaaa.Hd
