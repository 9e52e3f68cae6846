/- impl.WindowSums, by hand. -/
import Derived.Test.YtbkaedmabdgdhaaPWinSumA
import Derived.Test.YtbkaedmabdgdhaaMSortI
import Derived.Test.YtbkaedmabdgdhaaMSxW
import Derived.Test.YtbkaedmabdgdhaaMSx2
namespace Go.Proofs.Ytbkaedmabdgdhaa.Hd
open Go.RowKit Go.Proofs.Ytbkaedmabdgdhaa.Pure Go.Proofs.YtbkaedmabdgdhaaW.PrintWords Go.Proofs.YtbkaedmabdgdhaaW.PrintLast Go.Proofs.YtbkaedmabdgdhaaW.PrintMore
set_option linter.unusedVariables false
set_option linter.unusedSimpArgs false
theorem rowS_at {α : Type} {di : Kd α} {ei e base n c : Nat} {A : Option Addr} {xs : List (List α)} {F : Nat → Prop} {W : World} (h : (rowS (Kd.slice ei di) e base (.slice A n c) xs F).ok W) (i : Nat) (hi : i < xs.length) :
  ∃ A' c', W.cell? (adr A (i : Int) 1) = some (.slice A' xs[i].length c') ∧ Kd.C di W A' xs[i].length xs[i] ∧ xs[i].length ≤ c' := by
 obtain ⟨h1, h2, h3⟩ := rowS_C h
 obtain ⟨ad, hA, hj⟩ := h3 (by omega)
 obtain ⟨c, hlen, hK, hcell⟩ := hj i xs[i] (List.getElem?_eq_getElem hi)
 obtain ⟨A', c', rfl, hl, hc⟩ := hK
 have hc0 := hcell 0 (.slice A' xs[i].length c') rfl
 refine ⟨A', c', ?_, hc, hl⟩
 have e : adr A (i : Int) 1 = ad.add (i * 1 + 0) := by rw [hA]; simp [adr]
 rw [e]; exact hc0
theorem sums_next (L : List (List Int)) (i : Nat) (h : i < L.length) : (L.take i).map sid0 ++ [rd (sid (rd_i64s L (i : Int))) 0] = (L.take (i + 1)).map sid0 := by
 rw [List.take_succ_eq_append_getElem h, List.map_append, rdS_at h]; rfl
def impl_WindowSums.f (l0 : List S_Tile) : Option (List Int × Bool) := if smallB l0 = true then some (Lib.compact (sortI ((winsF l0).map sid0)), true) else some ([], false)
set_option maxRecDepth 100000 in
set_option maxHeartbeats 40000000 in
theorem impl_WindowSums.calls (A0 : Option Addr) (c0 : Nat) (l0 : List S_Tile) (r0 : List Int) (r1 : Bool) (w : World) (hr0 : Kd.C k50 w A0 l0.length l0) (hc0 : l0.length ≤ c0) (h : impl_WindowSums.f l0 = some (r0, r1)) :
  Calls Try.prog 24 #[.slice A0 l0.length c0] w fun e w' => ∃ v0_ : Value, e = .returned (.tuple #[v0_, .bool r1]) ∧ Kd.R (Kd.int .i64) 3 w' w.heap.size (fun _ => True) v0_ r0 ∧ Below w.heap.size w w' := by
 unfold impl_WindowSums.f at h
 obtain ⟨cs, hcs⟩ : ∃ cs, cs = [old w w.heap.size] := ⟨_, rfl⟩
 have hp : Hp w cs w := by rw [hcs]; exact Hp.old_start w
 have hc2 : ∀ W, Hp w cs W → Below w.heap.size w W := fun W h => by rw [hcs] at h; exact h.since 0 _ rfl
 have hC0 : ∀ W, Hp w cs W → Kd.C k50 W A0 l0.length l0 := fun W h => Kd.C_below hr0 (hc2 W h)
 clear hcs
 refine sx_enter (N := 30) (l := [.slice A0 l0.length c0]) Try.func24 rfl rfl rfl ?_
 refine wp_seq ?_
 refine sx_region ?_
 refine sx_rd 2 (.slice none 0 0) (by rfl) (by kernel_rfl) ?_
 refine sx_rd 3 (.bool false) (by rfl) (by kernel_rfl) ?_
 refine sx_nil ?_
 refine ex_then_n ?_
 refine wp_seq ?_
 refine wp_seq ?_
 refine sx_region ?_
 refine sx_rd 7 (.slice A0 l0.length c0) (by rfl) (by kernel_rfl) ?_
 obtain ⟨k_1, hk_k_1⟩ := Ev.rounds (isWindowed_ev l0)
 refine sx_call 8 (by rfl) (by kernel_rfl) ((impl_isWindowed.calls k_1 A0 c0 l0 _ _ (hC0 _ hp) hc0 hk_k_1).mono ?_)
 rintro _ W_2 ⟨rfl, hb⟩
 refine ⟨_, rfl, ?_⟩
 replace hp := hp.below hb
 clear hb
 refine sx_rd 9 (.bool (!(smallB l0))) (by rfl) (by kernel_rfl) ?_
 refine sx_nil ?_
 refine ex_then_n ?_
 refine sx_cond (!(smallB l0)) (by rfl) (fun c_3 => ?_) (fun c_3 => ?_)
 ·
  refine wp_seq ?_
  refine sx_region ?_
  refine sx_rd 2 (.slice none 0 0) (by rfl) (by kernel_rfl) ?_
  refine sx_rd 3 (.bool false) (by rfl) (by kernel_rfl) ?_
  refine sx_nil ?_
  refine ex_then_n ?_
  refine wp_ret ?_
  refine ex_then_r ?_
  refine sx_end (.tuple #[.slice none 0 0, .bool false]) (res2 2 3 (by rfl)) ?_
  rw [if_neg (by have q := (not_eq c_3); simpa using q)] at h
  simp only [Option.some.injEq, Prod.mk.injEq] at h; obtain ⟨rfl, rfl⟩ := h
  exact ⟨_, rfl, Kd.R_nil _ _ _ _ _, hc2 _ (hp)⟩
 ·
  have hsm : smallB l0 = true := by have q := (not_eq c_3); simpa using q
  obtain ⟨hwl, hw8a⟩ := (windows_eq (small_of hsm).1 (small_of hsm).2).2.2
  refine wp_skip ?_
  refine ex_then_n ?_
  refine wp_seq ?_
  refine sx_region ?_
  refine sx_lit 10 (by rfl) (Kd.int .i64) w.heap.size 3 ([] : List Int) [] (fun W => by kernel_rfl) (Reps.none _ _) (by simp) hp.size hp ?_
  intro g_4 F_5 W_6 hp hz; clear hz
  refine sx_rd 4 (.slice (some ⟨g_4, 0, none⟩) (([] : List Int).length) (([] : List Int).length)) (by rfl) (by kernel_rfl) ?_
  refine sx_nil ?_
  refine ex_then_n ?_
  refine wp_seq ?_
  refine wp_seq ?_
  refine sx_region ?_
  refine sx_rd 11 (.slice A0 l0.length c0) (by rfl) (by kernel_rfl) ?_
  refine sx_call 12 (by rfl) (by kernel_rfl) ((impl_windows.calls A0 c0 l0 _ _ (hC0 _ hp.tail) hc0 ((windows_eq (small_of hsm).1 (small_of hsm).2).1)).mono ?_)
  rintro _ W_12 ⟨v_8, rfl, hR_7, hb⟩
  refine ⟨_, rfl, ?_⟩
  obtain ⟨A_9, c_10, rfl, hcc_c_10, _⟩ := Kd.S_reads hR_7
  obtain ⟨F_11, hp⟩ : ∃ F, Hp w (rowS (Kd.slice 3 (Kd.int .i64)) 39 w.heap.size (.slice A_9 (winsF l0).length c_10) (winsF l0) F :: row (Kd.int .i64) 3 w.heap.size (.slice (some ⟨g_4, 0, none⟩) (([] : List Int).length) (([] : List Int).length)) ([] : List Int) F_5 :: cs) _ := ⟨_, Hp.madeS hp hb hR_7⟩
  refine sx_rd 13 (.int .i64 ((winsF l0).length : Int)) (by rfl) (by kernel_rfl) ?_
  refine sx_rd 14 (.int .i64 0) (by rfl) (by kernel_rfl) ?_
  refine sx_nil ?_
  refine ex_then_n ?_
  refine wp_block ?_
  have e0_13 : ([] : List Int) = (((winsF l0).take 0).map sid0) := rfl
  have hp : Hp w (rowS (Kd.slice 3 (Kd.int .i64)) 39 w.heap.size (.slice A_9 ((winsF l0).length) c_10) (winsF l0) F_11 :: row (Kd.int .i64) 3 w.heap.size (.slice (some ⟨g_4, 0, none⟩) (([] : List Int).length) (([] : List Int).length)) (((winsF l0).take 0).map sid0) F_5 :: cs) W_12 := by rw [← e0_13]; exact hp
  refine wp_loop_ghost (fun n_ a_ W => ∃ (r_ : List (Nat × Value)) (i : Nat) (Ai4 : Option Addr) (ni4 ci4 : Nat) (Fi4 : Nat → Prop), n_ = (winsF l0).length - i ∧ a_ = fr 30 ([(4, .slice Ai4 ni4 ci4), (12, .slice A_9 ((winsF l0).length) c_10), (13, .int .i64 ((winsF l0).length : Int)), (14, .int .i64 (i : Int))] ++ r_) ∧ Hp w (row (Kd.int .i64) 3 w.heap.size (.slice Ai4 ni4 ci4) (((winsF l0).take i).map sid0) Fi4 :: rowS (Kd.slice 3 (Kd.int .i64)) 39 w.heap.size (.slice A_9 ((winsF l0).length) c_10) (winsF l0) F_11 :: cs) W ∧ (i ≤ (winsF l0).length)) _ ⟨_, 0, _, _, _, _, rfl, fr_front [(4, .slice (some ⟨g_4, 0, none⟩) (([] : List Int).length) (([] : List Int).length)), (12, .slice A_9 ((winsF l0).length) c_10), (13, .int .i64 ((winsF l0).length : Int)), (14, .int .i64 0)] ⟨rfl, rfl, rfl, rfl, trivial⟩, (hp.take [1, 0] 2 (by decide) (by simp)), Nat.zero_le _⟩ ?_
  rintro _ _ W_14 ⟨r_, i, Ai4, ni4, ci4, Fi4, rfl, rfl, hp, hi⟩
  obtain ⟨rfl, hcci4⟩ := row_len (hp.at_ 0 _ (by rfl))
  have hol : ((((winsF l0).take i).map sid0)).length ≤ i := by simp; omega
  refine wp_seq ?_
  refine sx_region ?_
  refine sx_rd 15 (.bool (decide ((i : Int) < ((winsF l0).length : Int)))) (by rfl) (by kernel_rfl) ?_
  refine sx_nil ?_
  refine ex_then_n ?_
  refine wp_seq ?_
  refine sx_cond (decide ((i : Int) < ((winsF l0).length : Int))) (by rfl) (fun c_15 => ?_) (fun c_15 => ?_)
  ·
   have c_15p := of_decide_eq_true c_15
   have hmem : (rd_i64s (winsF l0) (i : Int)) ∈ (winsF l0) := by rw [rdS_at (show i < (winsF l0).length by omega)]; exact List.getElem_mem _
   have hw8 := hw8a _ hmem
   have hw9 := wins_all l0 _ hmem
   have hsl := sid_len (rd_i64s (winsF l0) (i : Int))
   obtain ⟨Ah, ch, hHc, hHC, hHl⟩ : ∃ A' c', W_14.cell? (adr A_9 (i : Int) 1) = some (.slice A' (rd_i64s (winsF l0) (i : Int)).length c') ∧ Kd.C (Kd.int .i64) W_14 A' (rd_i64s (winsF l0) (i : Int)).length (rd_i64s (winsF l0) (i : Int)) ∧ (rd_i64s (winsF l0) (i : Int)).length ≤ c' := by rw [rdS_at (show i < (winsF l0).length by omega)]; exact rowS_at (hp.at_ 1 _ (by rfl)) i (by omega)
   refine wp_skip ?_
   refine ex_then_n ?_
   refine wp_seq ?_
   refine wp_block ?_
   refine wp_seq ?_
   refine sx_region ?_
   refine sx_rd 16 (.pointer (some (adr A_9 (i : Int) 1))) (by rfl) (ix_run (d := (Kd.slice 3 (Kd.int .i64))) (rowS_C (hp.at_ 1 _ (by rfl))) (t := 30) (by rfl) (by rfl) (by rfl) Try.underlying30 (by kernel_rfl) (by omega) (by omega)) ?_
   refine sx_rd 17 (.slice Ah ((rd_i64s (winsF l0) (i : Int)).length) ch) (by rfl) (ld1 (t := 39) (p := (.tmp 16)) (by rfl) (by rfl) (by kernel_rfl) hHc) ?_
   refine sx_rd 6 (.slice Ah ((rd_i64s (winsF l0) (i : Int)).length) ch) (by rfl) (by kernel_rfl) ?_
   refine sx_nil ?_
   refine ex_then_n ?_
   refine sx_region ?_
   refine sx_rd 18 (.slice Ai4 ((((winsF l0).take i).map sid0).length) ci4) (by rfl) (by kernel_rfl) ?_
   refine sx_rd 19 (.slice Ah ((rd_i64s (winsF l0) (i : Int)).length) ch) (by rfl) (by kernel_rfl) ?_
   obtain ⟨k_16, hk_k_16⟩ := Ev.rounds (sides_ev (rd_i64s (winsF l0) (i : Int)) hw8 hw9)
   refine sx_call 20 (by rfl) (by kernel_rfl) ((impl_sides.calls k_16 Ah ch (rd_i64s (winsF l0) (i : Int)) _ _ hHC hHl hk_k_16).mono ?_)
   rintro _ W_22 ⟨v_18, rfl, hR_17, hb⟩
   refine ⟨_, rfl, ?_⟩
   obtain ⟨A_19, c_20, rfl, hcc_c_20, _⟩ := Kd.R_reads hR_17
   obtain ⟨F_21, hp⟩ : ∃ F, Hp w (row (Kd.int .i64) 3 w.heap.size (.slice A_19 (sid (rd_i64s (winsF l0) (i : Int))).length c_20) (sid (rd_i64s (winsF l0) (i : Int))) F :: row (Kd.int .i64) 3 w.heap.size (.slice Ai4 ((((winsF l0).take i).map sid0).length) ci4) (((winsF l0).take i).map sid0) Fi4 :: rowS (Kd.slice 3 (Kd.int .i64)) 39 w.heap.size (.slice A_9 ((winsF l0).length) c_10) (winsF l0) F_11 :: cs) _ := ⟨_, Hp.made hp hb hR_17⟩
   refine sx_rd 21 (.pointer (some (adr A_19 0 1))) (by rfl) (ix_run (d := (Kd.int .i64)) (row_C (hp.at_ 0 _ (by rfl))) (t := 39) (by rfl) (by rfl) (by rfl) Try.underlying39 (by kernel_rfl) (by omega) (by omega)) ?_
   refine sx_rd 22 (.int .i64 (rd (sid (rd_i64s (winsF l0) (i : Int))) 0)) (by rfl) (ld1 (t := 3) (p := (.tmp 21)) (by rfl) (by rfl) (by kernel_rfl) (el_cell (d := (Kd.int .i64)) (row_C (hp.at_ 0 _ (by rfl))) 0 0 (by omega) (by omega) (cells := [.int .i64 (rd (sid (rd_i64s (winsF l0) (i : Int))) 0)]) (fun cs h => h) 0 _ (by rfl))) ?_
   refine sx_lit 23 (by rfl) (Kd.int .i64) w.heap.size 3 ([(rd (sid (rd_i64s (winsF l0) (i : Int))) 0)]) [.int .i64 (rd (sid (rd_i64s (winsF l0) (i : Int))) 0)] (fun W => by kernel_rfl) (Reps.snoc (cs := []) (Reps.none _ _) rfl rfl) (by simp) hp.size hp ?_
   intro g_23 F_24 W_25 hp hz; clear hz
   refine sx_append 24 (by rfl) (Kd.int .i64) 2 (by rfl) (.int .i64 0) 8 (by rfl) Try.underlying39 (by kernel_rfl) rfl (by decide) (by decide) ([(rd (sid (rd_i64s (winsF l0) (i : Int))) 0)]) (by rfl) (by rfl) (row_C (hp.at_ 0 _ (by rfl))) (fun x cs h => h) hp.size (by first | omega | (simp; done) | (simp; omega)) hp ?_
   intro A_26 c_27 F_28 W_29 hp hz; clear hz; simp only [List.set_cons_succ, List.set_cons_zero] at hp
   refine sx_rd 4 (.slice A_26 (((((winsF l0).take i).map sid0) ++ [(rd (sid (rd_i64s (winsF l0) (i : Int))) 0)]).length) c_27) (by rfl) (by kernel_rfl) ?_
   refine sx_nil ?_
   refine ex_blk_n ?_
   refine ex_then_n ?_
   refine sx_region ?_
   refine sx_rd 25 (.int .i64 ((i : Int) + 1)) (by rfl) (wr_ok (by omega) (by kernel_rfl)) ?_
   refine sx_rd 14 (.int .i64 ((i : Int) + 1)) (by rfl) (by kernel_rfl) ?_
   refine sx_nil ?_
   refine ex_then_n ?_
   have hq_30 : ((((winsF l0).take i).map sid0) ++ [(rd (sid (rd_i64s (winsF l0) (i : Int))) 0)]) = (((winsF l0).take (i + 1)).map sid0) := (sums_next (winsF l0) i (by omega))
   rw [hq_30] at hp
   exact ⟨_, (by omega), _, (i + 1), _, _, _, _, rfl, fr_front [(4, .slice A_26 ((((winsF l0).take (i + 1)).map sid0).length) c_27), (12, .slice A_9 ((winsF l0).length) c_10), (13, .int .i64 ((winsF l0).length : Int)), (14, .int .i64 ((i + 1 : Nat) : Int))] ⟨congrArg (fun z : List Int => Value.slice A_26 z.length c_27) hq_30, rfl, rfl, rfl, trivial⟩, (hp.take [2, 3] 4 (by decide) (by simp)), (by omega)⟩
  ·
   have c_15p := of_decide_eq_false c_15
   have hq : (((winsF l0).take i).map sid0) = ((winsF l0).map sid0) := by rw [List.take_of_length_le (by omega)]
   rw [hq] at hp
   rw [hq]
   refine wp_exit ?_
   refine ex_then_e (ex_then_e (ex_blk_here ?_))
   refine ex_then_n ?_
   refine wp_seq ?_
   refine sx_region ?_
   refine sx_rd 26 (.slice Ai4 (((winsF l0).map sid0).length) ci4) (by rfl) (by kernel_rfl) ?_
   refine sx_call 27 (by rfl) (by kernel_rfl) ((sortI_R (row_R (hp.at_ 0 _ (by rfl))) (by simp; omega)).mono ?_)
   rintro _ W_31 ⟨rfl, hR2, hm⟩
   refine ⟨_, rfl, ?_⟩
   obtain ⟨FS, hp⟩ := Hp.turn hp hm hR2
   refine sx_nil ?_
   refine ex_then_n ?_
   refine wp_seq ?_
   refine sx_region ?_
   refine sx_rd 28 (.slice Ai4 (((winsF l0).map sid0).length) ci4) (by rfl) (by kernel_rfl) ?_
   refine sx_call 29 (by rfl) (by kernel_rfl) ((compactI_R (row_R (hp.at_ 0 _ (by rfl))) (by rw [sortI_len]; simp; omega)).mono ?_)
   rintro _ W_32 ⟨u, rfl, hR3, hm⟩
   refine ⟨_, rfl, ?_⟩
   obtain ⟨AK, cK, rfl, _, _⟩ := Kd.R_reads hR3
   obtain ⟨FK, hp⟩ := Hp.turn hp hm hR3
   refine sx_rd 2 (.slice AK ((Lib.compact (sortI ((winsF l0).map sid0))).length) cK) (by rfl) (by kernel_rfl) ?_
   refine sx_rd 3 (.bool true) (by rfl) (by kernel_rfl) ?_
   refine sx_nil ?_
   refine ex_then_n ?_
   refine wp_ret ?_
   refine sx_end (.tuple #[.slice AK ((Lib.compact (sortI ((winsF l0).map sid0))).length) cK, .bool true]) (res2 2 3 (by rfl)) ?_
   rw [if_pos hsm] at h
   simp only [Option.some.injEq, Prod.mk.injEq] at h; obtain ⟨rfl, rfl⟩ := h
   exact ⟨_, rfl, Kd.R_mono (row_R (hp.at_ 0 _ (by rfl))) (fun _ _ => trivial), hc2 _ (hp.tail.tail)⟩
end Go.Proofs.Ytbkaedmabdgdhaa.Hd
