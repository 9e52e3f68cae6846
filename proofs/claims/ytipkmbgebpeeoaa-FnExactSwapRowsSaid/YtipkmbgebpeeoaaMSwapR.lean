/- impl.SwapRows, by hand. -/
import Derived.Test.YtipkmbgebpeeoaaPSwapR
import Derived.Test.YtipkmbgebpeeoaaMSxW
import Derived.Test.YtipkmbgebpeeoaaMSx2
import Derived.Test.YtipkmbgebpeeoaaG0
namespace Go.Proofs.Ytipkmbgebpeeoaa.Hd
open Go.RowKit Go.Proofs.Ytipkmbgebpeeoaa.Pure Go.Proofs.YtipkmbgebpeeoaaW.PrintWords Go.Proofs.YtipkmbgebpeeoaaW.PrintLast Go.Proofs.YtipkmbgebpeeoaaW.PrintMore
set_option linter.unusedVariables false
set_option linter.unusedSimpArgs false
def impl_SwapRows.f (l0 : List (List Int)) (a1 a2 : Int) : Option (List (List Int) × Bool) := if l0.length ≤ 1048576 ∧ l0.flatten.length ≤ 1048576 then some (resSwapRows l0 a1 a2) else none
set_option maxRecDepth 100000 in
set_option maxHeartbeats 40000000 in
theorem impl_SwapRows.calls (A0 : Option Addr) (c0 : Nat) (l0 : List (List Int)) (a1 : Int) (a2 : Int) (r0 : List (List Int)) (r1 : Bool) (w : World) (hr0 : Kd.C (Kd.slice 3 (Kd.int .i64)) w A0 l0.length l0) (hc0 : l0.length ≤ c0) (h : impl_SwapRows.f l0 a1 a2 = some (r0, r1)) :
  Calls Try.prog 7 #[.slice A0 l0.length c0, .int .i64 a1, .int .i64 a2] w fun e w' => ∃ v0_ : Value, e = .returned (.tuple #[v0_, .bool r1]) ∧ Kd.S (Kd.slice 3 (Kd.int .i64)) 30 w' w.heap.size (fun _ => True) v0_ r0 ∧ Below w.heap.size w w' := by
 unfold impl_SwapRows.f resSwapRows at h
 by_cases hg0 : l0.length ≤ 1048576 ∧ l0.flatten.length ≤ 1048576
 case neg => rw [if_neg hg0] at h; cases h
 rw [if_pos hg0] at h
 obtain ⟨hl0, hf0⟩ := hg0
 obtain ⟨cs, hcs⟩ : ∃ cs, cs = [old w w.heap.size] := ⟨_, rfl⟩
 have hp : Hp w cs w := by rw [hcs]; exact Hp.old_start w
 have hc2 : ∀ W, Hp w cs W → Below w.heap.size w W := fun W h => by rw [hcs] at h; exact h.since 0 _ rfl
 have hC0 : ∀ W, Hp w cs W → Kd.C (Kd.slice 3 (Kd.int .i64)) W A0 l0.length l0 := fun W h => Kd.C_below hr0 (hc2 W h)
 clear hcs
 have hpw := hp
 refine sx_enter (N := 52) (l := [.slice A0 l0.length c0, .int .i64 a1, .int .i64 a2]) Try.func7 rfl rfl rfl ?_
 refine wp_seq ?_
 refine sx_region ?_
 refine sx_rd 6 (.slice none 0 0) (by rfl) (by kernel_rfl) ?_
 refine sx_rd 7 (.bool false) (by rfl) (by kernel_rfl) ?_
 refine sx_nil ?_
 refine ex_then_n ?_
 refine wp_seq ?_
 refine wp_seq ?_
 rcases Bool.eq_false_or_eq_true (!(blockB l0)) with c_1 | c_1
 ·
  refine sx_region ?_
  refine sx_rd 11 (.slice A0 l0.length c0) (by rfl) (by kernel_rfl) ?_
  obtain ⟨k_2, hk_k_2⟩ := Ev.rounds (isBlock_ev l0 hl0 hf0)
  refine sx_call 12 (by rfl) (by kernel_rfl) ((impl_IsBlock.calls k_2 A0 c0 l0 _ _ (hC0 _ hp) hc0 hk_k_2).mono ?_)
  rintro _ W_3 ⟨rfl, hb⟩
  refine ⟨.bool false, congrArg (fun b => Ending.returned (.bool b)) (not_eq c_1), ?_⟩
  replace hp := hp.below hb
  clear hb
  refine sx_rd 13 (.bool true) (by rfl) (by kernel_rfl) ?_
  refine sx_rd 14 (.bool true) (by rfl) (by kernel_rfl) ?_
  refine sx_skip 15 (by rfl) (by rfl) (by rfl) ?_
  refine sx_skip 16 (by rfl) (by rfl) (by rfl) ?_
  refine sx_skip 17 (by rfl) (by rfl) (by rfl) ?_
  refine sx_skip 18 (by rfl) (by rfl) (by rfl) ?_
  refine sx_skip 19 (by rfl) (by rfl) (by rfl) ?_
  refine sx_skip 20 (by rfl) (by rfl) (by rfl) ?_
  refine sx_skip 21 (by rfl) (by rfl) (by rfl) ?_
  refine sx_skip 22 (by rfl) (by rfl) (by rfl) ?_
  refine sx_rd 23 (.bool true) (by rfl) (by kernel_rfl) ?_
  refine sx_nil ?_
  refine ex_then_n ?_
  refine sx_then true (by rfl) rfl ?_
  refine wp_seq ?_
  refine sx_region ?_
  refine sx_rd 6 (.slice none 0 0) (by rfl) (by kernel_rfl) ?_
  refine sx_rd 7 (.bool false) (by rfl) (by kernel_rfl) ?_
  refine sx_nil ?_
  refine ex_then_n ?_
  refine wp_ret ?_
  refine ex_then_r ?_
  refine sx_end (.tuple #[.slice none 0 0, .bool false]) (res2 6 7 (by rfl)) ?_
  rw [if_neg (by unfold okSw; simp [(not_eq c_1)])] at h
  simp only [Option.some.injEq, Prod.mk.injEq] at h; obtain ⟨rfl, rfl⟩ := h
  exact ⟨_, rfl, Kd.S_nil _ _ _ _ _, hc2 _ (hp)⟩
 ·
  have hbr := block_rows (not_eq c_1)
  refine sx_region ?_
  refine sx_rd 11 (.slice A0 l0.length c0) (by rfl) (by kernel_rfl) ?_
  obtain ⟨k_4, hk_k_4⟩ := Ev.rounds (isBlock_ev l0 hl0 hf0)
  refine sx_call 12 (by rfl) (by kernel_rfl) ((impl_IsBlock.calls k_4 A0 c0 l0 _ _ (hC0 _ hp) hc0 hk_k_4).mono ?_)
  rintro _ W_5 ⟨rfl, hb⟩
  refine ⟨.bool true, congrArg (fun b => Ending.returned (.bool b)) (not_eq c_1), ?_⟩
  replace hp := hp.below hb
  clear hb
  refine sx_rd 13 (.bool false) (by rfl) (by kernel_rfl) ?_
  refine sx_rd 14 (.bool false) (by rfl) (by kernel_rfl) ?_
  refine sx_want (by rfl) ?_
  refine sx_rd 15 (.int .i64 a1) (by rfl) (by kernel_rfl) ?_
  refine sx_want (by rfl) ?_
  refine sx_rd 16 (.int .i64 a2) (by rfl) (by kernel_rfl) ?_
  refine sx_want (by rfl) ?_
  refine sx_lit 17 (by rfl) (Kd.int .i64) w.heap.size 3 ([a1, a2]) [.int .i64 a1, .int .i64 a2] (fun W => by kernel_rfl) (reps_ints [a1, a2]) (by simp) hp.size hp ?_
  intro g_6 F_7 W_8 hp hz; clear hz
  refine sx_want (by rfl) ?_
  refine sx_rd 18 (.slice A0 l0.length c0) (by rfl) (by kernel_rfl) ?_
  refine sx_want (by rfl) ?_
  refine sx_rd 19 (.int .i64 (l0.length : Int)) (by rfl) (by kernel_rfl) ?_
  refine sx_want (by rfl) ?_
  refine sx_rd 20 (.int .i64 ((l0.length : Int) - 1)) (by rfl) (wr_ok (by omega) (by kernel_rfl)) ?_
  refine sx_want (by rfl) ?_
  refine sx_call 21 (by rfl) (by kernel_rfl) ((impl_areWithin.calls (some ⟨g_6, 0, none⟩) ([a1, a2].length) ([a1, a2]) 0 ((l0.length : Int) - 1) _ _ (row_C (hp.at_ 0 _ (by rfl))) (row_len (hp.at_ 0 _ (by rfl))).2 (areWithin_eq _ _ _)).mono ?_)
  rintro _ W_9 ⟨rfl, hb⟩
  refine ⟨_, rfl, ?_⟩
  replace hp := hp.below hb
  clear hb
  refine sx_want (by rfl) ?_
  refine sx_rd 22 (.bool (!([a1, a2].all (inB 0 ((l0.length : Int) - 1))))) (by rfl) (by kernel_rfl) ?_
  refine sx_rd 23 (.bool (!([a1, a2].all (inB 0 ((l0.length : Int) - 1))))) (by rfl) (by kernel_rfl) ?_
  refine sx_nil ?_
  refine ex_then_n ?_
  refine sx_cond (!([a1, a2].all (inB 0 ((l0.length : Int) - 1)))) (by rfl) (fun c_10 => ?_) (fun c_10 => ?_)
  ·
   refine wp_seq ?_
   refine sx_region ?_
   refine sx_rd 6 (.slice none 0 0) (by rfl) (by kernel_rfl) ?_
   refine sx_rd 7 (.bool false) (by rfl) (by kernel_rfl) ?_
   refine sx_nil ?_
   refine ex_then_n ?_
   refine wp_ret ?_
   refine ex_then_r ?_
   refine sx_end (.tuple #[.slice none 0 0, .bool false]) (res2 6 7 (by rfl)) ?_
   rw [if_neg (by unfold okSw; simp [(not_eq c_1), (not_eq c_10)])] at h
   simp only [Option.some.injEq, Prod.mk.injEq] at h; obtain ⟨rfl, rfl⟩ := h
   exact ⟨_, rfl, Kd.S_nil _ _ _ _ _, hc2 _ (hp.tail)⟩
  ·
   have hsi := sw_in (not_eq c_10)
   refine wp_skip ?_
   refine ex_then_n ?_
   refine wp_seq ?_
   refine sx_region ?_
   refine sx_lit 24 (by rfl) (Kd.tag (fun _ => 0) (Kd.slice 3 (Kd.int .i64))) w.heap.size 30 [] [] (fun W => by kernel_rfl) (Reps.none _ _) (by simp) hp.size hp ?_
   intro g_11 F_12 W_13 hp hz; clear hz; replace hp := hp.litS0
   refine sx_rd 8 (.slice (some ⟨g_11, 0, none⟩) (([] : List (List Int)).length) (([] : List (List Int)).length)) (by rfl) (by kernel_rfl) ?_
   refine sx_nil ?_
   refine ex_then_n ?_
   refine wp_seq ?_
   refine wp_seq ?_
   refine sx_region ?_
   refine sx_rd 25 (.slice A0 l0.length c0) (by rfl) (by kernel_rfl) ?_
   refine sx_rd 26 (.int .i64 (l0.length : Int)) (by rfl) (by kernel_rfl) ?_
   refine sx_rd 27 (.int .i64 0) (by rfl) (by kernel_rfl) ?_
   refine sx_nil ?_
   refine ex_then_n ?_
   refine wp_block ?_
   have e0_14 : ([] : List (List Int)) = (l0.take 0) := rfl
   have hp : Hp w (rowS (Kd.slice 3 (Kd.int .i64)) 30 w.heap.size (.slice (some ⟨g_11, 0, none⟩) (([] : List (List Int)).length) (([] : List (List Int)).length)) (l0.take 0) F_12 :: row (Kd.int .i64) 3 w.heap.size (.slice (some ⟨g_6, 0, none⟩) ([a1, a2].length) ([a1, a2].length)) ([a1, a2]) F_7 :: cs) W_13 := by rw [← e0_14]; exact hp
   refine wp_loop_ghost (fun n_ a_ W => ∃ (r_ : List (Nat × Value)) (i : Nat) (Ai8 : Option Addr) (ni8 ci8 : Nat) (Fi8 : Nat → Prop), n_ = l0.length - i ∧ a_ = fr 52 ([(1, .int .i64 a1), (2, .int .i64 a2), (8, .slice Ai8 ni8 ci8), (25, .slice A0 l0.length c0), (26, .int .i64 (l0.length : Int)), (27, .int .i64 (i : Int))] ++ r_) ∧ Hp w (rowS (Kd.slice 3 (Kd.int .i64)) 30 w.heap.size (.slice Ai8 ni8 ci8) (l0.take i) Fi8 :: row (Kd.int .i64) 3 w.heap.size (.slice (some ⟨g_6, 0, none⟩) ([a1, a2].length) ([a1, a2].length)) ([a1, a2]) F_7 :: cs) W ∧ (i ≤ l0.length)) _ ⟨_, 0, _, _, _, _, rfl, fr_front [(1, .int .i64 a1), (2, .int .i64 a2), (8, .slice (some ⟨g_11, 0, none⟩) (([] : List (List Int)).length) (([] : List (List Int)).length)), (25, .slice A0 l0.length c0), (26, .int .i64 (l0.length : Int)), (27, .int .i64 0)] ⟨rfl, rfl, rfl, rfl, rfl, rfl, trivial⟩, (hp.take [0, 1] 2 (by decide) (by simp)), Nat.zero_le _⟩ ?_
   rintro _ _ W_15 ⟨r_, i, Ai8, ni8, ci8, Fi8, rfl, rfl, hp, hi⟩
   obtain ⟨rfl, hcci8⟩ := rowS_len (hp.at_ 0 _ (by rfl))
   refine wp_seq ?_
   refine sx_region ?_
   refine sx_rd 28 (.bool (decide ((i : Int) < (l0.length : Int)))) (by rfl) (by kernel_rfl) ?_
   refine sx_nil ?_
   refine ex_then_n ?_
   refine wp_seq ?_
   refine sx_cond (decide ((i : Int) < (l0.length : Int))) (by rfl) (fun c_16 => ?_) (fun c_16 => ?_)
   ·
    have c_16p := of_decide_eq_true c_16
    obtain ⟨Ah, ch, hHc, hHC, hHl⟩ : ∃ A' c', (∀ W, Hp w cs W → W.cell? (adr A0 (i : Int) 1) = some (.slice A' (rd_i64s l0 (i : Int)).length c')) ∧ (∀ W, Hp w cs W → Kd.C (Kd.int .i64) W A' (rd_i64s l0 (i : Int)).length (rd_i64s l0 (i : Int))) ∧ (rd_i64s l0 (i : Int)).length ≤ c' := by rw [rdR_at (show i < l0.length by omega)]; exact hdr_at hC0 hc2 hpw i (by omega)
    refine wp_skip ?_
    refine ex_then_n ?_
    refine wp_seq ?_
    refine wp_block ?_
    refine wp_seq ?_
    refine sx_region ?_
    refine sx_rd 29 (.pointer (some (adr A0 (i : Int) 1))) (by rfl) (ix_run (d := (Kd.slice 3 (Kd.int .i64))) (hC0 _ hp.tail.tail) (t := 22) (by rfl) (by rfl) (by rfl) Try.underlying22 (by kernel_rfl) (by omega) (by omega)) ?_
    refine sx_rd 30 (.slice Ah ((rd_i64s l0 (i : Int)).length) ch) (by rfl) (ld1 (t := 30) (p := (.tmp 29)) (by rfl) (by rfl) (by kernel_rfl) (hHc _ hp.tail.tail)) ?_
    refine sx_rd 10 (.slice Ah ((rd_i64s l0 (i : Int)).length) ch) (by rfl) (by kernel_rfl) ?_
    refine sx_nil ?_
    refine ex_then_n ?_
    refine sx_region ?_
    refine sx_rd 31 (.slice Ai8 ((l0.take i).length) ci8) (by rfl) (by kernel_rfl) ?_
    refine sx_rd 32 (.slice Ah ((rd_i64s l0 (i : Int)).length) ch) (by rfl) (by kernel_rfl) ?_
    refine sx_call 33 (by rfl) (by kernel_rfl) ((slices_Clone_int_int.calls Ah ch (rd_i64s l0 (i : Int)) _ _ (hHC _ hp.tail.tail) hHl (cloneI_eq _ (by have q := rd_len hbr.2 i (by omega); omega))).mono ?_)
    rintro _ W_22 ⟨v_18, rfl, hR_17, hb⟩
    refine ⟨_, rfl, ?_⟩
    obtain ⟨A_19, c_20, rfl, hcc_c_20, _⟩ := Kd.R_reads hR_17
    obtain ⟨F_21, hp⟩ : ∃ F, Hp w (row (Kd.int .i64) 3 w.heap.size (.slice A_19 (rd_i64s l0 (i : Int)).length c_20) (rd_i64s l0 (i : Int)) F :: rowS (Kd.slice 3 (Kd.int .i64)) 30 w.heap.size (.slice Ai8 ((l0.take i).length) ci8) (l0.take i) Fi8 :: row (Kd.int .i64) 3 w.heap.size (.slice (some ⟨g_6, 0, none⟩) ([a1, a2].length) ([a1, a2].length)) ([a1, a2]) F_7 :: cs) _ := ⟨_, Hp.made hp hb hR_17⟩
    have hp := (hp.take [1, 0, 2] 3 (by decide) (by simp))
    refine sx_pushS 34 35 (by rfl) (by rfl) (fun W => by kernel_rfl) (t := 22) (.slice none 0 0) 24 (by rfl) Try.underlying22 (by kernel_rfl) rfl (by decide) (by rfl) (by rfl) hp.size (by simp; omega) hp ?_
    intro A_23 c_24 F_25 W_26 hp
    refine sx_rd 8 (.slice A_23 (((l0.take i) ++ [(rd_i64s l0 (i : Int))]).length) c_24) (by rfl) (by kernel_rfl) ?_
    refine sx_nil ?_
    refine ex_blk_n ?_
    refine ex_then_n ?_
    refine sx_region ?_
    refine sx_rd 36 (.int .i64 ((i : Int) + 1)) (by rfl) (wr_ok (by omega) (by kernel_rfl)) ?_
    refine sx_rd 27 (.int .i64 ((i : Int) + 1)) (by rfl) (by kernel_rfl) ?_
    refine sx_nil ?_
    refine ex_then_n ?_
    have hq_27 : ((l0.take i) ++ [(rd_i64s l0 (i : Int))]) = (l0.take (i + 1)) := take_push l0 i (by omega)
    rw [hq_27] at hp
    exact ⟨_, (by omega), _, (i + 1), _, _, _, _, rfl, fr_front [(1, .int .i64 a1), (2, .int .i64 a2), (8, .slice A_23 ((l0.take (i + 1)).length) c_24), (25, .slice A0 l0.length c0), (26, .int .i64 (l0.length : Int)), (27, .int .i64 ((i + 1 : Nat) : Int))] ⟨rfl, rfl, congrArg (fun z : List (List Int) => Value.slice A_23 z.length c_24) hq_27, rfl, rfl, rfl, trivial⟩, (hp.take [0, 1] 2 (by decide) (by simp)), (by omega)⟩
   ·
    have c_16p := of_decide_eq_false c_16
    refine wp_exit ?_
    refine ex_then_e (ex_then_e (ex_blk_here ?_))
    refine ex_then_n ?_
    refine wp_seq ?_
    obtain rfl : i = l0.length := by omega
    rw [show l0.take l0.length = l0 from List.take_length] at hp ⊢
    obtain ⟨gS, cur, Ai, ni, ci, Aj, nj, cj, rfl, hnn, hci0, hcj0, hci, hcj, hp⟩ := hp.openS a1.toNat a2.toNat (by omega) (by omega)
    refine sx_drawT [0, 1, 2, 3, 4, 5, 6, 8, 9, 10] (.rd 7 (.rd 11 (.rd 12 (.fin)))) 13 (C := Hp w (blk gS cur 30 :: inS (Kd.slice 3 (Kd.int .i64)) 30 w.heap.size l0.length ci8 gS l0 Fi8 cur :: row (Kd.int .i64) 3 w.heap.size (.slice (some ⟨g_6, 0, none⟩) ([a1, a2].length) ([a1, a2].length)) ([a1, a2]) F_7 :: cs)) (by kernel_rfl) (by kernel_rfl) (fun d _ _ _ _ h => by cases d <;> exact h) (fun W h => h.drew) hp ?_
    refine preI_read rfl ?_
    refine sxq_val 37 (.slice (some ⟨gS, 0, none⟩) l0.length ci8) (by rfl) (fun W _ => (by kernel_rfl)) ?_
    refine sxq_nil ?_
    refine preI_read rfl ?_
    refine sxq_val 38 (.int .i64 a1) (by rfl) (fun W _ => (by kernel_rfl)) ?_
    refine sxq_nil ?_
    refine preI_read rfl ?_
    refine sxq_val 39 (.slice (some ⟨gS, 0, none⟩) l0.length ci8) (by rfl) (fun W _ => (by kernel_rfl)) ?_
    refine sxq_nil ?_
    refine preI_read rfl ?_
    refine sxq_val 40 (.int .i64 a2) (by rfl) (fun W _ => (by kernel_rfl)) ?_
    refine sxq_nil ?_
    refine preI_read rfl ?_
    refine sxq_val 41 (.slice (some ⟨gS, 0, none⟩) l0.length ci8) (by rfl) (fun W _ => (by kernel_rfl)) ?_
    refine sxq_nil ?_
    refine preI_read rfl ?_
    refine sxq_val 42 (.int .i64 a2) (by rfl) (fun W _ => (by kernel_rfl)) ?_
    refine sxq_nil ?_
    refine preI_read rfl ?_
    refine sxq_val 43 (.pointer (some ⟨gS, a2.toNat, none⟩)) (by rfl) (fun W _ => (ix_g (t := 22) (by rfl) (by rfl) (by rfl) Try.underlying22 (by kernel_rfl) (by omega) (by omega))) ?_
    refine sxq_nil ?_
    refine preI_read rfl ?_
    refine sxq_val 45 (.slice (some ⟨gS, 0, none⟩) l0.length ci8) (by rfl) (fun W _ => (by kernel_rfl)) ?_
    refine sxq_nil ?_
    refine preI_read rfl ?_
    refine sxq_val 46 (.int .i64 a1) (by rfl) (fun W _ => (by kernel_rfl)) ?_
    refine sxq_nil ?_
    refine preI_read rfl ?_
    refine sxq_val 47 (.pointer (some ⟨gS, a1.toNat, none⟩)) (by rfl) (fun W _ => (ix_g (t := 22) (by rfl) (by rfl) (by rfl) Try.underlying22 (by kernel_rfl) (by omega) (by omega))) ?_
    refine sxq_nil ?_
    refine preI_nil ?_
    intro W_28 hp
    refine treeI_rd rfl ?_
    refine sxq_val 44 (.slice Aj nj cj) (by rfl) (fun W hp => (ld1 (t := 30) (p := (.tmp 43)) (by rfl) (by rfl) (by kernel_rfl) (hp.cell 0 (by rfl) _ _ hcj))) ?_
    refine sxq_nil ?_
    refine treeI_rd rfl ?_
    refine sxq_val 48 (.slice Ai ni ci) (by rfl) (fun W hp => (ld1 (t := 30) (p := (.tmp 47)) (by rfl) (by rfl) (by kernel_rfl) (hp.cell 0 (by rfl) _ _ hci))) ?_
    refine sxq_nil ?_
    refine treeI_rd rfl ?_
    refine sxq_val 49 (.pointer (some ⟨gS, a1.toNat, none⟩)) (by rfl) (fun W hp => (ix_g (t := 22) (by rfl) (by rfl) (by rfl) Try.underlying22 (by kernel_rfl) (by omega) (by omega))) ?_
    refine sxq_nil ?_
    refine treeI_fin ?_
    refine tail_of [13, 14, 15] (by rfl) ?_
    refine tailI_op rfl ?_
    refine sx_store (t := 30) (p := (.tmp 49)) (x := (.tmp 44)) (by rfl) (by rfl) 0 (by rfl) a1.toNat [.slice Aj nj cj] (by rfl) (by rfl) (by kernel_rfl) (by simp [Value.oneCell']) (by exact hci0) (cur.setIfInBounds a1.toNat (.slice Aj nj cj)) (set_one _ _ _ (by exact hci0)) hp ?_
    intro W_29 hp; simp only [List.set_cons_succ, List.set_cons_zero] at hp
    refine tailI_next ?_
    refine tailI_op rfl ?_
    refine sx_rd 50 (.pointer (some ⟨gS, a2.toNat, none⟩)) (by rfl) (ix_g (t := 22) (by rfl) (by rfl) (by rfl) Try.underlying22 (by kernel_rfl) (by omega) (by omega)) ?_
    refine tailI_next ?_
    refine tailI_op rfl ?_
    refine sx_store (t := 30) (p := (.tmp 50)) (x := (.tmp 48)) (by rfl) (by rfl) 0 (by rfl) a2.toNat [.slice Ai ni ci] (by rfl) (by rfl) (by kernel_rfl) (by simp [Value.oneCell']) (by simp; omega) ((cur.setIfInBounds a1.toNat (.slice Aj nj cj)).setIfInBounds a2.toNat (.slice Ai ni ci)) (set_one _ _ _ (by simp; omega)) hp ?_
    intro W_30 hp; simp only [List.set_cons_succ, List.set_cons_zero] at hp
    replace hp := Hp.closeS (by rfl) (by omega) (by omega) hci hcj hp
    have hsw : swL l0 a1.toNat a2.toNat (by omega) (by omega) = swR l0 a1.toNat a2.toNat := by unfold swR; rw [dif_pos ⟨by omega, by omega⟩]
    rw [hsw] at hp
    refine tailI_next ?_
    refine tailI_nil ?_
    refine ex_then_n ?_
    refine wp_seq ?_
    refine sx_region ?_
    refine sx_rd 51 (.slice (some ⟨gS, 0, none⟩) l0.length ci8) (by rfl) (by kernel_rfl) ?_
    refine sx_rd 6 (.slice (some ⟨gS, 0, none⟩) l0.length ci8) (by rfl) (by kernel_rfl) ?_
    refine sx_rd 7 (.bool true) (by rfl) (by kernel_rfl) ?_
    refine sx_nil ?_
    refine ex_then_n ?_
    refine wp_ret ?_
    refine sx_end (.tuple #[.slice (some ⟨gS, 0, none⟩) l0.length ci8, .bool true]) (res2 6 7 (by rfl)) ?_
    rw [if_pos (by unfold okSw; rw [(not_eq c_1), (not_eq c_10)]; rfl)] at h
    simp only [Option.some.injEq, Prod.mk.injEq] at h; obtain ⟨rfl, rfl⟩ := h
    exact ⟨_, rfl, Kd.S_mono (rowS_S (hp.at_ 0 _ (by rfl))) (fun _ _ => trivial), hc2 _ (hp.tail.tail)⟩
end Go.Proofs.Ytipkmbgebpeeoaa.Hd
