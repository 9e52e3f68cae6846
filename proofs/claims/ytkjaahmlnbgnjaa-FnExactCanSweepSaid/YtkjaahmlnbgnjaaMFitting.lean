/- impl.fitting, by hand. -/
import Derived.Test.YtkjaahmlnbgnjaaPFitA
import Derived.Test.YtkjaahmlnbgnjaaMSx4
import Derived.Test.YtkjaahmlnbgnjaaG0
import Derived.Test.YtkjaahmlnbgnjaaG0
import Derived.Test.YtkjaahmlnbgnjaaG2
namespace Go.Proofs.Ytkjaahmlnbgnjaa.Hd
open Go.RowKit Go.Proofs.Ytkjaahmlnbgnjaa.Pure Go.Proofs.YtkjaahmlnbgnjaaW.PrintWords Go.Proofs.YtkjaahmlnbgnjaaW.PrintLast Go.Proofs.YtkjaahmlnbgnjaaW.PrintMore
set_option linter.unusedVariables false
set_option linter.unusedSimpArgs false
def impl_fitting.f (h : List S_Tile) (r : List Int) : Option (List ByteArray) := if handB h = true ∧ r.length ≤ 2000000 then some ((fitTo r (sortT h) (sortT h).length).map txt) else none
set_option maxRecDepth 100000 in
set_option maxHeartbeats 40000000 in
theorem impl_fitting.calls (A0 : Option Addr) (c0 : Nat) (l0 : List S_Tile) (A1 : Option Addr) (c1 : Nat) (l1 : List Int) (r : List ByteArray) (w : World) (hr0 : Kd.C k79 w A0 l0.length l0) (hc0 : l0.length ≤ c0) (hr1 : Kd.C (Kd.int .i64) w A1 l1.length l1) (hc1 : l1.length ≤ c1) (h : impl_fitting.f l0 l1 = some r) :
  Calls Try.prog 85 #[.slice A0 l0.length c0, .slice A1 l1.length c1] w fun e w' => ∃ v0_ : Value, e = .returned (v0_) ∧ Kd.R Kd.string 9 w' w.heap.size (fun _ => True) v0_ r ∧ Below w.heap.size w w' := by
 unfold impl_fitting.f at h
 by_cases hsz : handB l0 = true ∧ l1.length ≤ 2000000
 case neg => rw [if_neg hsz] at h; cases h
 rw [if_pos hsz] at h
 obtain ⟨hb0, hz1⟩ := hsz
 obtain ⟨cs, hcs⟩ : ∃ cs, cs = [old w w.heap.size] := ⟨_, rfl⟩
 have hp : Hp w cs w := by rw [hcs]; exact Hp.old_start w
 have hc2 : ∀ W, Hp w cs W → Below w.heap.size w W := fun W h => by rw [hcs] at h; exact h.since 0 _ rfl
 have hC0 : ∀ W, Hp w cs W → Kd.C k79 W A0 l0.length l0 := fun W h => Kd.C_below hr0 (hc2 W h)
 have hC1 : ∀ W, Hp w cs W → Kd.C (Kd.int .i64) W A1 l1.length l1 := fun W h => Kd.C_below hr1 (hc2 W h)
 clear hcs
 refine sx_enter (N := 52) (l := [.slice A0 l0.length c0, .slice A1 l1.length c1]) Try.func85 rfl rfl rfl ?_
 refine wp_seq ?_
 refine sx_region ?_
 refine sx_rd 4 (.slice none 0 0) (by rfl) (by kernel_rfl) ?_
 refine sx_nil ?_
 refine ex_then_n ?_
 refine wp_seq ?_
 refine sx_region ?_
 refine sx_lit 10 (by rfl) Kd.string w.heap.size 9 ([] : List ByteArray) [] (fun W => by kernel_rfl) (Reps.none _ _) (by simp) hp.size hp ?_
 intro g_1 F_2 W_3 hp hz; clear hz
 refine sx_rd 5 (.slice (some ⟨g_1, 0, none⟩) (([] : List ByteArray).length) (([] : List ByteArray).length)) (by rfl) (by kernel_rfl) ?_
 refine sx_nil ?_
 refine ex_then_n ?_
 refine wp_seq ?_
 refine wp_seq ?_
 refine sx_region ?_
 refine sx_rd 11 (.slice A0 l0.length c0) (by rfl) (by kernel_rfl) ?_
 refine sx_call 12 (by rfl) (by kernel_rfl) ((impl_sorted.calls A0 c0 l0 _ _ (hC0 _ hp.tail) hc0 (sorted_handG hb0)).mono ?_)
 rintro _ W_9 ⟨v_5, rfl, hR_4, hb⟩
 refine ⟨_, rfl, ?_⟩
 obtain ⟨A_6, c_7, rfl, hcc_c_7, _⟩ := Kd.R_reads hR_4
 obtain ⟨F_8, hp⟩ : ∃ F, Hp w (row k79 79 w.heap.size (.slice A_6 (sortT l0).length c_7) (sortT l0) F :: row Kd.string 9 w.heap.size (.slice (some ⟨g_1, 0, none⟩) (([] : List ByteArray).length) (([] : List ByteArray).length)) ([] : List ByteArray) F_2 :: cs) _ := ⟨_, Hp.made hp hb hR_4⟩
 refine sx_rd 13 (.int .i64 ((sortT l0).length : Int)) (by rfl) (by kernel_rfl) ?_
 refine sx_rd 14 (.int .i64 0) (by rfl) (by kernel_rfl) ?_
 refine sx_nil ?_
 refine ex_then_n ?_
 refine wp_block ?_
 have hTl := sortT_len l0
 have e0_10 : ([] : List ByteArray) = ((fitTo l1 (sortT l0) 0).map txt) := rfl
 have hp : Hp w (row k79 79 w.heap.size (.slice A_6 ((sortT l0).length) c_7) (sortT l0) F_8 :: row Kd.string 9 w.heap.size (.slice (some ⟨g_1, 0, none⟩) (([] : List ByteArray).length) (([] : List ByteArray).length)) ((fitTo l1 (sortT l0) 0).map txt) F_2 :: cs) W_9 := by rw [← e0_10]; exact hp
 refine wp_loop_ghost (fun n_ a_ W => ∃ (r_ : List (Nat × Value)) (i : Nat) (Ai5 : Option Addr) (ni5 ci5 : Nat) (Fi5 : Nat → Prop), n_ = (sortT l0).length - i ∧ a_ = fr 52 ([(1, .slice A1 l1.length c1), (5, .slice Ai5 ni5 ci5), (12, .slice A_6 ((sortT l0).length) c_7), (13, .int .i64 ((sortT l0).length : Int)), (14, .int .i64 (i : Int))] ++ r_) ∧ Hp w (row Kd.string 9 w.heap.size (.slice Ai5 ni5 ci5) ((fitTo l1 (sortT l0) i).map txt) Fi5 :: row k79 79 w.heap.size (.slice A_6 ((sortT l0).length) c_7) (sortT l0) F_8 :: cs) W ∧ (i ≤ (sortT l0).length)) _ ⟨_, 0, _, _, _, _, rfl, fr_front [(1, .slice A1 l1.length c1), (5, .slice (some ⟨g_1, 0, none⟩) (([] : List ByteArray).length) (([] : List ByteArray).length)), (12, .slice A_6 ((sortT l0).length) c_7), (13, .int .i64 ((sortT l0).length : Int)), (14, .int .i64 0)] ⟨rfl, rfl, rfl, rfl, rfl, trivial⟩, (hp.take [1, 0] 2 (by decide) (by simp)), Nat.zero_le _⟩ ?_
 rintro _ _ W_11 ⟨r_, i, Ai5, ni5, ci5, Fi5, rfl, rfl, hp, hi⟩
 obtain ⟨rfl, hcci5⟩ := row_len (hp.at_ 0 _ (by rfl))
 have hfl := fitTo_len l1 (sortT l0) i (by omega)
 refine wp_seq ?_
 refine sx_region ?_
 refine sx_rd 15 (.bool (decide ((i : Int) < ((sortT l0).length : Int)))) (by rfl) (by kernel_rfl) ?_
 refine sx_nil ?_
 refine ex_then_n ?_
 refine wp_seq ?_
 refine sx_cond (decide ((i : Int) < ((sortT l0).length : Int))) (by rfl) (fun c_12 => ?_) (fun c_12 => ?_)
 ·
  have c_12p := of_decide_eq_true c_12
  refine wp_skip ?_
  refine ex_then_n ?_
  refine wp_seq ?_
  refine wp_block ?_
  refine wp_seq ?_
  refine sx_region ?_
  refine sx_rd 16 (.pointer (some (adr A_6 (i : Int) 2))) (by rfl) (ix_run (d := k79) (row_C (hp.at_ 1 _ (by rfl))) (t := 39) (by rfl) (by rfl) (by rfl) Try.underlying39 (by kernel_rfl) (by omega) (by omega)) ?_
  refine sx_rd 17 (.agg #[.int .i64 ((rd_Tile (sortT l0) (i : Int)).f0), .int .i64 ((rd_Tile (sortT l0) (i : Int)).f1)]) (by rfl) (el_run (d := k79) (row_C (hp.at_ 1 _ (by rfl))) z79 (i : Int) (by omega) (by omega) (cells := [.int .i64 ((rd_Tile (sortT l0) (i : Int)).f0), .int .i64 ((rd_Tile (sortT l0) (i : Int)).f1)]) (fun cs h => k79_open h) 0 [.int .i64 ((rd_Tile (sortT l0) (i : Int)).f0), .int .i64 ((rd_Tile (sortT l0) (i : Int)).f1)] (by rfl) (t := 79) (p := (.tmp 16)) (by rfl) (by rfl) (by kernel_rfl) (by kernel_rfl)) ?_
  refine sx_box 7 hp #[.int .i64 0, .int .i64 0] 79 (by rfl) (fun W => by kernel_rfl) ?_
  intro g_13 W_14 hp
  refine sx_store (t := 79) (p := (.tmp 7)) (x := (.tmp 17)) (by rfl) (by rfl) 0 (by rfl) 0 [.int .i64 ((rd_Tile (sortT l0) (i : Int)).f0), .int .i64 ((rd_Tile (sortT l0) (i : Int)).f1)] (by rfl) (by rfl) (by kernel_rfl) (by simp [Value.oneCell']) (by show 2 ≤ 2; omega) #[.int .i64 ((rd_Tile (sortT l0) (i : Int)).f0), .int .i64 ((rd_Tile (sortT l0) (i : Int)).f1)] (by rfl) hp ?_
  intro W_15 hp; simp only [List.set_cons_succ, List.set_cons_zero] at hp
  refine sx_nil ?_
  refine ex_then_n ?_
  refine wp_seq ?_
  refine wp_seq ?_
  refine sx_region ?_
  refine sx_rd 18 (.slice A1 l1.length c1) (by rfl) (by kernel_rfl) ?_
  refine sx_rd 19 (.int .i64 (l1.length : Int)) (by rfl) (by kernel_rfl) ?_
  refine sx_rd 20 (.bool ((l1.length : Int) == 0)) (by rfl) (by kernel_rfl) ?_
  refine sx_nil ?_
  refine ex_then_n ?_
  refine sx_cond ((l1.length : Int) == 0) (by rfl) (fun c_16 => ?_) (fun c_16 => ?_)
  ·
   have c_16p := eq_of_beq_ c_16
   refine wp_seq ?_
   refine sx_region ?_
   refine sx_rd 21 (.slice Ai5 (((fitTo l1 (sortT l0) i).map txt).length) ci5) (by rfl) (by kernel_rfl) ?_
   refine sx_rd 22 (.agg #[.int .i64 ((rd_Tile (sortT l0) (i : Int)).f0), .int .i64 ((rd_Tile (sortT l0) (i : Int)).f1)]) (by rfl) (ldn (t := 79) (p := (.tmp 7)) (by rfl) (by rfl) (by kernel_rfl) (by kernel_rfl) (by kernel_rfl) (hp.at_ 0 _ (by rfl))) ?_
   refine sx_call 23 (by rfl) (by kernel_rfl) ((impl_Tile_digits.calls ((rd_Tile (sortT l0) (i : Int)).f0) ((rd_Tile (sortT l0) (i : Int)).f1) _ _ rfl).mono ?_)
   rintro _ W_17 ⟨rfl, hb⟩
   refine ⟨_, rfl, ?_⟩
   replace hp := hp.below hb
   clear hb
   refine sx_rd 24 (.string ((strOfNums [num1 (rd_Tile (sortT l0) (i : Int)).f0, num1 (rd_Tile (sortT l0) (i : Int)).f1]) ++ (⟨#[108]⟩ : ByteArray))) (by rfl) (sadd_run (by rfl) (by rfl) (by rfl) (by rw [strOfNums_size]; simp only [List.length_cons, List.length_nil]; decide)) ?_
   refine sx_lit 25 (by rfl) Kd.string w.heap.size 9 ([((strOfNums [num1 (rd_Tile (sortT l0) (i : Int)).f0, num1 (rd_Tile (sortT l0) (i : Int)).f1]) ++ (⟨#[108]⟩ : ByteArray))]) [.string ((strOfNums [num1 (rd_Tile (sortT l0) (i : Int)).f0, num1 (rd_Tile (sortT l0) (i : Int)).f1]) ++ (⟨#[108]⟩ : ByteArray))] (fun W => by kernel_rfl) (Reps.snoc (cs := []) (Reps.none _ _) rfl rfl) (by simp) hp.size hp ?_
   intro g_18 F_19 W_20 hp hz; clear hz
   refine sx_append 26 (by rfl) Kd.string 2 (by rfl) (.string ByteArray.empty) 16 (by rfl) Try.underlying45 (by kernel_rfl) rfl (by decide) (by decide) ([((strOfNums [num1 (rd_Tile (sortT l0) (i : Int)).f0, num1 (rd_Tile (sortT l0) (i : Int)).f1]) ++ (⟨#[108]⟩ : ByteArray))]) (by rfl) (by rfl) (row_C (hp.at_ 0 _ (by rfl))) (fun x cs h => h) hp.size (by first | omega | (simp; omega)) hp ?_
   intro A_21 c_22 F_23 W_24 hp hz; clear hz; simp only [List.set_cons_succ, List.set_cons_zero] at hp
   refine sx_rd 5 (.slice A_21 ((((fitTo l1 (sortT l0) i).map txt) ++ [((strOfNums [num1 (rd_Tile (sortT l0) (i : Int)).f0, num1 (rd_Tile (sortT l0) (i : Int)).f1]) ++ (⟨#[108]⟩ : ByteArray))]).length) c_22) (by rfl) (by kernel_rfl) ?_
   refine sx_nil ?_
   refine ex_then_n ?_
   refine wp_exit ?_
   refine ex_then_e (ex_blk_here ?_)
   refine ex_then_n ?_
   refine sx_region ?_
   refine sx_rd 50 (.int .i64 ((i : Int) + 1)) (by rfl) (wr_ok (by omega) (by kernel_rfl)) ?_
   refine sx_rd 14 (.int .i64 ((i : Int) + 1)) (by rfl) (by kernel_rfl) ?_
   refine sx_nil ?_
   refine ex_then_n ?_
   have hq_25 : (((fitTo l1 (sortT l0) i).map txt) ++ [((strOfNums [num1 (rd_Tile (sortT l0) (i : Int)).f0, num1 (rd_Tile (sortT l0) (i : Int)).f1]) ++ (⟨#[108]⟩ : ByteArray))]) = ((fitTo l1 (sortT l0) (i + 1)).map txt) := by rw [fitTo_next l1 (sortT l0) i (by omega), List.map_append, fitL_nil (by omega)]; rfl
   rw [hq_25] at hp
   exact ⟨_, (by omega), _, (i + 1), _, _, _, _, rfl, fr_front [(1, .slice A1 l1.length c1), (5, .slice A_21 (((fitTo l1 (sortT l0) (i + 1)).map txt).length) c_22), (12, .slice A_6 ((sortT l0).length) c_7), (13, .int .i64 ((sortT l0).length : Int)), (14, .int .i64 ((i + 1 : Nat) : Int))] ⟨rfl, congrArg (fun z : List ByteArray => Value.slice A_21 z.length c_22) hq_25, rfl, rfl, rfl, trivial⟩, (hp.take [2, 3] 4 (by decide) (by simp)), (by omega)⟩
  ·
   have c_16p := ne_of_beq_ c_16
   refine wp_skip ?_
   refine ex_then_n ?_
   refine wp_seq ?_
   refine sx_region ?_
   refine sx_rd 28 (.slice A1 l1.length c1) (by rfl) (by kernel_rfl) ?_
   refine sx_call 29 (by rfl) (by kernel_rfl) ((impl_ends.calls A1 c1 l1 _ _ _ (hC1 _ hp.tail.tail.tail) hc1 (ends_eq (by omega) hz1)).mono ?_)
   rintro _ W_26 ⟨rfl, hb⟩
   refine ⟨_, rfl, ?_⟩
   replace hp := hp.below hb.below
   clear hb
   refine sx_rd 27 (.tuple #[.int .i64 (endA l1), .int .i64 (endB l1)]) (by rfl) (by kernel_rfl) ?_
   refine sx_rd 30 (.int .i64 (endA l1)) (by rfl) (by kernel_rfl) ?_
   refine sx_rd 31 (.int .i64 (endB l1)) (by rfl) (by kernel_rfl) ?_
   refine sx_rd 8 (.int .i64 (endA l1)) (by rfl) (by kernel_rfl) ?_
   refine sx_rd 9 (.int .i64 (endB l1)) (by rfl) (by kernel_rfl) ?_
   refine sx_nil ?_
   refine ex_then_n ?_
   refine wp_seq ?_
   refine wp_seq ?_
   refine sx_region ?_
   refine sx_rd 32 (.agg #[.int .i64 ((rd_Tile (sortT l0) (i : Int)).f0), .int .i64 ((rd_Tile (sortT l0) (i : Int)).f1)]) (by rfl) (ldn (t := 79) (p := (.tmp 7)) (by rfl) (by rfl) (by kernel_rfl) (by kernel_rfl) (by kernel_rfl) (hp.at_ 0 _ (by rfl))) ?_
   refine sx_rd 33 (.int .i64 (endA l1)) (by rfl) (by kernel_rfl) ?_
   refine sx_call 34 (by rfl) (by kernel_rfl) ((impl_Tile_has.calls ((rd_Tile (sortT l0) (i : Int)).f0) ((rd_Tile (sortT l0) (i : Int)).f1) (endA l1) _ _ (has_eq (rd_Tile (sortT l0) (i : Int)).f0 (rd_Tile (sortT l0) (i : Int)).f1 (endA l1))).mono ?_)
   rintro _ W_27 ⟨rfl, hb⟩
   refine ⟨_, rfl, ?_⟩
   replace hp := hp.below hb
   clear hb
   refine sx_nil ?_
   refine ex_then_n ?_
   refine sx_cond (hasT (rd_Tile (sortT l0) (i : Int)) (endA l1)) (by rfl) (fun c_28 => ?_) (fun c_28 => ?_)
   ·
    refine sx_region ?_
    refine sx_rd 35 (.slice Ai5 (((fitTo l1 (sortT l0) i).map txt).length) ci5) (by rfl) (by kernel_rfl) ?_
    refine sx_rd 36 (.agg #[.int .i64 ((rd_Tile (sortT l0) (i : Int)).f0), .int .i64 ((rd_Tile (sortT l0) (i : Int)).f1)]) (by rfl) (ldn (t := 79) (p := (.tmp 7)) (by rfl) (by rfl) (by kernel_rfl) (by kernel_rfl) (by kernel_rfl) (hp.at_ 0 _ (by rfl))) ?_
    refine sx_call 37 (by rfl) (by kernel_rfl) ((impl_Tile_digits.calls ((rd_Tile (sortT l0) (i : Int)).f0) ((rd_Tile (sortT l0) (i : Int)).f1) _ _ rfl).mono ?_)
    rintro _ W_29 ⟨rfl, hb⟩
    refine ⟨_, rfl, ?_⟩
    replace hp := hp.below hb
    clear hb
    refine sx_rd 38 (.string ((strOfNums [num1 (rd_Tile (sortT l0) (i : Int)).f0, num1 (rd_Tile (sortT l0) (i : Int)).f1]) ++ (⟨#[108]⟩ : ByteArray))) (by rfl) (sadd_run (by rfl) (by rfl) (by rfl) (by rw [strOfNums_size]; simp only [List.length_cons, List.length_nil]; decide)) ?_
    refine sx_lit 39 (by rfl) Kd.string w.heap.size 9 ([((strOfNums [num1 (rd_Tile (sortT l0) (i : Int)).f0, num1 (rd_Tile (sortT l0) (i : Int)).f1]) ++ (⟨#[108]⟩ : ByteArray))]) [.string ((strOfNums [num1 (rd_Tile (sortT l0) (i : Int)).f0, num1 (rd_Tile (sortT l0) (i : Int)).f1]) ++ (⟨#[108]⟩ : ByteArray))] (fun W => by kernel_rfl) (Reps.snoc (cs := []) (Reps.none _ _) rfl rfl) (by simp) hp.size hp ?_
    intro g_30 F_31 W_32 hp hz; clear hz
    refine sx_append 40 (by rfl) Kd.string 2 (by rfl) (.string ByteArray.empty) 16 (by rfl) Try.underlying45 (by kernel_rfl) rfl (by decide) (by decide) ([((strOfNums [num1 (rd_Tile (sortT l0) (i : Int)).f0, num1 (rd_Tile (sortT l0) (i : Int)).f1]) ++ (⟨#[108]⟩ : ByteArray))]) (by rfl) (by rfl) (row_C (hp.at_ 0 _ (by rfl))) (fun x cs h => h) hp.size (by first | omega | (simp; omega)) hp ?_
    intro A_33 c_34 F_35 W_36 hp hz; clear hz; simp only [List.set_cons_succ, List.set_cons_zero] at hp
    refine sx_rd 5 (.slice A_33 ((((fitTo l1 (sortT l0) i).map txt) ++ [((strOfNums [num1 (rd_Tile (sortT l0) (i : Int)).f0, num1 (rd_Tile (sortT l0) (i : Int)).f1]) ++ (⟨#[108]⟩ : ByteArray))]).length) c_34) (by rfl) (by kernel_rfl) ?_
    refine sx_nil ?_
    refine ex_then_n ?_
    refine wp_seq ?_
    refine sx_region ?_
    refine sx_rd 41 (.agg #[.int .i64 ((rd_Tile (sortT l0) (i : Int)).f0), .int .i64 ((rd_Tile (sortT l0) (i : Int)).f1)]) (by rfl) (ldn (t := 79) (p := (.tmp 7)) (by rfl) (by rfl) (by kernel_rfl) (by kernel_rfl) (by kernel_rfl) (hp.at_ 1 _ (by rfl))) ?_
    refine sx_rd 42 (.int .i64 (endB l1)) (by rfl) (by kernel_rfl) ?_
    refine sx_call 43 (by rfl) (by kernel_rfl) ((impl_Tile_has.calls ((rd_Tile (sortT l0) (i : Int)).f0) ((rd_Tile (sortT l0) (i : Int)).f1) (endB l1) _ _ (has_eq (rd_Tile (sortT l0) (i : Int)).f0 (rd_Tile (sortT l0) (i : Int)).f1 (endB l1))).mono ?_)
    rintro _ W_37 ⟨rfl, hb⟩
    refine ⟨_, rfl, ?_⟩
    replace hp := hp.below hb
    clear hb
    refine sx_nil ?_
    refine ex_then_n ?_
    refine sx_cond (hasT (rd_Tile (sortT l0) (i : Int)) (endB l1)) (by rfl) (fun c_38 => ?_) (fun c_38 => ?_)
    ·
     refine sx_region ?_
     refine sx_rd 44 (.slice A_33 ((((fitTo l1 (sortT l0) i).map txt) ++ [((strOfNums [num1 (rd_Tile (sortT l0) (i : Int)).f0, num1 (rd_Tile (sortT l0) (i : Int)).f1]) ++ (⟨#[108]⟩ : ByteArray))]).length) c_34) (by rfl) (by kernel_rfl) ?_
     refine sx_rd 45 (.agg #[.int .i64 ((rd_Tile (sortT l0) (i : Int)).f0), .int .i64 ((rd_Tile (sortT l0) (i : Int)).f1)]) (by rfl) (ldn (t := 79) (p := (.tmp 7)) (by rfl) (by rfl) (by kernel_rfl) (by kernel_rfl) (by kernel_rfl) (hp.at_ 1 _ (by rfl))) ?_
     refine sx_call 46 (by rfl) (by kernel_rfl) ((impl_Tile_digits.calls ((rd_Tile (sortT l0) (i : Int)).f0) ((rd_Tile (sortT l0) (i : Int)).f1) _ _ rfl).mono ?_)
     rintro _ W_39 ⟨rfl, hb⟩
     refine ⟨_, rfl, ?_⟩
     replace hp := hp.below hb
     clear hb
     refine sx_rd 47 (.string ((strOfNums [num1 (rd_Tile (sortT l0) (i : Int)).f0, num1 (rd_Tile (sortT l0) (i : Int)).f1]) ++ (⟨#[114]⟩ : ByteArray))) (by rfl) (sadd_run (by rfl) (by rfl) (by rfl) (by rw [strOfNums_size]; simp only [List.length_cons, List.length_nil]; decide)) ?_
     refine sx_lit 48 (by rfl) Kd.string w.heap.size 9 ([((strOfNums [num1 (rd_Tile (sortT l0) (i : Int)).f0, num1 (rd_Tile (sortT l0) (i : Int)).f1]) ++ (⟨#[114]⟩ : ByteArray))]) [.string ((strOfNums [num1 (rd_Tile (sortT l0) (i : Int)).f0, num1 (rd_Tile (sortT l0) (i : Int)).f1]) ++ (⟨#[114]⟩ : ByteArray))] (fun W => by kernel_rfl) (Reps.snoc (cs := []) (Reps.none _ _) rfl rfl) (by simp) hp.size hp ?_
     intro g_40 F_41 W_42 hp hz; clear hz
     refine sx_append 49 (by rfl) Kd.string 3 (by rfl) (.string ByteArray.empty) 16 (by rfl) Try.underlying45 (by kernel_rfl) rfl (by decide) (by decide) ([((strOfNums [num1 (rd_Tile (sortT l0) (i : Int)).f0, num1 (rd_Tile (sortT l0) (i : Int)).f1]) ++ (⟨#[114]⟩ : ByteArray))]) (by rfl) (by rfl) (row_C (hp.at_ 0 _ (by rfl))) (fun x cs h => h) hp.size (by first | omega | (simp; omega)) hp ?_
     intro A_43 c_44 F_45 W_46 hp hz; clear hz; simp only [List.set_cons_succ, List.set_cons_zero] at hp
     refine sx_rd 5 (.slice A_43 (((((fitTo l1 (sortT l0) i).map txt) ++ [((strOfNums [num1 (rd_Tile (sortT l0) (i : Int)).f0, num1 (rd_Tile (sortT l0) (i : Int)).f1]) ++ (⟨#[108]⟩ : ByteArray))]) ++ [((strOfNums [num1 (rd_Tile (sortT l0) (i : Int)).f0, num1 (rd_Tile (sortT l0) (i : Int)).f1]) ++ (⟨#[114]⟩ : ByteArray))]).length) c_44) (by rfl) (by kernel_rfl) ?_
     refine sx_nil ?_
     refine ex_blk_n ?_
     refine ex_then_n ?_
     refine sx_region ?_
     refine sx_rd 50 (.int .i64 ((i : Int) + 1)) (by rfl) (wr_ok (by omega) (by kernel_rfl)) ?_
     refine sx_rd 14 (.int .i64 ((i : Int) + 1)) (by rfl) (by kernel_rfl) ?_
     refine sx_nil ?_
     refine ex_then_n ?_
     have hq_47 : ((((fitTo l1 (sortT l0) i).map txt) ++ [((strOfNums [num1 (rd_Tile (sortT l0) (i : Int)).f0, num1 (rd_Tile (sortT l0) (i : Int)).f1]) ++ (⟨#[108]⟩ : ByteArray))]) ++ [((strOfNums [num1 (rd_Tile (sortT l0) (i : Int)).f0, num1 (rd_Tile (sortT l0) (i : Int)).f1]) ++ (⟨#[114]⟩ : ByteArray))]) = ((fitTo l1 (sortT l0) (i + 1)).map txt) := by rw [fitTo_next l1 (sortT l0) i (by omega), List.map_append, fitL_of (a := true) (b := true) (by omega) c_28 c_38]; simp [txt]
     rw [hq_47] at hp
     exact ⟨_, (by omega), _, (i + 1), _, _, _, _, rfl, fr_front [(1, .slice A1 l1.length c1), (5, .slice A_43 (((fitTo l1 (sortT l0) (i + 1)).map txt).length) c_44), (12, .slice A_6 ((sortT l0).length) c_7), (13, .int .i64 ((sortT l0).length : Int)), (14, .int .i64 ((i + 1 : Nat) : Int))] ⟨rfl, congrArg (fun z : List ByteArray => Value.slice A_43 z.length c_44) hq_47, rfl, rfl, rfl, trivial⟩, (hp.take [3, 4] 5 (by decide) (by simp)), (by omega)⟩
    ·
     refine wp_skip ?_
     refine ex_blk_n ?_
     refine ex_then_n ?_
     refine sx_region ?_
     refine sx_rd 50 (.int .i64 ((i : Int) + 1)) (by rfl) (wr_ok (by omega) (by kernel_rfl)) ?_
     refine sx_rd 14 (.int .i64 ((i : Int) + 1)) (by rfl) (by kernel_rfl) ?_
     refine sx_nil ?_
     refine ex_then_n ?_
     have hq_48 : (((fitTo l1 (sortT l0) i).map txt) ++ [((strOfNums [num1 (rd_Tile (sortT l0) (i : Int)).f0, num1 (rd_Tile (sortT l0) (i : Int)).f1]) ++ (⟨#[108]⟩ : ByteArray))]) = ((fitTo l1 (sortT l0) (i + 1)).map txt) := by rw [fitTo_next l1 (sortT l0) i (by omega), List.map_append, fitL_of (a := true) (b := false) (by omega) c_28 c_38]; simp [txt]
     rw [hq_48] at hp
     exact ⟨_, (by omega), _, (i + 1), _, _, _, _, rfl, fr_front [(1, .slice A1 l1.length c1), (5, .slice A_33 (((fitTo l1 (sortT l0) (i + 1)).map txt).length) c_34), (12, .slice A_6 ((sortT l0).length) c_7), (13, .int .i64 ((sortT l0).length : Int)), (14, .int .i64 ((i + 1 : Nat) : Int))] ⟨rfl, congrArg (fun z : List ByteArray => Value.slice A_33 z.length c_34) hq_48, rfl, rfl, rfl, trivial⟩, (hp.take [2, 3] 4 (by decide) (by simp)), (by omega)⟩
   ·
    refine wp_skip ?_
    refine ex_then_n ?_
    refine wp_seq ?_
    refine sx_region ?_
    refine sx_rd 41 (.agg #[.int .i64 ((rd_Tile (sortT l0) (i : Int)).f0), .int .i64 ((rd_Tile (sortT l0) (i : Int)).f1)]) (by rfl) (ldn (t := 79) (p := (.tmp 7)) (by rfl) (by rfl) (by kernel_rfl) (by kernel_rfl) (by kernel_rfl) (hp.at_ 0 _ (by rfl))) ?_
    refine sx_rd 42 (.int .i64 (endB l1)) (by rfl) (by kernel_rfl) ?_
    refine sx_call 43 (by rfl) (by kernel_rfl) ((impl_Tile_has.calls ((rd_Tile (sortT l0) (i : Int)).f0) ((rd_Tile (sortT l0) (i : Int)).f1) (endB l1) _ _ (has_eq (rd_Tile (sortT l0) (i : Int)).f0 (rd_Tile (sortT l0) (i : Int)).f1 (endB l1))).mono ?_)
    rintro _ W_49 ⟨rfl, hb⟩
    refine ⟨_, rfl, ?_⟩
    replace hp := hp.below hb
    clear hb
    refine sx_nil ?_
    refine ex_then_n ?_
    refine sx_cond (hasT (rd_Tile (sortT l0) (i : Int)) (endB l1)) (by rfl) (fun c_50 => ?_) (fun c_50 => ?_)
    ·
     refine sx_region ?_
     refine sx_rd 44 (.slice Ai5 (((fitTo l1 (sortT l0) i).map txt).length) ci5) (by rfl) (by kernel_rfl) ?_
     refine sx_rd 45 (.agg #[.int .i64 ((rd_Tile (sortT l0) (i : Int)).f0), .int .i64 ((rd_Tile (sortT l0) (i : Int)).f1)]) (by rfl) (ldn (t := 79) (p := (.tmp 7)) (by rfl) (by rfl) (by kernel_rfl) (by kernel_rfl) (by kernel_rfl) (hp.at_ 0 _ (by rfl))) ?_
     refine sx_call 46 (by rfl) (by kernel_rfl) ((impl_Tile_digits.calls ((rd_Tile (sortT l0) (i : Int)).f0) ((rd_Tile (sortT l0) (i : Int)).f1) _ _ rfl).mono ?_)
     rintro _ W_51 ⟨rfl, hb⟩
     refine ⟨_, rfl, ?_⟩
     replace hp := hp.below hb
     clear hb
     refine sx_rd 47 (.string ((strOfNums [num1 (rd_Tile (sortT l0) (i : Int)).f0, num1 (rd_Tile (sortT l0) (i : Int)).f1]) ++ (⟨#[114]⟩ : ByteArray))) (by rfl) (sadd_run (by rfl) (by rfl) (by rfl) (by rw [strOfNums_size]; simp only [List.length_cons, List.length_nil]; decide)) ?_
     refine sx_lit 48 (by rfl) Kd.string w.heap.size 9 ([((strOfNums [num1 (rd_Tile (sortT l0) (i : Int)).f0, num1 (rd_Tile (sortT l0) (i : Int)).f1]) ++ (⟨#[114]⟩ : ByteArray))]) [.string ((strOfNums [num1 (rd_Tile (sortT l0) (i : Int)).f0, num1 (rd_Tile (sortT l0) (i : Int)).f1]) ++ (⟨#[114]⟩ : ByteArray))] (fun W => by kernel_rfl) (Reps.snoc (cs := []) (Reps.none _ _) rfl rfl) (by simp) hp.size hp ?_
     intro g_52 F_53 W_54 hp hz; clear hz
     refine sx_append 49 (by rfl) Kd.string 2 (by rfl) (.string ByteArray.empty) 16 (by rfl) Try.underlying45 (by kernel_rfl) rfl (by decide) (by decide) ([((strOfNums [num1 (rd_Tile (sortT l0) (i : Int)).f0, num1 (rd_Tile (sortT l0) (i : Int)).f1]) ++ (⟨#[114]⟩ : ByteArray))]) (by rfl) (by rfl) (row_C (hp.at_ 0 _ (by rfl))) (fun x cs h => h) hp.size (by first | omega | (simp; omega)) hp ?_
     intro A_55 c_56 F_57 W_58 hp hz; clear hz; simp only [List.set_cons_succ, List.set_cons_zero] at hp
     refine sx_rd 5 (.slice A_55 ((((fitTo l1 (sortT l0) i).map txt) ++ [((strOfNums [num1 (rd_Tile (sortT l0) (i : Int)).f0, num1 (rd_Tile (sortT l0) (i : Int)).f1]) ++ (⟨#[114]⟩ : ByteArray))]).length) c_56) (by rfl) (by kernel_rfl) ?_
     refine sx_nil ?_
     refine ex_blk_n ?_
     refine ex_then_n ?_
     refine sx_region ?_
     refine sx_rd 50 (.int .i64 ((i : Int) + 1)) (by rfl) (wr_ok (by omega) (by kernel_rfl)) ?_
     refine sx_rd 14 (.int .i64 ((i : Int) + 1)) (by rfl) (by kernel_rfl) ?_
     refine sx_nil ?_
     refine ex_then_n ?_
     have hq_59 : (((fitTo l1 (sortT l0) i).map txt) ++ [((strOfNums [num1 (rd_Tile (sortT l0) (i : Int)).f0, num1 (rd_Tile (sortT l0) (i : Int)).f1]) ++ (⟨#[114]⟩ : ByteArray))]) = ((fitTo l1 (sortT l0) (i + 1)).map txt) := by rw [fitTo_next l1 (sortT l0) i (by omega), List.map_append, fitL_of (a := false) (b := true) (by omega) c_28 c_50]; simp [txt]
     rw [hq_59] at hp
     exact ⟨_, (by omega), _, (i + 1), _, _, _, _, rfl, fr_front [(1, .slice A1 l1.length c1), (5, .slice A_55 (((fitTo l1 (sortT l0) (i + 1)).map txt).length) c_56), (12, .slice A_6 ((sortT l0).length) c_7), (13, .int .i64 ((sortT l0).length : Int)), (14, .int .i64 ((i + 1 : Nat) : Int))] ⟨rfl, congrArg (fun z : List ByteArray => Value.slice A_55 z.length c_56) hq_59, rfl, rfl, rfl, trivial⟩, (hp.take [2, 3] 4 (by decide) (by simp)), (by omega)⟩
    ·
     refine wp_skip ?_
     refine ex_blk_n ?_
     refine ex_then_n ?_
     refine sx_region ?_
     refine sx_rd 50 (.int .i64 ((i : Int) + 1)) (by rfl) (wr_ok (by omega) (by kernel_rfl)) ?_
     refine sx_rd 14 (.int .i64 ((i : Int) + 1)) (by rfl) (by kernel_rfl) ?_
     refine sx_nil ?_
     refine ex_then_n ?_
     have hq_60 : ((fitTo l1 (sortT l0) i).map txt) = ((fitTo l1 (sortT l0) (i + 1)).map txt) := by rw [fitTo_next l1 (sortT l0) i (by omega), List.map_append, fitL_of (a := false) (b := false) (by omega) c_28 c_50]; simp [txt]
     rw [hq_60] at hp
     exact ⟨_, (by omega), _, (i + 1), _, _, _, _, rfl, fr_front [(1, .slice A1 l1.length c1), (5, .slice Ai5 (((fitTo l1 (sortT l0) (i + 1)).map txt).length) ci5), (12, .slice A_6 ((sortT l0).length) c_7), (13, .int .i64 ((sortT l0).length : Int)), (14, .int .i64 ((i + 1 : Nat) : Int))] ⟨rfl, congrArg (fun z : List ByteArray => Value.slice Ai5 z.length ci5) hq_60, rfl, rfl, rfl, trivial⟩, (hp.take [1, 2] 3 (by decide) (by simp)), (by omega)⟩
 ·
  have c_12p := of_decide_eq_false c_12
  refine wp_exit ?_
  refine ex_then_e (ex_then_e (ex_blk_here ?_))
  refine ex_then_n ?_
  refine wp_seq ?_
  refine sx_region ?_
  refine sx_rd 51 (.slice Ai5 (((fitTo l1 (sortT l0) i).map txt).length) ci5) (by rfl) (by kernel_rfl) ?_
  refine sx_rd 4 (.slice Ai5 (((fitTo l1 (sortT l0) i).map txt).length) ci5) (by rfl) (by kernel_rfl) ?_
  refine sx_nil ?_
  refine ex_then_n ?_
  refine wp_ret ?_
  refine sx_end (.slice Ai5 (((fitTo l1 (sortT l0) i).map txt).length) ci5) (res1 4 (by rfl)) ?_
  obtain rfl : i = (sortT l0).length := by omega
  obtain rfl := Option.some.inj h
  exact ⟨_, rfl, Kd.R_mono (row_R (hp.at_ 0 _ (by rfl))) (fun _ _ => trivial), hc2 _ (hp.tail.tail)⟩
end Go.Proofs.Ytkjaahmlnbgnjaa.Hd
