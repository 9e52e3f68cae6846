/- impl.fates.of, by hand. -/
import Derived.Test.YtjaojemmbeddfaaGreatMSx4
import Derived.Test.YtjaojemmbeddfaaGreatPFate2
import Derived.Test.YtjaojemmbeddfaaGreatPKeyF
import Derived.Test.YtjaojemmbeddfaaGreatPMovedE
import Derived.Test.YtjaojemmbeddfaaGreatMBehind
import Derived.StringKeys
import Derived.Test.YtjaojemmbeddfaaGreatMSx
import Derived.Maps.Own
import Derived.Maps.Views
import Derived.Test.YtjaojemmbeddfaaGreatPGames
import Derived.Test.YtjaojemmbeddfaaGreatMSx3
import Derived.Test.YtjaojemmbeddfaaGreatMSorted2
import Derived.Test.YtjaojemmbeddfaaGreatMStrJ
import Derived.Test.YtjaojemmbeddfaaGreatPFitA
import Derived.Test.YtjaojemmbeddfaaGreatG0
import Derived.Test.YtjaojemmbeddfaaGreatG2
namespace Go.Proofs.YtjaojemmbeddfaaGreat.Hd
open Go.RowKit Go.Proofs.YtjaojemmbeddfaaGreat.Pure Go.Proofs.YtjaojemmbeddfaaGreatW.PrintWords Go.Proofs.YtjaojemmbeddfaaGreatW.PrintLast Go.Proofs.YtjaojemmbeddfaaGreatW.PrintMore
set_option linter.unusedVariables false
set_option linter.unusedSimpArgs false
def impl_fitting.f (h : List S_Tile) (r : List Int) : Option (List ByteArray) := if handB h = true ∧ r.length ≤ 2000000 then some ((fitTo r (sortT h) (sortT h).length).map txt) else none
set_option maxRecDepth 100000 in
set_option maxHeartbeats 40000000 in
theorem impl_fitting.calls (A0 : Option Addr) (c0 : Nat) (l0 : List S_Tile) (A1 : Option Addr) (c1 : Nat) (l1 : List Int) (r : List ByteArray) (w : World) (hr0 : Kd.C k53 w A0 l0.length l0) (hc0 : l0.length ≤ c0) (hr1 : Kd.C (Kd.int .i64) w A1 l1.length l1) (hc1 : l1.length ≤ c1) (h : impl_fitting.f l0 l1 = some r) :
  Calls Tryz.prog 60 #[.slice A0 l0.length c0, .slice A1 l1.length c1] w fun e w' => ∃ v0_ : Value, e = .returned (v0_) ∧ Kd.R Kd.string 9 w' w.heap.size (fun _ => True) v0_ r ∧ Below w.heap.size w w' := by
 unfold impl_fitting.f at h
 by_cases hsz : handB l0 = true ∧ l1.length ≤ 2000000
 case neg => rw [if_neg hsz] at h; cases h
 rw [if_pos hsz] at h
 obtain ⟨hb0, hz1⟩ := hsz
 obtain ⟨cs, hcs⟩ : ∃ cs, cs = [old w w.heap.size] := ⟨_, rfl⟩
 have hp : Hp w cs w := by rw [hcs]; exact Hp.old_start w
 have hc2 : ∀ W, Hp w cs W → Below w.heap.size w W := fun W h => by rw [hcs] at h; exact h.since 0 _ rfl
 have hC0 : ∀ W, Hp w cs W → Kd.C k53 W A0 l0.length l0 := fun W h => Kd.C_below hr0 (hc2 W h)
 have hC1 : ∀ W, Hp w cs W → Kd.C (Kd.int .i64) W A1 l1.length l1 := fun W h => Kd.C_below hr1 (hc2 W h)
 clear hcs
 refine sx_enter (N := 52) (l := [.slice A0 l0.length c0, .slice A1 l1.length c1]) Tryz.func60 rfl rfl rfl ?_
 refine wp_seq ?_
 refine sx_region ?_
 refine sx_rd 4 (.slice none 0 0) (by rfl) (by kernel_rfl) ?_
 refine sx_nil ?_
 refine ex_then_n ?_
 refine wp_seq ?_
 refine sx_region ?_
 refine sx_lit 10 (by rfl) Kd.string w.heap.size 9 ([] : List ByteArray) [] (fun W => by kernel_rfl) (Reps.none _ _) (by simp) hp.size hp ?_
 intro g_1 F_2 W_3 hp hz; clear hz
 refine sx_rd 5 (.slice (some ⟨g_1, 0, none⟩) (([] : List ByteArray).length) (([] : List ByteArray).length)) (by rfl) (by kernel_rfl) ?_
 refine sx_nil ?_
 refine ex_then_n ?_
 refine wp_seq ?_
 refine wp_seq ?_
 refine sx_region ?_
 refine sx_rd 11 (.slice A0 l0.length c0) (by rfl) (by kernel_rfl) ?_
 refine sx_call 12 (by rfl) (by kernel_rfl) ((impl_sorted.calls A0 c0 l0 _ _ (hC0 _ hp.tail) hc0 (sorted_handG hb0)).mono ?_)
 rintro _ W_9 ⟨v_5, rfl, hR_4, hb⟩
 refine ⟨_, rfl, ?_⟩
 obtain ⟨A_6, c_7, rfl, hcc_c_7, _⟩ := Kd.R_reads hR_4
 obtain ⟨F_8, hp⟩ : ∃ F, Hp w (row k53 53 w.heap.size (.slice A_6 (sortT l0).length c_7) (sortT l0) F :: row Kd.string 9 w.heap.size (.slice (some ⟨g_1, 0, none⟩) (([] : List ByteArray).length) (([] : List ByteArray).length)) ([] : List ByteArray) F_2 :: cs) _ := ⟨_, Hp.made hp hb hR_4⟩
 refine sx_rd 13 (.int .i64 ((sortT l0).length : Int)) (by rfl) (by kernel_rfl) ?_
 refine sx_rd 14 (.int .i64 0) (by rfl) (by kernel_rfl) ?_
 refine sx_nil ?_
 refine ex_then_n ?_
 refine wp_block ?_
 have hTl := sortT_len l0
 have e0_10 : ([] : List ByteArray) = ((fitTo l1 (sortT l0) 0).map txt) := rfl
 have hp : Hp w (row k53 53 w.heap.size (.slice A_6 ((sortT l0).length) c_7) (sortT l0) F_8 :: row Kd.string 9 w.heap.size (.slice (some ⟨g_1, 0, none⟩) (([] : List ByteArray).length) (([] : List ByteArray).length)) ((fitTo l1 (sortT l0) 0).map txt) F_2 :: cs) W_9 := by rw [← e0_10]; exact hp
 refine wp_loop_ghost (fun n_ a_ W => ∃ (r_ : List (Nat × Value)) (i : Nat) (Ai5 : Option Addr) (ni5 ci5 : Nat) (Fi5 : Nat → Prop), n_ = (sortT l0).length - i ∧ a_ = fr 52 ([(1, .slice A1 l1.length c1), (5, .slice Ai5 ni5 ci5), (12, .slice A_6 ((sortT l0).length) c_7), (13, .int .i64 ((sortT l0).length : Int)), (14, .int .i64 (i : Int))] ++ r_) ∧ Hp w (row Kd.string 9 w.heap.size (.slice Ai5 ni5 ci5) ((fitTo l1 (sortT l0) i).map txt) Fi5 :: row k53 53 w.heap.size (.slice A_6 ((sortT l0).length) c_7) (sortT l0) F_8 :: cs) W ∧ (i ≤ (sortT l0).length)) _ ⟨_, 0, _, _, _, _, rfl, fr_front [(1, .slice A1 l1.length c1), (5, .slice (some ⟨g_1, 0, none⟩) (([] : List ByteArray).length) (([] : List ByteArray).length)), (12, .slice A_6 ((sortT l0).length) c_7), (13, .int .i64 ((sortT l0).length : Int)), (14, .int .i64 0)] ⟨rfl, rfl, rfl, rfl, rfl, trivial⟩, (hp.take [1, 0] 2 (by decide) (by simp)), Nat.zero_le _⟩ ?_
 rintro _ _ W_11 ⟨r_, i, Ai5, ni5, ci5, Fi5, rfl, rfl, hp, hi⟩
 obtain ⟨rfl, hcci5⟩ := row_len (hp.at_ 0 _ (by rfl))
 have hfl := fitTo_len l1 (sortT l0) i (by omega)
 refine wp_seq ?_
 refine sx_region ?_
 refine sx_rd 15 (.bool (decide ((i : Int) < ((sortT l0).length : Int)))) (by rfl) (by kernel_rfl) ?_
 refine sx_nil ?_
 refine ex_then_n ?_
 refine wp_seq ?_
 refine sx_cond (decide ((i : Int) < ((sortT l0).length : Int))) (by rfl) (fun c_12 => ?_) (fun c_12 => ?_)
 ·
  have c_12p := of_decide_eq_true c_12
  refine wp_skip ?_
  refine ex_then_n ?_
  refine wp_seq ?_
  refine wp_block ?_
  refine wp_seq ?_
  refine sx_region ?_
  refine sx_rd 16 (.pointer (some (adr A_6 (i : Int) 2))) (by rfl) (ix_run (d := k53) (row_C (hp.at_ 1 _ (by rfl))) (t := 29) (by rfl) (by rfl) (by rfl) Tryz.underlying29 (by kernel_rfl) (by omega) (by omega)) ?_
  refine sx_rd 17 (.agg #[.int .i64 ((rd_Tile (sortT l0) (i : Int)).f0), .int .i64 ((rd_Tile (sortT l0) (i : Int)).f1)]) (by rfl) (el_run (d := k53) (row_C (hp.at_ 1 _ (by rfl))) z53 (i : Int) (by omega) (by omega) (cells := [.int .i64 ((rd_Tile (sortT l0) (i : Int)).f0), .int .i64 ((rd_Tile (sortT l0) (i : Int)).f1)]) (fun cs h => k53_open h) 0 [.int .i64 ((rd_Tile (sortT l0) (i : Int)).f0), .int .i64 ((rd_Tile (sortT l0) (i : Int)).f1)] (by rfl) (t := 53) (p := (.tmp 16)) (by rfl) (by rfl) (by kernel_rfl) (by kernel_rfl)) ?_
  refine sx_box 7 hp #[.int .i64 0, .int .i64 0] 53 (by rfl) (fun W => by kernel_rfl) ?_
  intro g_13 W_14 hp
  refine sx_store (t := 53) (p := (.tmp 7)) (x := (.tmp 17)) (by rfl) (by rfl) 0 (by rfl) 0 [.int .i64 ((rd_Tile (sortT l0) (i : Int)).f0), .int .i64 ((rd_Tile (sortT l0) (i : Int)).f1)] (by rfl) (by rfl) (by kernel_rfl) (by simp [Value.oneCell']) (by show 2 ≤ 2; omega) #[.int .i64 ((rd_Tile (sortT l0) (i : Int)).f0), .int .i64 ((rd_Tile (sortT l0) (i : Int)).f1)] (by rfl) hp ?_
  intro W_15 hp; simp only [List.set_cons_succ, List.set_cons_zero] at hp
  refine sx_nil ?_
  refine ex_then_n ?_
  refine wp_seq ?_
  refine wp_seq ?_
  refine sx_region ?_
  refine sx_rd 18 (.slice A1 l1.length c1) (by rfl) (by kernel_rfl) ?_
  refine sx_rd 19 (.int .i64 (l1.length : Int)) (by rfl) (by kernel_rfl) ?_
  refine sx_rd 20 (.bool ((l1.length : Int) == 0)) (by rfl) (by kernel_rfl) ?_
  refine sx_nil ?_
  refine ex_then_n ?_
  refine sx_cond ((l1.length : Int) == 0) (by rfl) (fun c_16 => ?_) (fun c_16 => ?_)
  ·
   have c_16p := eq_of_beq_ c_16
   refine wp_seq ?_
   refine sx_region ?_
   refine sx_rd 21 (.slice Ai5 (((fitTo l1 (sortT l0) i).map txt).length) ci5) (by rfl) (by kernel_rfl) ?_
   refine sx_rd 22 (.agg #[.int .i64 ((rd_Tile (sortT l0) (i : Int)).f0), .int .i64 ((rd_Tile (sortT l0) (i : Int)).f1)]) (by rfl) (ldn (t := 53) (p := (.tmp 7)) (by rfl) (by rfl) (by kernel_rfl) (by kernel_rfl) (by kernel_rfl) (hp.at_ 0 _ (by rfl))) ?_
   refine sx_call 23 (by rfl) (by kernel_rfl) ((impl_Tile_digits.calls ((rd_Tile (sortT l0) (i : Int)).f0) ((rd_Tile (sortT l0) (i : Int)).f1) _ _ rfl).mono ?_)
   rintro _ W_17 ⟨rfl, hb⟩
   refine ⟨_, rfl, ?_⟩
   replace hp := hp.below hb
   clear hb
   refine sx_rd 24 (.string ((strOfNums [num1 (rd_Tile (sortT l0) (i : Int)).f0, num1 (rd_Tile (sortT l0) (i : Int)).f1]) ++ (⟨#[108]⟩ : ByteArray))) (by rfl) (sadd_run (by rfl) (by rfl) (by rfl) (by rw [strOfNums_size]; simp only [List.length_cons, List.length_nil]; decide)) ?_
   refine sx_lit 25 (by rfl) Kd.string w.heap.size 9 ([((strOfNums [num1 (rd_Tile (sortT l0) (i : Int)).f0, num1 (rd_Tile (sortT l0) (i : Int)).f1]) ++ (⟨#[108]⟩ : ByteArray))]) [.string ((strOfNums [num1 (rd_Tile (sortT l0) (i : Int)).f0, num1 (rd_Tile (sortT l0) (i : Int)).f1]) ++ (⟨#[108]⟩ : ByteArray))] (fun W => by kernel_rfl) (Reps.snoc (cs := []) (Reps.none _ _) rfl rfl) (by simp) hp.size hp ?_
   intro g_18 F_19 W_20 hp hz; clear hz
   refine sx_append 26 (by rfl) Kd.string 2 (by rfl) (.string ByteArray.empty) 16 (by rfl) Tryz.underlying64 (by kernel_rfl) rfl (by decide) (by decide) ([((strOfNums [num1 (rd_Tile (sortT l0) (i : Int)).f0, num1 (rd_Tile (sortT l0) (i : Int)).f1]) ++ (⟨#[108]⟩ : ByteArray))]) (by rfl) (by rfl) (row_C (hp.at_ 0 _ (by rfl))) (fun x cs h => h) hp.size (by first | omega | (simp; omega)) hp ?_
   intro A_21 c_22 F_23 W_24 hp hz; clear hz; simp only [List.set_cons_succ, List.set_cons_zero] at hp
   refine sx_rd 5 (.slice A_21 ((((fitTo l1 (sortT l0) i).map txt) ++ [((strOfNums [num1 (rd_Tile (sortT l0) (i : Int)).f0, num1 (rd_Tile (sortT l0) (i : Int)).f1]) ++ (⟨#[108]⟩ : ByteArray))]).length) c_22) (by rfl) (by kernel_rfl) ?_
   refine sx_nil ?_
   refine ex_then_n ?_
   refine wp_exit ?_
   refine ex_then_e (ex_blk_here ?_)
   refine ex_then_n ?_
   refine sx_region ?_
   refine sx_rd 50 (.int .i64 ((i : Int) + 1)) (by rfl) (wr_ok (by omega) (by kernel_rfl)) ?_
   refine sx_rd 14 (.int .i64 ((i : Int) + 1)) (by rfl) (by kernel_rfl) ?_
   refine sx_nil ?_
   refine ex_then_n ?_
   have hq_25 : (((fitTo l1 (sortT l0) i).map txt) ++ [((strOfNums [num1 (rd_Tile (sortT l0) (i : Int)).f0, num1 (rd_Tile (sortT l0) (i : Int)).f1]) ++ (⟨#[108]⟩ : ByteArray))]) = ((fitTo l1 (sortT l0) (i + 1)).map txt) := by rw [fitTo_next l1 (sortT l0) i (by omega), List.map_append, fitL_nil (by omega)]; rfl
   rw [hq_25] at hp
   exact ⟨_, (by omega), _, (i + 1), _, _, _, _, rfl, fr_front [(1, .slice A1 l1.length c1), (5, .slice A_21 (((fitTo l1 (sortT l0) (i + 1)).map txt).length) c_22), (12, .slice A_6 ((sortT l0).length) c_7), (13, .int .i64 ((sortT l0).length : Int)), (14, .int .i64 ((i + 1 : Nat) : Int))] ⟨rfl, congrArg (fun z : List ByteArray => Value.slice A_21 z.length c_22) hq_25, rfl, rfl, rfl, trivial⟩, (hp.take [2, 3] 4 (by decide) (by simp)), (by omega)⟩
  ·
   have c_16p := ne_of_beq_ c_16
   refine wp_skip ?_
   refine ex_then_n ?_
   refine wp_seq ?_
   refine sx_region ?_
   refine sx_rd 28 (.slice A1 l1.length c1) (by rfl) (by kernel_rfl) ?_
   refine sx_call 29 (by rfl) (by kernel_rfl) ((impl_ends.calls A1 c1 l1 _ _ _ (hC1 _ hp.tail.tail.tail) hc1 (ends_eq (by omega) hz1)).mono ?_)
   rintro _ W_26 ⟨rfl, hb⟩
   refine ⟨_, rfl, ?_⟩
   replace hp := hp.below hb.below
   clear hb
   refine sx_rd 27 (.tuple #[.int .i64 (endA l1), .int .i64 (endB l1)]) (by rfl) (by kernel_rfl) ?_
   refine sx_rd 30 (.int .i64 (endA l1)) (by rfl) (by kernel_rfl) ?_
   refine sx_rd 31 (.int .i64 (endB l1)) (by rfl) (by kernel_rfl) ?_
   refine sx_rd 8 (.int .i64 (endA l1)) (by rfl) (by kernel_rfl) ?_
   refine sx_rd 9 (.int .i64 (endB l1)) (by rfl) (by kernel_rfl) ?_
   refine sx_nil ?_
   refine ex_then_n ?_
   refine wp_seq ?_
   refine wp_seq ?_
   refine sx_region ?_
   refine sx_rd 32 (.agg #[.int .i64 ((rd_Tile (sortT l0) (i : Int)).f0), .int .i64 ((rd_Tile (sortT l0) (i : Int)).f1)]) (by rfl) (ldn (t := 53) (p := (.tmp 7)) (by rfl) (by rfl) (by kernel_rfl) (by kernel_rfl) (by kernel_rfl) (hp.at_ 0 _ (by rfl))) ?_
   refine sx_rd 33 (.int .i64 (endA l1)) (by rfl) (by kernel_rfl) ?_
   refine sx_call 34 (by rfl) (by kernel_rfl) ((impl_Tile_has.calls ((rd_Tile (sortT l0) (i : Int)).f0) ((rd_Tile (sortT l0) (i : Int)).f1) (endA l1) _ _ (has_eq (rd_Tile (sortT l0) (i : Int)).f0 (rd_Tile (sortT l0) (i : Int)).f1 (endA l1))).mono ?_)
   rintro _ W_27 ⟨rfl, hb⟩
   refine ⟨_, rfl, ?_⟩
   replace hp := hp.below hb
   clear hb
   refine sx_nil ?_
   refine ex_then_n ?_
   refine sx_cond (hasT (rd_Tile (sortT l0) (i : Int)) (endA l1)) (by rfl) (fun c_28 => ?_) (fun c_28 => ?_)
   ·
    refine sx_region ?_
    refine sx_rd 35 (.slice Ai5 (((fitTo l1 (sortT l0) i).map txt).length) ci5) (by rfl) (by kernel_rfl) ?_
    refine sx_rd 36 (.agg #[.int .i64 ((rd_Tile (sortT l0) (i : Int)).f0), .int .i64 ((rd_Tile (sortT l0) (i : Int)).f1)]) (by rfl) (ldn (t := 53) (p := (.tmp 7)) (by rfl) (by rfl) (by kernel_rfl) (by kernel_rfl) (by kernel_rfl) (hp.at_ 0 _ (by rfl))) ?_
    refine sx_call 37 (by rfl) (by kernel_rfl) ((impl_Tile_digits.calls ((rd_Tile (sortT l0) (i : Int)).f0) ((rd_Tile (sortT l0) (i : Int)).f1) _ _ rfl).mono ?_)
    rintro _ W_29 ⟨rfl, hb⟩
    refine ⟨_, rfl, ?_⟩
    replace hp := hp.below hb
    clear hb
    refine sx_rd 38 (.string ((strOfNums [num1 (rd_Tile (sortT l0) (i : Int)).f0, num1 (rd_Tile (sortT l0) (i : Int)).f1]) ++ (⟨#[108]⟩ : ByteArray))) (by rfl) (sadd_run (by rfl) (by rfl) (by rfl) (by rw [strOfNums_size]; simp only [List.length_cons, List.length_nil]; decide)) ?_
    refine sx_lit 39 (by rfl) Kd.string w.heap.size 9 ([((strOfNums [num1 (rd_Tile (sortT l0) (i : Int)).f0, num1 (rd_Tile (sortT l0) (i : Int)).f1]) ++ (⟨#[108]⟩ : ByteArray))]) [.string ((strOfNums [num1 (rd_Tile (sortT l0) (i : Int)).f0, num1 (rd_Tile (sortT l0) (i : Int)).f1]) ++ (⟨#[108]⟩ : ByteArray))] (fun W => by kernel_rfl) (Reps.snoc (cs := []) (Reps.none _ _) rfl rfl) (by simp) hp.size hp ?_
    intro g_30 F_31 W_32 hp hz; clear hz
    refine sx_append 40 (by rfl) Kd.string 2 (by rfl) (.string ByteArray.empty) 16 (by rfl) Tryz.underlying64 (by kernel_rfl) rfl (by decide) (by decide) ([((strOfNums [num1 (rd_Tile (sortT l0) (i : Int)).f0, num1 (rd_Tile (sortT l0) (i : Int)).f1]) ++ (⟨#[108]⟩ : ByteArray))]) (by rfl) (by rfl) (row_C (hp.at_ 0 _ (by rfl))) (fun x cs h => h) hp.size (by first | omega | (simp; omega)) hp ?_
    intro A_33 c_34 F_35 W_36 hp hz; clear hz; simp only [List.set_cons_succ, List.set_cons_zero] at hp
    refine sx_rd 5 (.slice A_33 ((((fitTo l1 (sortT l0) i).map txt) ++ [((strOfNums [num1 (rd_Tile (sortT l0) (i : Int)).f0, num1 (rd_Tile (sortT l0) (i : Int)).f1]) ++ (⟨#[108]⟩ : ByteArray))]).length) c_34) (by rfl) (by kernel_rfl) ?_
    refine sx_nil ?_
    refine ex_then_n ?_
    refine wp_seq ?_
    refine sx_region ?_
    refine sx_rd 41 (.agg #[.int .i64 ((rd_Tile (sortT l0) (i : Int)).f0), .int .i64 ((rd_Tile (sortT l0) (i : Int)).f1)]) (by rfl) (ldn (t := 53) (p := (.tmp 7)) (by rfl) (by rfl) (by kernel_rfl) (by kernel_rfl) (by kernel_rfl) (hp.at_ 1 _ (by rfl))) ?_
    refine sx_rd 42 (.int .i64 (endB l1)) (by rfl) (by kernel_rfl) ?_
    refine sx_call 43 (by rfl) (by kernel_rfl) ((impl_Tile_has.calls ((rd_Tile (sortT l0) (i : Int)).f0) ((rd_Tile (sortT l0) (i : Int)).f1) (endB l1) _ _ (has_eq (rd_Tile (sortT l0) (i : Int)).f0 (rd_Tile (sortT l0) (i : Int)).f1 (endB l1))).mono ?_)
    rintro _ W_37 ⟨rfl, hb⟩
    refine ⟨_, rfl, ?_⟩
    replace hp := hp.below hb
    clear hb
    refine sx_nil ?_
    refine ex_then_n ?_
    refine sx_cond (hasT (rd_Tile (sortT l0) (i : Int)) (endB l1)) (by rfl) (fun c_38 => ?_) (fun c_38 => ?_)
    ·
     refine sx_region ?_
     refine sx_rd 44 (.slice A_33 ((((fitTo l1 (sortT l0) i).map txt) ++ [((strOfNums [num1 (rd_Tile (sortT l0) (i : Int)).f0, num1 (rd_Tile (sortT l0) (i : Int)).f1]) ++ (⟨#[108]⟩ : ByteArray))]).length) c_34) (by rfl) (by kernel_rfl) ?_
     refine sx_rd 45 (.agg #[.int .i64 ((rd_Tile (sortT l0) (i : Int)).f0), .int .i64 ((rd_Tile (sortT l0) (i : Int)).f1)]) (by rfl) (ldn (t := 53) (p := (.tmp 7)) (by rfl) (by rfl) (by kernel_rfl) (by kernel_rfl) (by kernel_rfl) (hp.at_ 1 _ (by rfl))) ?_
     refine sx_call 46 (by rfl) (by kernel_rfl) ((impl_Tile_digits.calls ((rd_Tile (sortT l0) (i : Int)).f0) ((rd_Tile (sortT l0) (i : Int)).f1) _ _ rfl).mono ?_)
     rintro _ W_39 ⟨rfl, hb⟩
     refine ⟨_, rfl, ?_⟩
     replace hp := hp.below hb
     clear hb
     refine sx_rd 47 (.string ((strOfNums [num1 (rd_Tile (sortT l0) (i : Int)).f0, num1 (rd_Tile (sortT l0) (i : Int)).f1]) ++ (⟨#[114]⟩ : ByteArray))) (by rfl) (sadd_run (by rfl) (by rfl) (by rfl) (by rw [strOfNums_size]; simp only [List.length_cons, List.length_nil]; decide)) ?_
     refine sx_lit 48 (by rfl) Kd.string w.heap.size 9 ([((strOfNums [num1 (rd_Tile (sortT l0) (i : Int)).f0, num1 (rd_Tile (sortT l0) (i : Int)).f1]) ++ (⟨#[114]⟩ : ByteArray))]) [.string ((strOfNums [num1 (rd_Tile (sortT l0) (i : Int)).f0, num1 (rd_Tile (sortT l0) (i : Int)).f1]) ++ (⟨#[114]⟩ : ByteArray))] (fun W => by kernel_rfl) (Reps.snoc (cs := []) (Reps.none _ _) rfl rfl) (by simp) hp.size hp ?_
     intro g_40 F_41 W_42 hp hz; clear hz
     refine sx_append 49 (by rfl) Kd.string 3 (by rfl) (.string ByteArray.empty) 16 (by rfl) Tryz.underlying64 (by kernel_rfl) rfl (by decide) (by decide) ([((strOfNums [num1 (rd_Tile (sortT l0) (i : Int)).f0, num1 (rd_Tile (sortT l0) (i : Int)).f1]) ++ (⟨#[114]⟩ : ByteArray))]) (by rfl) (by rfl) (row_C (hp.at_ 0 _ (by rfl))) (fun x cs h => h) hp.size (by first | omega | (simp; omega)) hp ?_
     intro A_43 c_44 F_45 W_46 hp hz; clear hz; simp only [List.set_cons_succ, List.set_cons_zero] at hp
     refine sx_rd 5 (.slice A_43 (((((fitTo l1 (sortT l0) i).map txt) ++ [((strOfNums [num1 (rd_Tile (sortT l0) (i : Int)).f0, num1 (rd_Tile (sortT l0) (i : Int)).f1]) ++ (⟨#[108]⟩ : ByteArray))]) ++ [((strOfNums [num1 (rd_Tile (sortT l0) (i : Int)).f0, num1 (rd_Tile (sortT l0) (i : Int)).f1]) ++ (⟨#[114]⟩ : ByteArray))]).length) c_44) (by rfl) (by kernel_rfl) ?_
     refine sx_nil ?_
     refine ex_blk_n ?_
     refine ex_then_n ?_
     refine sx_region ?_
     refine sx_rd 50 (.int .i64 ((i : Int) + 1)) (by rfl) (wr_ok (by omega) (by kernel_rfl)) ?_
     refine sx_rd 14 (.int .i64 ((i : Int) + 1)) (by rfl) (by kernel_rfl) ?_
     refine sx_nil ?_
     refine ex_then_n ?_
     have hq_47 : ((((fitTo l1 (sortT l0) i).map txt) ++ [((strOfNums [num1 (rd_Tile (sortT l0) (i : Int)).f0, num1 (rd_Tile (sortT l0) (i : Int)).f1]) ++ (⟨#[108]⟩ : ByteArray))]) ++ [((strOfNums [num1 (rd_Tile (sortT l0) (i : Int)).f0, num1 (rd_Tile (sortT l0) (i : Int)).f1]) ++ (⟨#[114]⟩ : ByteArray))]) = ((fitTo l1 (sortT l0) (i + 1)).map txt) := by rw [fitTo_next l1 (sortT l0) i (by omega), List.map_append, fitL_of (a := true) (b := true) (by omega) c_28 c_38]; simp [txt]
     rw [hq_47] at hp
     exact ⟨_, (by omega), _, (i + 1), _, _, _, _, rfl, fr_front [(1, .slice A1 l1.length c1), (5, .slice A_43 (((fitTo l1 (sortT l0) (i + 1)).map txt).length) c_44), (12, .slice A_6 ((sortT l0).length) c_7), (13, .int .i64 ((sortT l0).length : Int)), (14, .int .i64 ((i + 1 : Nat) : Int))] ⟨rfl, congrArg (fun z : List ByteArray => Value.slice A_43 z.length c_44) hq_47, rfl, rfl, rfl, trivial⟩, (hp.take [3, 4] 5 (by decide) (by simp)), (by omega)⟩
    ·
     refine wp_skip ?_
     refine ex_blk_n ?_
     refine ex_then_n ?_
     refine sx_region ?_
     refine sx_rd 50 (.int .i64 ((i : Int) + 1)) (by rfl) (wr_ok (by omega) (by kernel_rfl)) ?_
     refine sx_rd 14 (.int .i64 ((i : Int) + 1)) (by rfl) (by kernel_rfl) ?_
     refine sx_nil ?_
     refine ex_then_n ?_
     have hq_48 : (((fitTo l1 (sortT l0) i).map txt) ++ [((strOfNums [num1 (rd_Tile (sortT l0) (i : Int)).f0, num1 (rd_Tile (sortT l0) (i : Int)).f1]) ++ (⟨#[108]⟩ : ByteArray))]) = ((fitTo l1 (sortT l0) (i + 1)).map txt) := by rw [fitTo_next l1 (sortT l0) i (by omega), List.map_append, fitL_of (a := true) (b := false) (by omega) c_28 c_38]; simp [txt]
     rw [hq_48] at hp
     exact ⟨_, (by omega), _, (i + 1), _, _, _, _, rfl, fr_front [(1, .slice A1 l1.length c1), (5, .slice A_33 (((fitTo l1 (sortT l0) (i + 1)).map txt).length) c_34), (12, .slice A_6 ((sortT l0).length) c_7), (13, .int .i64 ((sortT l0).length : Int)), (14, .int .i64 ((i + 1 : Nat) : Int))] ⟨rfl, congrArg (fun z : List ByteArray => Value.slice A_33 z.length c_34) hq_48, rfl, rfl, rfl, trivial⟩, (hp.take [2, 3] 4 (by decide) (by simp)), (by omega)⟩
   ·
    refine wp_skip ?_
    refine ex_then_n ?_
    refine wp_seq ?_
    refine sx_region ?_
    refine sx_rd 41 (.agg #[.int .i64 ((rd_Tile (sortT l0) (i : Int)).f0), .int .i64 ((rd_Tile (sortT l0) (i : Int)).f1)]) (by rfl) (ldn (t := 53) (p := (.tmp 7)) (by rfl) (by rfl) (by kernel_rfl) (by kernel_rfl) (by kernel_rfl) (hp.at_ 0 _ (by rfl))) ?_
    refine sx_rd 42 (.int .i64 (endB l1)) (by rfl) (by kernel_rfl) ?_
    refine sx_call 43 (by rfl) (by kernel_rfl) ((impl_Tile_has.calls ((rd_Tile (sortT l0) (i : Int)).f0) ((rd_Tile (sortT l0) (i : Int)).f1) (endB l1) _ _ (has_eq (rd_Tile (sortT l0) (i : Int)).f0 (rd_Tile (sortT l0) (i : Int)).f1 (endB l1))).mono ?_)
    rintro _ W_49 ⟨rfl, hb⟩
    refine ⟨_, rfl, ?_⟩
    replace hp := hp.below hb
    clear hb
    refine sx_nil ?_
    refine ex_then_n ?_
    refine sx_cond (hasT (rd_Tile (sortT l0) (i : Int)) (endB l1)) (by rfl) (fun c_50 => ?_) (fun c_50 => ?_)
    ·
     refine sx_region ?_
     refine sx_rd 44 (.slice Ai5 (((fitTo l1 (sortT l0) i).map txt).length) ci5) (by rfl) (by kernel_rfl) ?_
     refine sx_rd 45 (.agg #[.int .i64 ((rd_Tile (sortT l0) (i : Int)).f0), .int .i64 ((rd_Tile (sortT l0) (i : Int)).f1)]) (by rfl) (ldn (t := 53) (p := (.tmp 7)) (by rfl) (by rfl) (by kernel_rfl) (by kernel_rfl) (by kernel_rfl) (hp.at_ 0 _ (by rfl))) ?_
     refine sx_call 46 (by rfl) (by kernel_rfl) ((impl_Tile_digits.calls ((rd_Tile (sortT l0) (i : Int)).f0) ((rd_Tile (sortT l0) (i : Int)).f1) _ _ rfl).mono ?_)
     rintro _ W_51 ⟨rfl, hb⟩
     refine ⟨_, rfl, ?_⟩
     replace hp := hp.below hb
     clear hb
     refine sx_rd 47 (.string ((strOfNums [num1 (rd_Tile (sortT l0) (i : Int)).f0, num1 (rd_Tile (sortT l0) (i : Int)).f1]) ++ (⟨#[114]⟩ : ByteArray))) (by rfl) (sadd_run (by rfl) (by rfl) (by rfl) (by rw [strOfNums_size]; simp only [List.length_cons, List.length_nil]; decide)) ?_
     refine sx_lit 48 (by rfl) Kd.string w.heap.size 9 ([((strOfNums [num1 (rd_Tile (sortT l0) (i : Int)).f0, num1 (rd_Tile (sortT l0) (i : Int)).f1]) ++ (⟨#[114]⟩ : ByteArray))]) [.string ((strOfNums [num1 (rd_Tile (sortT l0) (i : Int)).f0, num1 (rd_Tile (sortT l0) (i : Int)).f1]) ++ (⟨#[114]⟩ : ByteArray))] (fun W => by kernel_rfl) (Reps.snoc (cs := []) (Reps.none _ _) rfl rfl) (by simp) hp.size hp ?_
     intro g_52 F_53 W_54 hp hz; clear hz
     refine sx_append 49 (by rfl) Kd.string 2 (by rfl) (.string ByteArray.empty) 16 (by rfl) Tryz.underlying64 (by kernel_rfl) rfl (by decide) (by decide) ([((strOfNums [num1 (rd_Tile (sortT l0) (i : Int)).f0, num1 (rd_Tile (sortT l0) (i : Int)).f1]) ++ (⟨#[114]⟩ : ByteArray))]) (by rfl) (by rfl) (row_C (hp.at_ 0 _ (by rfl))) (fun x cs h => h) hp.size (by first | omega | (simp; omega)) hp ?_
     intro A_55 c_56 F_57 W_58 hp hz; clear hz; simp only [List.set_cons_succ, List.set_cons_zero] at hp
     refine sx_rd 5 (.slice A_55 ((((fitTo l1 (sortT l0) i).map txt) ++ [((strOfNums [num1 (rd_Tile (sortT l0) (i : Int)).f0, num1 (rd_Tile (sortT l0) (i : Int)).f1]) ++ (⟨#[114]⟩ : ByteArray))]).length) c_56) (by rfl) (by kernel_rfl) ?_
     refine sx_nil ?_
     refine ex_blk_n ?_
     refine ex_then_n ?_
     refine sx_region ?_
     refine sx_rd 50 (.int .i64 ((i : Int) + 1)) (by rfl) (wr_ok (by omega) (by kernel_rfl)) ?_
     refine sx_rd 14 (.int .i64 ((i : Int) + 1)) (by rfl) (by kernel_rfl) ?_
     refine sx_nil ?_
     refine ex_then_n ?_
     have hq_59 : (((fitTo l1 (sortT l0) i).map txt) ++ [((strOfNums [num1 (rd_Tile (sortT l0) (i : Int)).f0, num1 (rd_Tile (sortT l0) (i : Int)).f1]) ++ (⟨#[114]⟩ : ByteArray))]) = ((fitTo l1 (sortT l0) (i + 1)).map txt) := by rw [fitTo_next l1 (sortT l0) i (by omega), List.map_append, fitL_of (a := false) (b := true) (by omega) c_28 c_50]; simp [txt]
     rw [hq_59] at hp
     exact ⟨_, (by omega), _, (i + 1), _, _, _, _, rfl, fr_front [(1, .slice A1 l1.length c1), (5, .slice A_55 (((fitTo l1 (sortT l0) (i + 1)).map txt).length) c_56), (12, .slice A_6 ((sortT l0).length) c_7), (13, .int .i64 ((sortT l0).length : Int)), (14, .int .i64 ((i + 1 : Nat) : Int))] ⟨rfl, congrArg (fun z : List ByteArray => Value.slice A_55 z.length c_56) hq_59, rfl, rfl, rfl, trivial⟩, (hp.take [2, 3] 4 (by decide) (by simp)), (by omega)⟩
    ·
     refine wp_skip ?_
     refine ex_blk_n ?_
     refine ex_then_n ?_
     refine sx_region ?_
     refine sx_rd 50 (.int .i64 ((i : Int) + 1)) (by rfl) (wr_ok (by omega) (by kernel_rfl)) ?_
     refine sx_rd 14 (.int .i64 ((i : Int) + 1)) (by rfl) (by kernel_rfl) ?_
     refine sx_nil ?_
     refine ex_then_n ?_
     have hq_60 : ((fitTo l1 (sortT l0) i).map txt) = ((fitTo l1 (sortT l0) (i + 1)).map txt) := by rw [fitTo_next l1 (sortT l0) i (by omega), List.map_append, fitL_of (a := false) (b := false) (by omega) c_28 c_50]; simp [txt]
     rw [hq_60] at hp
     exact ⟨_, (by omega), _, (i + 1), _, _, _, _, rfl, fr_front [(1, .slice A1 l1.length c1), (5, .slice Ai5 (((fitTo l1 (sortT l0) (i + 1)).map txt).length) ci5), (12, .slice A_6 ((sortT l0).length) c_7), (13, .int .i64 ((sortT l0).length : Int)), (14, .int .i64 ((i + 1 : Nat) : Int))] ⟨rfl, congrArg (fun z : List ByteArray => Value.slice Ai5 z.length ci5) hq_60, rfl, rfl, rfl, trivial⟩, (hp.take [1, 2] 3 (by decide) (by simp)), (by omega)⟩
 ·
  have c_12p := of_decide_eq_false c_12
  refine wp_exit ?_
  refine ex_then_e (ex_then_e (ex_blk_here ?_))
  refine ex_then_n ?_
  refine wp_seq ?_
  refine sx_region ?_
  refine sx_rd 51 (.slice Ai5 (((fitTo l1 (sortT l0) i).map txt).length) ci5) (by rfl) (by kernel_rfl) ?_
  refine sx_rd 4 (.slice Ai5 (((fitTo l1 (sortT l0) i).map txt).length) ci5) (by rfl) (by kernel_rfl) ?_
  refine sx_nil ?_
  refine ex_then_n ?_
  refine wp_ret ?_
  refine sx_end (.slice Ai5 (((fitTo l1 (sortT l0) i).map txt).length) ci5) (res1 4 (by rfl)) ?_
  obtain rfl : i = (sortT l0).length := by omega
  obtain rfl := Option.some.inj h
  exact ⟨_, rfl, Kd.R_mono (row_R (hp.at_ 0 _ (by rfl))) (fun _ _ => trivial), hc2 _ (hp.tail.tail)⟩
end Go.Proofs.YtjaojemmbeddfaaGreat.Hd
namespace Go.Proofs.YtjaojemmbeddfaaGreat.Hd
open Go.RowKit Go.Proofs.YtjaojemmbeddfaaGreat.Pure Go.Proofs.YtjaojemmbeddfaaGreatW.PrintWords Go.Proofs.YtjaojemmbeddfaaGreatW.PrintLast Go.Proofs.YtjaojemmbeddfaaGreatW.PrintMore
set_option linter.unusedVariables false
set_option linter.unusedSimpArgs false
def impl_Game_key.f (f s : List S_Tile) (r : List Int) (t p : Int) : Option ByteArray := if keyB f s r t p then some (mkU (gkey f s r t p)) else none
set_option maxRecDepth 100000 in
set_option maxHeartbeats 40000000 in
theorem impl_Game_key.calls (A0_0 : Option Addr) (c0_0 : Nat) (l0_0 : List S_Tile) (A0_1 : Option Addr) (c0_1 : Nat) (l0_1 : List S_Tile) (A0_2 : Option Addr) (c0_2 : Nat) (l0_2 : List Int) (a0_3 : Int) (a0_4 : Int) (r : ByteArray) (w : World) (hr0_0 : Kd.C k53 w A0_0 l0_0.length l0_0) (hc0_0 : l0_0.length ≤ c0_0) (hr0_1 : Kd.C k53 w A0_1 l0_1.length l0_1) (hc0_1 : l0_1.length ≤ c0_1) (hr0_2 : Kd.C (Kd.int .i64) w A0_2 l0_2.length l0_2) (hc0_2 : l0_2.length ≤ c0_2) (h : impl_Game_key.f l0_0 l0_1 l0_2 a0_3 a0_4 = some r) :
  Calls Tryz.prog 35 #[.agg #[.slice A0_0 l0_0.length c0_0, .slice A0_1 l0_1.length c0_1, .slice A0_2 l0_2.length c0_2, .int .i64 a0_3, .int .i64 a0_4]] w fun e w' => e = .returned (.string r) ∧ Below w.heap.size w w' := by
 have hok : keyB l0_0 l0_1 l0_2 a0_3 a0_4 := by by_cases q : keyB l0_0 l0_1 l0_2 a0_3 a0_4; exact q; unfold impl_Game_key.f at h; rw [if_neg q] at h; cases h
 have hok2 := hok
 obtain ⟨⟨⟨hf0, hf1⟩, hz2, ht0, hp0⟩, hrw⟩ := hok2
 obtain ⟨cs, hcs⟩ : ∃ cs, cs = [old w w.heap.size] := ⟨_, rfl⟩
 have hp : Hp w cs w := by rw [hcs]; exact Hp.old_start w
 have hc2 : ∀ W, Hp w cs W → Below w.heap.size w W := fun W h => by rw [hcs] at h; exact h.since 0 _ rfl
 have hC0_0 : ∀ W, Hp w cs W → Kd.C k53 W A0_0 l0_0.length l0_0 := fun W h => Kd.C_below hr0_0 (hc2 W h)
 have hC0_1 : ∀ W, Hp w cs W → Kd.C k53 W A0_1 l0_1.length l0_1 := fun W h => Kd.C_below hr0_1 (hc2 W h)
 have hC0_2 : ∀ W, Hp w cs W → Kd.C (Kd.int .i64) W A0_2 l0_2.length l0_2 := fun W h => Kd.C_below hr0_2 (hc2 W h)
 clear hcs
 refine sx_enter (N := 37) (l := [.agg #[.slice A0_0 l0_0.length c0_0, .slice A0_1 l0_1.length c0_1, .slice A0_2 l0_2.length c0_2, .int .i64 a0_3, .int .i64 a0_4]]) Tryz.func35 rfl rfl rfl ?_
 refine wp_seq ?_
 refine sx_region ?_
 refine sx_box 1 hp #[.slice A0_0 l0_0.length c0_0, .slice A0_1 l0_1.length c0_1, .slice A0_2 l0_2.length c0_2, .int .i64 a0_3, .int .i64 a0_4] 31 (by rfl) (fun W => by kernel_rfl) ?_
 intro g_1 W_2 hp
 refine sx_rd 2 (.string (⟨#[]⟩ : ByteArray)) (by rfl) (by kernel_rfl) ?_
 refine sx_nil ?_
 refine ex_then_n ?_
 refine wp_seq ?_
 refine sx_region ?_
 refine sx_rd 6 (.pointer (some ⟨g_1, 2, none⟩)) (by rfl) (by kernel_rfl) ?_
 refine sx_rd 7 (.slice A0_2 l0_2.length c0_2) (by rfl) (ld1 (t := 23) (p := (.tmp 6)) (by rfl) (by rfl) (by kernel_rfl) (hp.cell 0 (by rfl) 2 _ (by rfl))) ?_
 refine sx_rd 3 (.slice A0_2 l0_2.length c0_2) (by rfl) (by kernel_rfl) ?_
 refine sx_nil ?_
 refine ex_then_n ?_
 refine wp_seq ?_
 refine wp_seq ?_
 refine sx_region ?_
 refine sx_rd 8 (.slice A0_2 l0_2.length c0_2) (by rfl) (by kernel_rfl) ?_
 refine sx_rd 9 (.int .i64 (l0_2.length : Int)) (by rfl) (by kernel_rfl) ?_
 refine sx_rd 10 (.bool (decide ((l0_2.length : Int) > 0))) (by rfl) (by kernel_rfl) ?_
 refine sx_nil ?_
 refine ex_then_n ?_
 refine sx_cond (decide ((l0_2.length : Int) > 0)) (by rfl) (fun c_3 => ?_) (fun c_3 => ?_)
 ·
  have c_3p := of_decide_eq_true c_3
  refine wp_seq ?_
  refine sx_region ?_
  refine sx_rd 12 (.slice A0_2 l0_2.length c0_2) (by rfl) (by kernel_rfl) ?_
  refine sx_call 13 (by rfl) (by kernel_rfl) ((impl_ends.calls A0_2 c0_2 l0_2 _ _ _ (hC0_2 _ hp.tail) hc0_2 (ends_eq (by omega) hz2)).mono ?_)
  rintro _ W_4 ⟨rfl, hb⟩
  refine ⟨_, rfl, ?_⟩
  replace hp := hp.below hb.below
  clear hb
  refine sx_rd 11 (.tuple #[.int .i64 (endA l0_2), .int .i64 (endB l0_2)]) (by rfl) (by kernel_rfl) ?_
  refine sx_rd 14 (.int .i64 (endA l0_2)) (by rfl) (by kernel_rfl) ?_
  refine sx_rd 15 (.int .i64 (endB l0_2)) (by rfl) (by kernel_rfl) ?_
  refine sx_rd 4 (.int .i64 (endA l0_2)) (by rfl) (by kernel_rfl) ?_
  refine sx_rd 5 (.int .i64 (endB l0_2)) (by rfl) (by kernel_rfl) ?_
  refine sx_nil ?_
  refine ex_then_n ?_
  refine sx_region ?_
  refine sx_rd 16 (.int .i64 (endA l0_2)) (by rfl) (by kernel_rfl) ?_
  refine sx_rd 17 (.int .i64 (endB l0_2)) (by rfl) (by kernel_rfl) ?_
  refine sx_lit 18 (by rfl) (Kd.int .i64) w.heap.size 3 ([(endA l0_2), (endB l0_2)]) [.int .i64 (endA l0_2), .int .i64 (endB l0_2)] (fun W => by kernel_rfl) (reps_ints [(endA l0_2), (endB l0_2)]) (by simp) hp.size hp ?_
  intro g_5 F_6 W_7 hp hz; clear hz
  refine sx_rd 3 (.slice (some ⟨g_5, 0, none⟩) ([(endA l0_2), (endB l0_2)].length) ([(endA l0_2), (endB l0_2)].length)) (by rfl) (by kernel_rfl) ?_
  refine sx_nil ?_
  refine ex_then_n ?_
  refine wp_seq ?_
  refine sx_drawI (fun a_ W => ∃ (r_ : List (Nat × Value)) , a_ = fr 37 ([(2, .string (mkU (gkey l0_0 l0_1 l0_2 a0_3 a0_4)))] ++ r_) ∧ Hp w (row (Kd.int .i64) 3 w.heap.size (.slice (some ⟨g_5, 0, none⟩) ([(endA l0_2), (endB l0_2)].length) ([(endA l0_2), (endB l0_2)].length)) ([(endA l0_2), (endB l0_2)]) F_6 :: blk g_1 #[.slice A0_0 l0_0.length c0_0, .slice A0_1 l0_1.length c0_1, .slice A0_2 l0_2.length c0_2, .int .i64 a0_3, .int .i64 a0_4] 31 :: cs) W) [0, 4, 8, 10, 12] (.rd 1 (.rd 5 (.rd 11 (.rd 13 (.alt 2 (.alt 3 (.alt 6 (.alt 7 (.alt 9 (.alt 14 (.alt 15 (.alt 16 (.alt 17 (.rd 18 (.fin)) .non) .non) .non) .non) (.alt 14 (.alt 9 (.alt 15 (.alt 16 (.alt 17 (.rd 18 (.fin)) .non) .non) .non) .non) (.non))) (.alt 14 (.alt 7 (.alt 9 (.alt 15 (.alt 16 (.alt 17 (.rd 18 (.fin)) .non) .non) .non) .non) .non) (.non))) (.alt 14 (.alt 6 (.alt 7 (.alt 9 (.alt 15 (.alt 16 (.alt 17 (.rd 18 (.fin)) .non) .non) .non) .non) .non) .non) (.non))) (.alt 14 (.alt 3 (.alt 6 (.alt 7 (.alt 9 (.alt 15 (.alt 16 (.alt 17 (.rd 18 (.fin)) .non) .non) .non) .non) .non) .non) .non) (.non))) (.alt 14 (.alt 2 (.alt 3 (.alt 6 (.alt 7 (.alt 9 (.alt 15 (.alt 16 (.alt 17 (.rd 18 (.fin)) .non) .non) .non) .non) .non) .non) .non) .non) (.non))))))) 19 (C := Hp w (row (Kd.int .i64) 3 w.heap.size (.slice (some ⟨g_5, 0, none⟩) ([(endA l0_2), (endB l0_2)].length) ([(endA l0_2), (endB l0_2)].length)) ([(endA l0_2), (endB l0_2)]) F_6 :: blk g_1 #[.slice A0_0 l0_0.length c0_0, .slice A0_1 l0_1.length c0_1, .slice A0_2 l0_2.length c0_2, .int .i64 a0_3, .int .i64 a0_4] 31 :: cs)) (by kernel_rfl) (by kernel_rfl) (fun d _ _ _ _ h => by cases d <;> exact h) (fun W h => h.drew) hp ?_ ?_
  ·
   refine preI_read rfl ?_
   refine sxq_val 19 (.pointer (some ⟨g_1, 0, none⟩)) (by rfl) (fun W _ => (by kernel_rfl)) ?_
   refine sxq_nil ?_
   refine preI_read rfl ?_
   refine sxq_val 23 (.pointer (some ⟨g_1, 1, none⟩)) (by rfl) (fun W _ => (by kernel_rfl)) ?_
   refine sxq_nil ?_
   refine preI_read rfl ?_
   refine sxq_val 27 (.slice (some ⟨g_5, 0, none⟩) ([(endA l0_2), (endB l0_2)].length) ([(endA l0_2), (endB l0_2)].length)) (by rfl) (fun W _ => (by kernel_rfl)) ?_
   refine sxq_nil ?_
   refine preI_read rfl ?_
   refine sxq_val 29 (.pointer (some ⟨g_1, 3, none⟩)) (by rfl) (fun W _ => (by kernel_rfl)) ?_
   refine sxq_nil ?_
   refine preI_read rfl ?_
   refine sxq_val 31 (.pointer (some ⟨g_1, 4, none⟩)) (by rfl) (fun W _ => (by kernel_rfl)) ?_
   refine sxq_nil ?_
   refine preI_nil ?_
   intro W_8 hp
   refine treeI_rd rfl ?_
   refine sxq_val 20 (.slice A0_0 l0_0.length c0_0) (by rfl) (fun W hp => (ld1 (t := 29) (p := (.tmp 19)) (by rfl) (by rfl) (by kernel_rfl) (hp.cell 1 (by rfl) 0 _ (by rfl)))) ?_
   refine sxq_nil ?_
   refine treeI_rd rfl ?_
   refine sxq_val 24 (.slice A0_1 l0_1.length c0_1) (by rfl) (fun W hp => (ld1 (t := 29) (p := (.tmp 23)) (by rfl) (by rfl) (by kernel_rfl) (hp.cell 1 (by rfl) 1 _ (by rfl)))) ?_
   refine sxq_nil ?_
   refine treeI_rd rfl ?_
   refine sxq_val 30 (.int .i64 a0_3) (by rfl) (fun W hp => (ld1 (t := 3) (p := (.tmp 29)) (by rfl) (by rfl) (by kernel_rfl) (hp.cell 1 (by rfl) 3 _ (by rfl)))) ?_
   refine sxq_nil ?_
   refine treeI_rd rfl ?_
   refine sxq_val 32 (.int .i64 a0_4) (by rfl) (fun W hp => (ld1 (t := 3) (p := (.tmp 31)) (by rfl) (by rfl) (by kernel_rfl) (hp.cell 1 (by rfl) 4 _ (by rfl)))) ?_
   refine sxq_nil ?_
   refine treeI_alt rfl ?_ ?_
   ·
    refine sx_call 21 (by rfl) (by kernel_rfl) ((impl_sorted.calls A0_0 c0_0 l0_0 _ _ (hC0_0 _ hp.tail.tail) hc0_0 (sorted_handG hf0)).mono ?_)
    rintro _ W_14 ⟨v_10, rfl, hR_9, hb⟩
    refine ⟨_, rfl, ?_⟩
    obtain ⟨A_11, c_12, rfl, hcc_c_12, _⟩ := Kd.R_reads hR_9
    obtain ⟨F_13, hp⟩ : ∃ F, Hp w (row k53 53 w.heap.size (.slice A_11 (sortT l0_0).length c_12) (sortT l0_0) F :: row (Kd.int .i64) 3 w.heap.size (.slice (some ⟨g_5, 0, none⟩) ([(endA l0_2), (endB l0_2)].length) ([(endA l0_2), (endB l0_2)].length)) ([(endA l0_2), (endB l0_2)]) F_6 :: blk g_1 #[.slice A0_0 l0_0.length c0_0, .slice A0_1 l0_1.length c0_1, .slice A0_2 l0_2.length c0_2, .int .i64 a0_3, .int .i64 a0_4] 31 :: cs) _ := ⟨_, Hp.made hp hb hR_9⟩
    refine step_fin hp.tail ?_
    refine treeI_alt rfl ?_ ?_
    ·
     obtain ⟨k_15, hk_k_15⟩ := Ev.rounds (handText_sort l0_0)
     refine sx_call 22 (by rfl) (by kernel_rfl) ((impl_handText.calls k_15 A_11 c_12 (sortT l0_0) _ _ (row_C (hp.at_ 0 _ (by rfl))) (row_len (hp.at_ 0 _ (by rfl))).2 hk_k_15).mono ?_)
     rintro _ W_16 ⟨rfl, hb⟩
     refine ⟨_, rfl, ?_⟩
     replace hp := hp.below hb
     clear hb
     refine step_fin hp.tail ?_
     refine treeI_alt rfl ?_ ?_
     ·
      refine sx_call 25 (by rfl) (by kernel_rfl) ((impl_sorted.calls A0_1 c0_1 l0_1 _ _ (hC0_1 _ hp.tail.tail.tail) hc0_1 (sorted_handG hf1)).mono ?_)
      rintro _ W_22 ⟨v_18, rfl, hR_17, hb⟩
      refine ⟨_, rfl, ?_⟩
      obtain ⟨A_19, c_20, rfl, hcc_c_20, _⟩ := Kd.R_reads hR_17
      obtain ⟨F_21, hp⟩ : ∃ F, Hp w (row k53 53 w.heap.size (.slice A_19 (sortT l0_1).length c_20) (sortT l0_1) F :: row k53 53 w.heap.size (.slice A_11 ((sortT l0_0).length) c_12) (sortT l0_0) F_13 :: row (Kd.int .i64) 3 w.heap.size (.slice (some ⟨g_5, 0, none⟩) ([(endA l0_2), (endB l0_2)].length) ([(endA l0_2), (endB l0_2)].length)) ([(endA l0_2), (endB l0_2)]) F_6 :: blk g_1 #[.slice A0_0 l0_0.length c0_0, .slice A0_1 l0_1.length c0_1, .slice A0_2 l0_2.length c0_2, .int .i64 a0_3, .int .i64 a0_4] 31 :: cs) _ := ⟨_, Hp.made hp hb hR_17⟩
      refine step_fin hp.tail.tail ?_
      refine treeI_alt rfl ?_ ?_
      ·
       obtain ⟨k_23, hk_k_23⟩ := Ev.rounds (handText_sort l0_1)
       refine sx_call 26 (by rfl) (by kernel_rfl) ((impl_handText.calls k_23 A_19 c_20 (sortT l0_1) _ _ (row_C (hp.at_ 0 _ (by rfl))) (row_len (hp.at_ 0 _ (by rfl))).2 hk_k_23).mono ?_)
       rintro _ W_24 ⟨rfl, hb⟩
       refine ⟨_, rfl, ?_⟩
       replace hp := hp.below hb
       clear hb
       refine step_fin hp.tail.tail ?_
       refine treeI_alt rfl ?_ ?_
       ·
        obtain ⟨k_25, hk_k_25⟩ := Ev.rounds (chain_ends (r := l0_2) (by omega) hrw)
        refine sx_call 28 (by rfl) (by kernel_rfl) ((impl_chainText.calls k_25 (some ⟨g_5, 0, none⟩) ([(endA l0_2), (endB l0_2)].length) ([(endA l0_2), (endB l0_2)]) _ _ (row_C (hp.at_ 2 _ (by rfl))) (row_len (hp.at_ 2 _ (by rfl))).2 hk_k_25).mono ?_)
        rintro _ W_26 ⟨rfl, hb⟩
        refine ⟨_, rfl, ?_⟩
        replace hp := hp.below hb
        clear hb
        refine step_fin hp.tail.tail ?_
        refine treeI_ev rfl ?_
        refine sx_lit 33 (by rfl) (Kd.int .i64) w.heap.size 3 ([a0_3, a0_4]) [.int .i64 a0_3, .int .i64 a0_4] (fun W => by kernel_rfl) (reps_ints [a0_3, a0_4]) (by simp) hp.size hp ?_
        intro g_27 F_28 W_29 hp hz; clear hz
        refine step_fin hp.tail.tail.tail ?_
        refine treeI_ev rfl ?_
        obtain ⟨k_30, hk_k_30⟩ := Ev.rounds (chain_tp ht0 hp0)
        refine sx_call 34 (by rfl) (by kernel_rfl) ((impl_chainText.calls k_30 (some ⟨g_27, 0, none⟩) ([a0_3, a0_4].length) ([a0_3, a0_4]) _ _ (row_C (hp.at_ 0 _ (by rfl))) (row_len (hp.at_ 0 _ (by rfl))).2 hk_k_30).mono ?_)
        rintro _ W_31 ⟨rfl, hb⟩
        refine ⟨_, rfl, ?_⟩
        replace hp := hp.below hb
        clear hb
        refine step_fin hp.tail.tail.tail ?_
        refine treeI_ev rfl ?_
        refine sx_lit 35 (by rfl) Kd.string w.heap.size 9 ([(mkU (handU (sortT l0_0))), (mkU (handU (sortT l0_1))), (mkU (rowU (endsL l0_2))), (mkU (rowU [a0_3, a0_4]))]) [.string (mkU (handU (sortT l0_0))), .string (mkU (handU (sortT l0_1))), .string (mkU (rowU (endsL l0_2))), .string (mkU (rowU [a0_3, a0_4]))] (fun W => by kernel_rfl) (reps_strs [(mkU (handU (sortT l0_0))), (mkU (handU (sortT l0_1))), (mkU (rowU (endsL l0_2))), (mkU (rowU [a0_3, a0_4]))]) (by simp) hp.size hp ?_
        intro g_32 F_33 W_34 hp hz; clear hz
        refine step_fin hp.tail.tail.tail.tail ?_
        refine treeI_ev rfl ?_
        refine sx_call 36 (by rfl) (by kernel_rfl) ((strings_Join.calls (some ⟨g_32, 0, none⟩) ([(mkU (handU (sortT l0_0))), (mkU (handU (sortT l0_1))), (mkU (rowU (endsL l0_2))), (mkU (rowU [a0_3, a0_4]))].length) ([(mkU (handU (sortT l0_0))), (mkU (handU (sortT l0_1))), (mkU (rowU (endsL l0_2))), (mkU (rowU [a0_3, a0_4]))]) (⟨#[58]⟩ : ByteArray) _ _ (row_C (hp.at_ 0 _ (by rfl))) (row_len (hp.at_ 0 _ (by rfl))).2 (join_key l0_0 l0_1 l0_2 a0_3 a0_4)).mono ?_)
        rintro _ W_35 ⟨rfl, hb⟩
        refine ⟨_, rfl, ?_⟩
        replace hp := hp.below hb
        clear hb
        refine step_fin hp.tail.tail.tail.tail ?_
        refine treeI_rd rfl ?_
        refine sxq_val 2 (.string (mkU (gkey l0_0 l0_1 l0_2 a0_3 a0_4))) (by rfl) (fun W hp => (by kernel_rfl)) ?_
        refine sxq_nil ?_
        refine treeI_fin ?_
        exact ⟨_, fr_front [(2, .string (mkU (gkey l0_0 l0_1 l0_2 a0_3 a0_4)))] ⟨rfl, trivial⟩, (hp.take [4, 5] 6 (by decide) (by simp))⟩
       refine treeI_alt rfl ?_ ?_
       ·
        refine sx_lit 33 (by rfl) (Kd.int .i64) w.heap.size 3 ([a0_3, a0_4]) [.int .i64 a0_3, .int .i64 a0_4] (fun W => by kernel_rfl) (reps_ints [a0_3, a0_4]) (by simp) hp.size hp ?_
        intro g_36 F_37 W_38 hp hz; clear hz
        refine step_fin hp.tail.tail.tail ?_
        refine treeI_ev rfl ?_
        obtain ⟨k_39, hk_k_39⟩ := Ev.rounds (chain_ends (r := l0_2) (by omega) hrw)
        refine sx_call 28 (by rfl) (by kernel_rfl) ((impl_chainText.calls k_39 (some ⟨g_5, 0, none⟩) ([(endA l0_2), (endB l0_2)].length) ([(endA l0_2), (endB l0_2)]) _ _ (row_C (hp.at_ 3 _ (by rfl))) (row_len (hp.at_ 3 _ (by rfl))).2 hk_k_39).mono ?_)
        rintro _ W_40 ⟨rfl, hb⟩
        refine ⟨_, rfl, ?_⟩
        replace hp := hp.below hb
        clear hb
        refine step_fin hp.tail.tail.tail ?_
        refine treeI_ev rfl ?_
        obtain ⟨k_41, hk_k_41⟩ := Ev.rounds (chain_tp ht0 hp0)
        refine sx_call 34 (by rfl) (by kernel_rfl) ((impl_chainText.calls k_41 (some ⟨g_36, 0, none⟩) ([a0_3, a0_4].length) ([a0_3, a0_4]) _ _ (row_C (hp.at_ 0 _ (by rfl))) (row_len (hp.at_ 0 _ (by rfl))).2 hk_k_41).mono ?_)
        rintro _ W_42 ⟨rfl, hb⟩
        refine ⟨_, rfl, ?_⟩
        replace hp := hp.below hb
        clear hb
        refine step_fin hp.tail.tail.tail ?_
        refine treeI_ev rfl ?_
        refine sx_lit 35 (by rfl) Kd.string w.heap.size 9 ([(mkU (handU (sortT l0_0))), (mkU (handU (sortT l0_1))), (mkU (rowU (endsL l0_2))), (mkU (rowU [a0_3, a0_4]))]) [.string (mkU (handU (sortT l0_0))), .string (mkU (handU (sortT l0_1))), .string (mkU (rowU (endsL l0_2))), .string (mkU (rowU [a0_3, a0_4]))] (fun W => by kernel_rfl) (reps_strs [(mkU (handU (sortT l0_0))), (mkU (handU (sortT l0_1))), (mkU (rowU (endsL l0_2))), (mkU (rowU [a0_3, a0_4]))]) (by simp) hp.size hp ?_
        intro g_43 F_44 W_45 hp hz; clear hz
        refine step_fin hp.tail.tail.tail.tail ?_
        refine treeI_ev rfl ?_
        refine sx_call 36 (by rfl) (by kernel_rfl) ((strings_Join.calls (some ⟨g_43, 0, none⟩) ([(mkU (handU (sortT l0_0))), (mkU (handU (sortT l0_1))), (mkU (rowU (endsL l0_2))), (mkU (rowU [a0_3, a0_4]))].length) ([(mkU (handU (sortT l0_0))), (mkU (handU (sortT l0_1))), (mkU (rowU (endsL l0_2))), (mkU (rowU [a0_3, a0_4]))]) (⟨#[58]⟩ : ByteArray) _ _ (row_C (hp.at_ 0 _ (by rfl))) (row_len (hp.at_ 0 _ (by rfl))).2 (join_key l0_0 l0_1 l0_2 a0_3 a0_4)).mono ?_)
        rintro _ W_46 ⟨rfl, hb⟩
        refine ⟨_, rfl, ?_⟩
        replace hp := hp.below hb
        clear hb
        refine step_fin hp.tail.tail.tail.tail ?_
        refine treeI_rd rfl ?_
        refine sxq_val 2 (.string (mkU (gkey l0_0 l0_1 l0_2 a0_3 a0_4))) (by rfl) (fun W hp => (by kernel_rfl)) ?_
        refine sxq_nil ?_
        refine treeI_fin ?_
        exact ⟨_, fr_front [(2, .string (mkU (gkey l0_0 l0_1 l0_2 a0_3 a0_4)))] ⟨rfl, trivial⟩, (hp.take [4, 5] 6 (by decide) (by simp))⟩
       exact treeI_non
      refine treeI_alt rfl ?_ ?_
      ·
       refine sx_lit 33 (by rfl) (Kd.int .i64) w.heap.size 3 ([a0_3, a0_4]) [.int .i64 a0_3, .int .i64 a0_4] (fun W => by kernel_rfl) (reps_ints [a0_3, a0_4]) (by simp) hp.size hp ?_
       intro g_47 F_48 W_49 hp hz; clear hz
       refine step_fin hp.tail.tail.tail ?_
       refine treeI_ev rfl ?_
       obtain ⟨k_50, hk_k_50⟩ := Ev.rounds (handText_sort l0_1)
       refine sx_call 26 (by rfl) (by kernel_rfl) ((impl_handText.calls k_50 A_19 c_20 (sortT l0_1) _ _ (row_C (hp.at_ 1 _ (by rfl))) (row_len (hp.at_ 1 _ (by rfl))).2 hk_k_50).mono ?_)
       rintro _ W_51 ⟨rfl, hb⟩
       refine ⟨_, rfl, ?_⟩
       replace hp := hp.below hb
       clear hb
       refine step_fin hp.tail.tail.tail ?_
       refine treeI_ev rfl ?_
       obtain ⟨k_52, hk_k_52⟩ := Ev.rounds (chain_ends (r := l0_2) (by omega) hrw)
       refine sx_call 28 (by rfl) (by kernel_rfl) ((impl_chainText.calls k_52 (some ⟨g_5, 0, none⟩) ([(endA l0_2), (endB l0_2)].length) ([(endA l0_2), (endB l0_2)]) _ _ (row_C (hp.at_ 3 _ (by rfl))) (row_len (hp.at_ 3 _ (by rfl))).2 hk_k_52).mono ?_)
       rintro _ W_53 ⟨rfl, hb⟩
       refine ⟨_, rfl, ?_⟩
       replace hp := hp.below hb
       clear hb
       refine step_fin hp.tail.tail.tail ?_
       refine treeI_ev rfl ?_
       obtain ⟨k_54, hk_k_54⟩ := Ev.rounds (chain_tp ht0 hp0)
       refine sx_call 34 (by rfl) (by kernel_rfl) ((impl_chainText.calls k_54 (some ⟨g_47, 0, none⟩) ([a0_3, a0_4].length) ([a0_3, a0_4]) _ _ (row_C (hp.at_ 0 _ (by rfl))) (row_len (hp.at_ 0 _ (by rfl))).2 hk_k_54).mono ?_)
       rintro _ W_55 ⟨rfl, hb⟩
       refine ⟨_, rfl, ?_⟩
       replace hp := hp.below hb
       clear hb
       refine step_fin hp.tail.tail.tail ?_
       refine treeI_ev rfl ?_
       refine sx_lit 35 (by rfl) Kd.string w.heap.size 9 ([(mkU (handU (sortT l0_0))), (mkU (handU (sortT l0_1))), (mkU (rowU (endsL l0_2))), (mkU (rowU [a0_3, a0_4]))]) [.string (mkU (handU (sortT l0_0))), .string (mkU (handU (sortT l0_1))), .string (mkU (rowU (endsL l0_2))), .string (mkU (rowU [a0_3, a0_4]))] (fun W => by kernel_rfl) (reps_strs [(mkU (handU (sortT l0_0))), (mkU (handU (sortT l0_1))), (mkU (rowU (endsL l0_2))), (mkU (rowU [a0_3, a0_4]))]) (by simp) hp.size hp ?_
       intro g_56 F_57 W_58 hp hz; clear hz
       refine step_fin hp.tail.tail.tail.tail ?_
       refine treeI_ev rfl ?_
       refine sx_call 36 (by rfl) (by kernel_rfl) ((strings_Join.calls (some ⟨g_56, 0, none⟩) ([(mkU (handU (sortT l0_0))), (mkU (handU (sortT l0_1))), (mkU (rowU (endsL l0_2))), (mkU (rowU [a0_3, a0_4]))].length) ([(mkU (handU (sortT l0_0))), (mkU (handU (sortT l0_1))), (mkU (rowU (endsL l0_2))), (mkU (rowU [a0_3, a0_4]))]) (⟨#[58]⟩ : ByteArray) _ _ (row_C (hp.at_ 0 _ (by rfl))) (row_len (hp.at_ 0 _ (by rfl))).2 (join_key l0_0 l0_1 l0_2 a0_3 a0_4)).mono ?_)
       rintro _ W_59 ⟨rfl, hb⟩
       refine ⟨_, rfl, ?_⟩
       replace hp := hp.below hb
       clear hb
       refine step_fin hp.tail.tail.tail.tail ?_
       refine treeI_rd rfl ?_
       refine sxq_val 2 (.string (mkU (gkey l0_0 l0_1 l0_2 a0_3 a0_4))) (by rfl) (fun W hp => (by kernel_rfl)) ?_
       refine sxq_nil ?_
       refine treeI_fin ?_
       exact ⟨_, fr_front [(2, .string (mkU (gkey l0_0 l0_1 l0_2 a0_3 a0_4)))] ⟨rfl, trivial⟩, (hp.take [4, 5] 6 (by decide) (by simp))⟩
      exact treeI_non
     refine treeI_alt rfl ?_ ?_
     ·
      refine sx_lit 33 (by rfl) (Kd.int .i64) w.heap.size 3 ([a0_3, a0_4]) [.int .i64 a0_3, .int .i64 a0_4] (fun W => by kernel_rfl) (reps_ints [a0_3, a0_4]) (by simp) hp.size hp ?_
      intro g_60 F_61 W_62 hp hz; clear hz
      refine step_fin hp.tail.tail ?_
      refine treeI_ev rfl ?_
      refine sx_call 25 (by rfl) (by kernel_rfl) ((impl_sorted.calls A0_1 c0_1 l0_1 _ _ (hC0_1 _ hp.tail.tail.tail.tail) hc0_1 (sorted_handG hf1)).mono ?_)
      rintro _ W_68 ⟨v_64, rfl, hR_63, hb⟩
      refine ⟨_, rfl, ?_⟩
      obtain ⟨A_65, c_66, rfl, hcc_c_66, _⟩ := Kd.R_reads hR_63
      obtain ⟨F_67, hp⟩ : ∃ F, Hp w (row k53 53 w.heap.size (.slice A_65 (sortT l0_1).length c_66) (sortT l0_1) F :: row (Kd.int .i64) 3 w.heap.size (.slice (some ⟨g_60, 0, none⟩) ([a0_3, a0_4].length) ([a0_3, a0_4].length)) ([a0_3, a0_4]) F_61 :: row k53 53 w.heap.size (.slice A_11 ((sortT l0_0).length) c_12) (sortT l0_0) F_13 :: row (Kd.int .i64) 3 w.heap.size (.slice (some ⟨g_5, 0, none⟩) ([(endA l0_2), (endB l0_2)].length) ([(endA l0_2), (endB l0_2)].length)) ([(endA l0_2), (endB l0_2)]) F_6 :: blk g_1 #[.slice A0_0 l0_0.length c0_0, .slice A0_1 l0_1.length c0_1, .slice A0_2 l0_2.length c0_2, .int .i64 a0_3, .int .i64 a0_4] 31 :: cs) _ := ⟨_, Hp.made hp hb hR_63⟩
      refine step_fin hp.tail.tail.tail ?_
      refine treeI_ev rfl ?_
      obtain ⟨k_69, hk_k_69⟩ := Ev.rounds (handText_sort l0_1)
      refine sx_call 26 (by rfl) (by kernel_rfl) ((impl_handText.calls k_69 A_65 c_66 (sortT l0_1) _ _ (row_C (hp.at_ 0 _ (by rfl))) (row_len (hp.at_ 0 _ (by rfl))).2 hk_k_69).mono ?_)
      rintro _ W_70 ⟨rfl, hb⟩
      refine ⟨_, rfl, ?_⟩
      replace hp := hp.below hb
      clear hb
      refine step_fin hp.tail.tail.tail ?_
      refine treeI_ev rfl ?_
      obtain ⟨k_71, hk_k_71⟩ := Ev.rounds (chain_ends (r := l0_2) (by omega) hrw)
      refine sx_call 28 (by rfl) (by kernel_rfl) ((impl_chainText.calls k_71 (some ⟨g_5, 0, none⟩) ([(endA l0_2), (endB l0_2)].length) ([(endA l0_2), (endB l0_2)]) _ _ (row_C (hp.at_ 3 _ (by rfl))) (row_len (hp.at_ 3 _ (by rfl))).2 hk_k_71).mono ?_)
      rintro _ W_72 ⟨rfl, hb⟩
      refine ⟨_, rfl, ?_⟩
      replace hp := hp.below hb
      clear hb
      refine step_fin hp.tail.tail.tail ?_
      refine treeI_ev rfl ?_
      obtain ⟨k_73, hk_k_73⟩ := Ev.rounds (chain_tp ht0 hp0)
      refine sx_call 34 (by rfl) (by kernel_rfl) ((impl_chainText.calls k_73 (some ⟨g_60, 0, none⟩) ([a0_3, a0_4].length) ([a0_3, a0_4]) _ _ (row_C (hp.at_ 1 _ (by rfl))) (row_len (hp.at_ 1 _ (by rfl))).2 hk_k_73).mono ?_)
      rintro _ W_74 ⟨rfl, hb⟩
      refine ⟨_, rfl, ?_⟩
      replace hp := hp.below hb
      clear hb
      refine step_fin hp.tail.tail.tail ?_
      refine treeI_ev rfl ?_
      refine sx_lit 35 (by rfl) Kd.string w.heap.size 9 ([(mkU (handU (sortT l0_0))), (mkU (handU (sortT l0_1))), (mkU (rowU (endsL l0_2))), (mkU (rowU [a0_3, a0_4]))]) [.string (mkU (handU (sortT l0_0))), .string (mkU (handU (sortT l0_1))), .string (mkU (rowU (endsL l0_2))), .string (mkU (rowU [a0_3, a0_4]))] (fun W => by kernel_rfl) (reps_strs [(mkU (handU (sortT l0_0))), (mkU (handU (sortT l0_1))), (mkU (rowU (endsL l0_2))), (mkU (rowU [a0_3, a0_4]))]) (by simp) hp.size hp ?_
      intro g_75 F_76 W_77 hp hz; clear hz
      refine step_fin hp.tail.tail.tail.tail ?_
      refine treeI_ev rfl ?_
      refine sx_call 36 (by rfl) (by kernel_rfl) ((strings_Join.calls (some ⟨g_75, 0, none⟩) ([(mkU (handU (sortT l0_0))), (mkU (handU (sortT l0_1))), (mkU (rowU (endsL l0_2))), (mkU (rowU [a0_3, a0_4]))].length) ([(mkU (handU (sortT l0_0))), (mkU (handU (sortT l0_1))), (mkU (rowU (endsL l0_2))), (mkU (rowU [a0_3, a0_4]))]) (⟨#[58]⟩ : ByteArray) _ _ (row_C (hp.at_ 0 _ (by rfl))) (row_len (hp.at_ 0 _ (by rfl))).2 (join_key l0_0 l0_1 l0_2 a0_3 a0_4)).mono ?_)
      rintro _ W_78 ⟨rfl, hb⟩
      refine ⟨_, rfl, ?_⟩
      replace hp := hp.below hb
      clear hb
      refine step_fin hp.tail.tail.tail.tail ?_
      refine treeI_rd rfl ?_
      refine sxq_val 2 (.string (mkU (gkey l0_0 l0_1 l0_2 a0_3 a0_4))) (by rfl) (fun W hp => (by kernel_rfl)) ?_
      refine sxq_nil ?_
      refine treeI_fin ?_
      exact ⟨_, fr_front [(2, .string (mkU (gkey l0_0 l0_1 l0_2 a0_3 a0_4)))] ⟨rfl, trivial⟩, (hp.take [4, 5] 6 (by decide) (by simp))⟩
     exact treeI_non
    refine treeI_alt rfl ?_ ?_
    ·
     refine sx_lit 33 (by rfl) (Kd.int .i64) w.heap.size 3 ([a0_3, a0_4]) [.int .i64 a0_3, .int .i64 a0_4] (fun W => by kernel_rfl) (reps_ints [a0_3, a0_4]) (by simp) hp.size hp ?_
     intro g_79 F_80 W_81 hp hz; clear hz
     refine step_fin hp.tail.tail ?_
     refine treeI_ev rfl ?_
     obtain ⟨k_82, hk_k_82⟩ := Ev.rounds (handText_sort l0_0)
     refine sx_call 22 (by rfl) (by kernel_rfl) ((impl_handText.calls k_82 A_11 c_12 (sortT l0_0) _ _ (row_C (hp.at_ 1 _ (by rfl))) (row_len (hp.at_ 1 _ (by rfl))).2 hk_k_82).mono ?_)
     rintro _ W_83 ⟨rfl, hb⟩
     refine ⟨_, rfl, ?_⟩
     replace hp := hp.below hb
     clear hb
     refine step_fin hp.tail.tail ?_
     refine treeI_ev rfl ?_
     refine sx_call 25 (by rfl) (by kernel_rfl) ((impl_sorted.calls A0_1 c0_1 l0_1 _ _ (hC0_1 _ hp.tail.tail.tail.tail) hc0_1 (sorted_handG hf1)).mono ?_)
     rintro _ W_89 ⟨v_85, rfl, hR_84, hb⟩
     refine ⟨_, rfl, ?_⟩
     obtain ⟨A_86, c_87, rfl, hcc_c_87, _⟩ := Kd.R_reads hR_84
     obtain ⟨F_88, hp⟩ : ∃ F, Hp w (row k53 53 w.heap.size (.slice A_86 (sortT l0_1).length c_87) (sortT l0_1) F :: row (Kd.int .i64) 3 w.heap.size (.slice (some ⟨g_79, 0, none⟩) ([a0_3, a0_4].length) ([a0_3, a0_4].length)) ([a0_3, a0_4]) F_80 :: row k53 53 w.heap.size (.slice A_11 ((sortT l0_0).length) c_12) (sortT l0_0) F_13 :: row (Kd.int .i64) 3 w.heap.size (.slice (some ⟨g_5, 0, none⟩) ([(endA l0_2), (endB l0_2)].length) ([(endA l0_2), (endB l0_2)].length)) ([(endA l0_2), (endB l0_2)]) F_6 :: blk g_1 #[.slice A0_0 l0_0.length c0_0, .slice A0_1 l0_1.length c0_1, .slice A0_2 l0_2.length c0_2, .int .i64 a0_3, .int .i64 a0_4] 31 :: cs) _ := ⟨_, Hp.made hp hb hR_84⟩
     refine step_fin hp.tail.tail.tail ?_
     refine treeI_ev rfl ?_
     obtain ⟨k_90, hk_k_90⟩ := Ev.rounds (handText_sort l0_1)
     refine sx_call 26 (by rfl) (by kernel_rfl) ((impl_handText.calls k_90 A_86 c_87 (sortT l0_1) _ _ (row_C (hp.at_ 0 _ (by rfl))) (row_len (hp.at_ 0 _ (by rfl))).2 hk_k_90).mono ?_)
     rintro _ W_91 ⟨rfl, hb⟩
     refine ⟨_, rfl, ?_⟩
     replace hp := hp.below hb
     clear hb
     refine step_fin hp.tail.tail.tail ?_
     refine treeI_ev rfl ?_
     obtain ⟨k_92, hk_k_92⟩ := Ev.rounds (chain_ends (r := l0_2) (by omega) hrw)
     refine sx_call 28 (by rfl) (by kernel_rfl) ((impl_chainText.calls k_92 (some ⟨g_5, 0, none⟩) ([(endA l0_2), (endB l0_2)].length) ([(endA l0_2), (endB l0_2)]) _ _ (row_C (hp.at_ 3 _ (by rfl))) (row_len (hp.at_ 3 _ (by rfl))).2 hk_k_92).mono ?_)
     rintro _ W_93 ⟨rfl, hb⟩
     refine ⟨_, rfl, ?_⟩
     replace hp := hp.below hb
     clear hb
     refine step_fin hp.tail.tail.tail ?_
     refine treeI_ev rfl ?_
     obtain ⟨k_94, hk_k_94⟩ := Ev.rounds (chain_tp ht0 hp0)
     refine sx_call 34 (by rfl) (by kernel_rfl) ((impl_chainText.calls k_94 (some ⟨g_79, 0, none⟩) ([a0_3, a0_4].length) ([a0_3, a0_4]) _ _ (row_C (hp.at_ 1 _ (by rfl))) (row_len (hp.at_ 1 _ (by rfl))).2 hk_k_94).mono ?_)
     rintro _ W_95 ⟨rfl, hb⟩
     refine ⟨_, rfl, ?_⟩
     replace hp := hp.below hb
     clear hb
     refine step_fin hp.tail.tail.tail ?_
     refine treeI_ev rfl ?_
     refine sx_lit 35 (by rfl) Kd.string w.heap.size 9 ([(mkU (handU (sortT l0_0))), (mkU (handU (sortT l0_1))), (mkU (rowU (endsL l0_2))), (mkU (rowU [a0_3, a0_4]))]) [.string (mkU (handU (sortT l0_0))), .string (mkU (handU (sortT l0_1))), .string (mkU (rowU (endsL l0_2))), .string (mkU (rowU [a0_3, a0_4]))] (fun W => by kernel_rfl) (reps_strs [(mkU (handU (sortT l0_0))), (mkU (handU (sortT l0_1))), (mkU (rowU (endsL l0_2))), (mkU (rowU [a0_3, a0_4]))]) (by simp) hp.size hp ?_
     intro g_96 F_97 W_98 hp hz; clear hz
     refine step_fin hp.tail.tail.tail.tail ?_
     refine treeI_ev rfl ?_
     refine sx_call 36 (by rfl) (by kernel_rfl) ((strings_Join.calls (some ⟨g_96, 0, none⟩) ([(mkU (handU (sortT l0_0))), (mkU (handU (sortT l0_1))), (mkU (rowU (endsL l0_2))), (mkU (rowU [a0_3, a0_4]))].length) ([(mkU (handU (sortT l0_0))), (mkU (handU (sortT l0_1))), (mkU (rowU (endsL l0_2))), (mkU (rowU [a0_3, a0_4]))]) (⟨#[58]⟩ : ByteArray) _ _ (row_C (hp.at_ 0 _ (by rfl))) (row_len (hp.at_ 0 _ (by rfl))).2 (join_key l0_0 l0_1 l0_2 a0_3 a0_4)).mono ?_)
     rintro _ W_99 ⟨rfl, hb⟩
     refine ⟨_, rfl, ?_⟩
     replace hp := hp.below hb
     clear hb
     refine step_fin hp.tail.tail.tail.tail ?_
     refine treeI_rd rfl ?_
     refine sxq_val 2 (.string (mkU (gkey l0_0 l0_1 l0_2 a0_3 a0_4))) (by rfl) (fun W hp => (by kernel_rfl)) ?_
     refine sxq_nil ?_
     refine treeI_fin ?_
     exact ⟨_, fr_front [(2, .string (mkU (gkey l0_0 l0_1 l0_2 a0_3 a0_4)))] ⟨rfl, trivial⟩, (hp.take [4, 5] 6 (by decide) (by simp))⟩
    exact treeI_non
   refine treeI_alt rfl ?_ ?_
   ·
    refine sx_lit 33 (by rfl) (Kd.int .i64) w.heap.size 3 ([a0_3, a0_4]) [.int .i64 a0_3, .int .i64 a0_4] (fun W => by kernel_rfl) (reps_ints [a0_3, a0_4]) (by simp) hp.size hp ?_
    intro g_100 F_101 W_102 hp hz; clear hz
    refine step_fin hp.tail ?_
    refine treeI_ev rfl ?_
    refine sx_call 21 (by rfl) (by kernel_rfl) ((impl_sorted.calls A0_0 c0_0 l0_0 _ _ (hC0_0 _ hp.tail.tail.tail) hc0_0 (sorted_handG hf0)).mono ?_)
    rintro _ W_108 ⟨v_104, rfl, hR_103, hb⟩
    refine ⟨_, rfl, ?_⟩
    obtain ⟨A_105, c_106, rfl, hcc_c_106, _⟩ := Kd.R_reads hR_103
    obtain ⟨F_107, hp⟩ : ∃ F, Hp w (row k53 53 w.heap.size (.slice A_105 (sortT l0_0).length c_106) (sortT l0_0) F :: row (Kd.int .i64) 3 w.heap.size (.slice (some ⟨g_100, 0, none⟩) ([a0_3, a0_4].length) ([a0_3, a0_4].length)) ([a0_3, a0_4]) F_101 :: row (Kd.int .i64) 3 w.heap.size (.slice (some ⟨g_5, 0, none⟩) ([(endA l0_2), (endB l0_2)].length) ([(endA l0_2), (endB l0_2)].length)) ([(endA l0_2), (endB l0_2)]) F_6 :: blk g_1 #[.slice A0_0 l0_0.length c0_0, .slice A0_1 l0_1.length c0_1, .slice A0_2 l0_2.length c0_2, .int .i64 a0_3, .int .i64 a0_4] 31 :: cs) _ := ⟨_, Hp.made hp hb hR_103⟩
    refine step_fin hp.tail.tail ?_
    refine treeI_ev rfl ?_
    obtain ⟨k_109, hk_k_109⟩ := Ev.rounds (handText_sort l0_0)
    refine sx_call 22 (by rfl) (by kernel_rfl) ((impl_handText.calls k_109 A_105 c_106 (sortT l0_0) _ _ (row_C (hp.at_ 0 _ (by rfl))) (row_len (hp.at_ 0 _ (by rfl))).2 hk_k_109).mono ?_)
    rintro _ W_110 ⟨rfl, hb⟩
    refine ⟨_, rfl, ?_⟩
    replace hp := hp.below hb
    clear hb
    refine step_fin hp.tail.tail ?_
    refine treeI_ev rfl ?_
    refine sx_call 25 (by rfl) (by kernel_rfl) ((impl_sorted.calls A0_1 c0_1 l0_1 _ _ (hC0_1 _ hp.tail.tail.tail.tail) hc0_1 (sorted_handG hf1)).mono ?_)
    rintro _ W_116 ⟨v_112, rfl, hR_111, hb⟩
    refine ⟨_, rfl, ?_⟩
    obtain ⟨A_113, c_114, rfl, hcc_c_114, _⟩ := Kd.R_reads hR_111
    obtain ⟨F_115, hp⟩ : ∃ F, Hp w (row k53 53 w.heap.size (.slice A_113 (sortT l0_1).length c_114) (sortT l0_1) F :: row k53 53 w.heap.size (.slice A_105 ((sortT l0_0).length) c_106) (sortT l0_0) F_107 :: row (Kd.int .i64) 3 w.heap.size (.slice (some ⟨g_100, 0, none⟩) ([a0_3, a0_4].length) ([a0_3, a0_4].length)) ([a0_3, a0_4]) F_101 :: row (Kd.int .i64) 3 w.heap.size (.slice (some ⟨g_5, 0, none⟩) ([(endA l0_2), (endB l0_2)].length) ([(endA l0_2), (endB l0_2)].length)) ([(endA l0_2), (endB l0_2)]) F_6 :: blk g_1 #[.slice A0_0 l0_0.length c0_0, .slice A0_1 l0_1.length c0_1, .slice A0_2 l0_2.length c0_2, .int .i64 a0_3, .int .i64 a0_4] 31 :: cs) _ := ⟨_, Hp.made hp hb hR_111⟩
    refine step_fin hp.tail.tail.tail ?_
    refine treeI_ev rfl ?_
    obtain ⟨k_117, hk_k_117⟩ := Ev.rounds (handText_sort l0_1)
    refine sx_call 26 (by rfl) (by kernel_rfl) ((impl_handText.calls k_117 A_113 c_114 (sortT l0_1) _ _ (row_C (hp.at_ 0 _ (by rfl))) (row_len (hp.at_ 0 _ (by rfl))).2 hk_k_117).mono ?_)
    rintro _ W_118 ⟨rfl, hb⟩
    refine ⟨_, rfl, ?_⟩
    replace hp := hp.below hb
    clear hb
    refine step_fin hp.tail.tail.tail ?_
    refine treeI_ev rfl ?_
    obtain ⟨k_119, hk_k_119⟩ := Ev.rounds (chain_ends (r := l0_2) (by omega) hrw)
    refine sx_call 28 (by rfl) (by kernel_rfl) ((impl_chainText.calls k_119 (some ⟨g_5, 0, none⟩) ([(endA l0_2), (endB l0_2)].length) ([(endA l0_2), (endB l0_2)]) _ _ (row_C (hp.at_ 3 _ (by rfl))) (row_len (hp.at_ 3 _ (by rfl))).2 hk_k_119).mono ?_)
    rintro _ W_120 ⟨rfl, hb⟩
    refine ⟨_, rfl, ?_⟩
    replace hp := hp.below hb
    clear hb
    refine step_fin hp.tail.tail.tail ?_
    refine treeI_ev rfl ?_
    obtain ⟨k_121, hk_k_121⟩ := Ev.rounds (chain_tp ht0 hp0)
    refine sx_call 34 (by rfl) (by kernel_rfl) ((impl_chainText.calls k_121 (some ⟨g_100, 0, none⟩) ([a0_3, a0_4].length) ([a0_3, a0_4]) _ _ (row_C (hp.at_ 2 _ (by rfl))) (row_len (hp.at_ 2 _ (by rfl))).2 hk_k_121).mono ?_)
    rintro _ W_122 ⟨rfl, hb⟩
    refine ⟨_, rfl, ?_⟩
    replace hp := hp.below hb
    clear hb
    refine step_fin hp.tail.tail.tail ?_
    refine treeI_ev rfl ?_
    refine sx_lit 35 (by rfl) Kd.string w.heap.size 9 ([(mkU (handU (sortT l0_0))), (mkU (handU (sortT l0_1))), (mkU (rowU (endsL l0_2))), (mkU (rowU [a0_3, a0_4]))]) [.string (mkU (handU (sortT l0_0))), .string (mkU (handU (sortT l0_1))), .string (mkU (rowU (endsL l0_2))), .string (mkU (rowU [a0_3, a0_4]))] (fun W => by kernel_rfl) (reps_strs [(mkU (handU (sortT l0_0))), (mkU (handU (sortT l0_1))), (mkU (rowU (endsL l0_2))), (mkU (rowU [a0_3, a0_4]))]) (by simp) hp.size hp ?_
    intro g_123 F_124 W_125 hp hz; clear hz
    refine step_fin hp.tail.tail.tail.tail ?_
    refine treeI_ev rfl ?_
    refine sx_call 36 (by rfl) (by kernel_rfl) ((strings_Join.calls (some ⟨g_123, 0, none⟩) ([(mkU (handU (sortT l0_0))), (mkU (handU (sortT l0_1))), (mkU (rowU (endsL l0_2))), (mkU (rowU [a0_3, a0_4]))].length) ([(mkU (handU (sortT l0_0))), (mkU (handU (sortT l0_1))), (mkU (rowU (endsL l0_2))), (mkU (rowU [a0_3, a0_4]))]) (⟨#[58]⟩ : ByteArray) _ _ (row_C (hp.at_ 0 _ (by rfl))) (row_len (hp.at_ 0 _ (by rfl))).2 (join_key l0_0 l0_1 l0_2 a0_3 a0_4)).mono ?_)
    rintro _ W_126 ⟨rfl, hb⟩
    refine ⟨_, rfl, ?_⟩
    replace hp := hp.below hb
    clear hb
    refine step_fin hp.tail.tail.tail.tail ?_
    refine treeI_rd rfl ?_
    refine sxq_val 2 (.string (mkU (gkey l0_0 l0_1 l0_2 a0_3 a0_4))) (by rfl) (fun W hp => (by kernel_rfl)) ?_
    refine sxq_nil ?_
    refine treeI_fin ?_
    exact ⟨_, fr_front [(2, .string (mkU (gkey l0_0 l0_1 l0_2 a0_3 a0_4)))] ⟨rfl, trivial⟩, (hp.take [4, 5] 6 (by decide) (by simp))⟩
   exact treeI_non
  ·
   rintro _ W_127 ⟨r_, rfl, hp⟩
   refine sx_nil ?_
   refine ex_then_n ?_
   refine wp_ret ?_
   refine sx_end (.string (mkU (gkey l0_0 l0_1 l0_2 a0_3 a0_4))) (res1 2 (by rfl)) ?_
   unfold impl_Game_key.f at h; rw [if_pos hok] at h; obtain rfl := Option.some.inj h
   exact ⟨rfl, hc2 _ (hp.tail.tail)⟩
 ·
  have c_3p := of_decide_eq_false c_3
  refine wp_skip ?_
  refine ex_then_n ?_
  refine wp_seq ?_
  refine sx_drawI (fun a_ W => ∃ (r_ : List (Nat × Value)) , a_ = fr 37 ([(2, .string (mkU (gkey l0_0 l0_1 l0_2 a0_3 a0_4)))] ++ r_) ∧ Hp w (blk g_1 #[.slice A0_0 l0_0.length c0_0, .slice A0_1 l0_1.length c0_1, .slice A0_2 l0_2.length c0_2, .int .i64 a0_3, .int .i64 a0_4] 31 :: cs) W) [0, 4, 8, 10, 12] (.rd 1 (.rd 5 (.rd 11 (.rd 13 (.alt 2 (.alt 3 (.alt 6 (.alt 7 (.alt 9 (.alt 14 (.alt 15 (.alt 16 (.alt 17 (.rd 18 (.fin)) .non) .non) .non) .non) (.alt 14 (.alt 9 (.alt 15 (.alt 16 (.alt 17 (.rd 18 (.fin)) .non) .non) .non) .non) (.non))) (.alt 14 (.alt 7 (.alt 9 (.alt 15 (.alt 16 (.alt 17 (.rd 18 (.fin)) .non) .non) .non) .non) .non) (.non))) (.alt 14 (.alt 6 (.alt 7 (.alt 9 (.alt 15 (.alt 16 (.alt 17 (.rd 18 (.fin)) .non) .non) .non) .non) .non) .non) (.non))) (.alt 14 (.alt 3 (.alt 6 (.alt 7 (.alt 9 (.alt 15 (.alt 16 (.alt 17 (.rd 18 (.fin)) .non) .non) .non) .non) .non) .non) .non) (.non))) (.alt 14 (.alt 2 (.alt 3 (.alt 6 (.alt 7 (.alt 9 (.alt 15 (.alt 16 (.alt 17 (.rd 18 (.fin)) .non) .non) .non) .non) .non) .non) .non) .non) (.non))))))) 19 (C := Hp w (blk g_1 #[.slice A0_0 l0_0.length c0_0, .slice A0_1 l0_1.length c0_1, .slice A0_2 l0_2.length c0_2, .int .i64 a0_3, .int .i64 a0_4] 31 :: cs)) (by kernel_rfl) (by kernel_rfl) (fun d _ _ _ _ h => by cases d <;> exact h) (fun W h => h.drew) hp ?_ ?_
  ·
   refine preI_read rfl ?_
   refine sxq_val 19 (.pointer (some ⟨g_1, 0, none⟩)) (by rfl) (fun W _ => (by kernel_rfl)) ?_
   refine sxq_nil ?_
   refine preI_read rfl ?_
   refine sxq_val 23 (.pointer (some ⟨g_1, 1, none⟩)) (by rfl) (fun W _ => (by kernel_rfl)) ?_
   refine sxq_nil ?_
   refine preI_read rfl ?_
   refine sxq_val 27 (.slice A0_2 l0_2.length c0_2) (by rfl) (fun W _ => (by kernel_rfl)) ?_
   refine sxq_nil ?_
   refine preI_read rfl ?_
   refine sxq_val 29 (.pointer (some ⟨g_1, 3, none⟩)) (by rfl) (fun W _ => (by kernel_rfl)) ?_
   refine sxq_nil ?_
   refine preI_read rfl ?_
   refine sxq_val 31 (.pointer (some ⟨g_1, 4, none⟩)) (by rfl) (fun W _ => (by kernel_rfl)) ?_
   refine sxq_nil ?_
   refine preI_nil ?_
   intro W_128 hp
   refine treeI_rd rfl ?_
   refine sxq_val 20 (.slice A0_0 l0_0.length c0_0) (by rfl) (fun W hp => (ld1 (t := 29) (p := (.tmp 19)) (by rfl) (by rfl) (by kernel_rfl) (hp.cell 0 (by rfl) 0 _ (by rfl)))) ?_
   refine sxq_nil ?_
   refine treeI_rd rfl ?_
   refine sxq_val 24 (.slice A0_1 l0_1.length c0_1) (by rfl) (fun W hp => (ld1 (t := 29) (p := (.tmp 23)) (by rfl) (by rfl) (by kernel_rfl) (hp.cell 0 (by rfl) 1 _ (by rfl)))) ?_
   refine sxq_nil ?_
   refine treeI_rd rfl ?_
   refine sxq_val 30 (.int .i64 a0_3) (by rfl) (fun W hp => (ld1 (t := 3) (p := (.tmp 29)) (by rfl) (by rfl) (by kernel_rfl) (hp.cell 0 (by rfl) 3 _ (by rfl)))) ?_
   refine sxq_nil ?_
   refine treeI_rd rfl ?_
   refine sxq_val 32 (.int .i64 a0_4) (by rfl) (fun W hp => (ld1 (t := 3) (p := (.tmp 31)) (by rfl) (by rfl) (by kernel_rfl) (hp.cell 0 (by rfl) 4 _ (by rfl)))) ?_
   refine sxq_nil ?_
   refine treeI_alt rfl ?_ ?_
   ·
    refine sx_call 21 (by rfl) (by kernel_rfl) ((impl_sorted.calls A0_0 c0_0 l0_0 _ _ (hC0_0 _ hp.tail) hc0_0 (sorted_handG hf0)).mono ?_)
    rintro _ W_134 ⟨v_130, rfl, hR_129, hb⟩
    refine ⟨_, rfl, ?_⟩
    obtain ⟨A_131, c_132, rfl, hcc_c_132, _⟩ := Kd.R_reads hR_129
    obtain ⟨F_133, hp⟩ : ∃ F, Hp w (row k53 53 w.heap.size (.slice A_131 (sortT l0_0).length c_132) (sortT l0_0) F :: blk g_1 #[.slice A0_0 l0_0.length c0_0, .slice A0_1 l0_1.length c0_1, .slice A0_2 l0_2.length c0_2, .int .i64 a0_3, .int .i64 a0_4] 31 :: cs) _ := ⟨_, Hp.made hp hb hR_129⟩
    refine step_fin hp.tail ?_
    refine treeI_alt rfl ?_ ?_
    ·
     obtain ⟨k_135, hk_k_135⟩ := Ev.rounds (handText_sort l0_0)
     refine sx_call 22 (by rfl) (by kernel_rfl) ((impl_handText.calls k_135 A_131 c_132 (sortT l0_0) _ _ (row_C (hp.at_ 0 _ (by rfl))) (row_len (hp.at_ 0 _ (by rfl))).2 hk_k_135).mono ?_)
     rintro _ W_136 ⟨rfl, hb⟩
     refine ⟨_, rfl, ?_⟩
     replace hp := hp.below hb
     clear hb
     refine step_fin hp.tail ?_
     refine treeI_alt rfl ?_ ?_
     ·
      refine sx_call 25 (by rfl) (by kernel_rfl) ((impl_sorted.calls A0_1 c0_1 l0_1 _ _ (hC0_1 _ hp.tail.tail) hc0_1 (sorted_handG hf1)).mono ?_)
      rintro _ W_142 ⟨v_138, rfl, hR_137, hb⟩
      refine ⟨_, rfl, ?_⟩
      obtain ⟨A_139, c_140, rfl, hcc_c_140, _⟩ := Kd.R_reads hR_137
      obtain ⟨F_141, hp⟩ : ∃ F, Hp w (row k53 53 w.heap.size (.slice A_139 (sortT l0_1).length c_140) (sortT l0_1) F :: row k53 53 w.heap.size (.slice A_131 ((sortT l0_0).length) c_132) (sortT l0_0) F_133 :: blk g_1 #[.slice A0_0 l0_0.length c0_0, .slice A0_1 l0_1.length c0_1, .slice A0_2 l0_2.length c0_2, .int .i64 a0_3, .int .i64 a0_4] 31 :: cs) _ := ⟨_, Hp.made hp hb hR_137⟩
      refine step_fin hp.tail.tail ?_
      refine treeI_alt rfl ?_ ?_
      ·
       obtain ⟨k_143, hk_k_143⟩ := Ev.rounds (handText_sort l0_1)
       refine sx_call 26 (by rfl) (by kernel_rfl) ((impl_handText.calls k_143 A_139 c_140 (sortT l0_1) _ _ (row_C (hp.at_ 0 _ (by rfl))) (row_len (hp.at_ 0 _ (by rfl))).2 hk_k_143).mono ?_)
       rintro _ W_144 ⟨rfl, hb⟩
       refine ⟨_, rfl, ?_⟩
       replace hp := hp.below hb
       clear hb
       refine step_fin hp.tail.tail ?_
       refine treeI_alt rfl ?_ ?_
       ·
        obtain ⟨k_145, hk_k_145⟩ := Ev.rounds (chain_nil (r := l0_2) (by have q := c_3; simp only [decide_eq_false_iff_not] at q; omega))
        refine sx_call 28 (by rfl) (by kernel_rfl) ((impl_chainText.calls k_145 A0_2 c0_2 l0_2 _ _ (hC0_2 _ hp.tail.tail.tail) hc0_2 hk_k_145).mono ?_)
        rintro _ W_146 ⟨rfl, hb⟩
        refine ⟨_, rfl, ?_⟩
        replace hp := hp.below hb
        clear hb
        refine step_fin hp.tail.tail ?_
        refine treeI_ev rfl ?_
        refine sx_lit 33 (by rfl) (Kd.int .i64) w.heap.size 3 ([a0_3, a0_4]) [.int .i64 a0_3, .int .i64 a0_4] (fun W => by kernel_rfl) (reps_ints [a0_3, a0_4]) (by simp) hp.size hp ?_
        intro g_147 F_148 W_149 hp hz; clear hz
        refine step_fin hp.tail.tail.tail ?_
        refine treeI_ev rfl ?_
        obtain ⟨k_150, hk_k_150⟩ := Ev.rounds (chain_tp ht0 hp0)
        refine sx_call 34 (by rfl) (by kernel_rfl) ((impl_chainText.calls k_150 (some ⟨g_147, 0, none⟩) ([a0_3, a0_4].length) ([a0_3, a0_4]) _ _ (row_C (hp.at_ 0 _ (by rfl))) (row_len (hp.at_ 0 _ (by rfl))).2 hk_k_150).mono ?_)
        rintro _ W_151 ⟨rfl, hb⟩
        refine ⟨_, rfl, ?_⟩
        replace hp := hp.below hb
        clear hb
        refine step_fin hp.tail.tail.tail ?_
        refine treeI_ev rfl ?_
        refine sx_lit 35 (by rfl) Kd.string w.heap.size 9 ([(mkU (handU (sortT l0_0))), (mkU (handU (sortT l0_1))), (mkU (rowU (endsL l0_2))), (mkU (rowU [a0_3, a0_4]))]) [.string (mkU (handU (sortT l0_0))), .string (mkU (handU (sortT l0_1))), .string (mkU (rowU (endsL l0_2))), .string (mkU (rowU [a0_3, a0_4]))] (fun W => by kernel_rfl) (reps_strs [(mkU (handU (sortT l0_0))), (mkU (handU (sortT l0_1))), (mkU (rowU (endsL l0_2))), (mkU (rowU [a0_3, a0_4]))]) (by simp) hp.size hp ?_
        intro g_152 F_153 W_154 hp hz; clear hz
        refine step_fin hp.tail.tail.tail.tail ?_
        refine treeI_ev rfl ?_
        refine sx_call 36 (by rfl) (by kernel_rfl) ((strings_Join.calls (some ⟨g_152, 0, none⟩) ([(mkU (handU (sortT l0_0))), (mkU (handU (sortT l0_1))), (mkU (rowU (endsL l0_2))), (mkU (rowU [a0_3, a0_4]))].length) ([(mkU (handU (sortT l0_0))), (mkU (handU (sortT l0_1))), (mkU (rowU (endsL l0_2))), (mkU (rowU [a0_3, a0_4]))]) (⟨#[58]⟩ : ByteArray) _ _ (row_C (hp.at_ 0 _ (by rfl))) (row_len (hp.at_ 0 _ (by rfl))).2 (join_key l0_0 l0_1 l0_2 a0_3 a0_4)).mono ?_)
        rintro _ W_155 ⟨rfl, hb⟩
        refine ⟨_, rfl, ?_⟩
        replace hp := hp.below hb
        clear hb
        refine step_fin hp.tail.tail.tail.tail ?_
        refine treeI_rd rfl ?_
        refine sxq_val 2 (.string (mkU (gkey l0_0 l0_1 l0_2 a0_3 a0_4))) (by rfl) (fun W hp => (by kernel_rfl)) ?_
        refine sxq_nil ?_
        refine treeI_fin ?_
        exact ⟨_, fr_front [(2, .string (mkU (gkey l0_0 l0_1 l0_2 a0_3 a0_4)))] ⟨rfl, trivial⟩, (hp.take [4] 5 (by decide) (by simp))⟩
       refine treeI_alt rfl ?_ ?_
       ·
        refine sx_lit 33 (by rfl) (Kd.int .i64) w.heap.size 3 ([a0_3, a0_4]) [.int .i64 a0_3, .int .i64 a0_4] (fun W => by kernel_rfl) (reps_ints [a0_3, a0_4]) (by simp) hp.size hp ?_
        intro g_156 F_157 W_158 hp hz; clear hz
        refine step_fin hp.tail.tail.tail ?_
        refine treeI_ev rfl ?_
        obtain ⟨k_159, hk_k_159⟩ := Ev.rounds (chain_nil (r := l0_2) (by have q := c_3; simp only [decide_eq_false_iff_not] at q; omega))
        refine sx_call 28 (by rfl) (by kernel_rfl) ((impl_chainText.calls k_159 A0_2 c0_2 l0_2 _ _ (hC0_2 _ hp.tail.tail.tail.tail) hc0_2 hk_k_159).mono ?_)
        rintro _ W_160 ⟨rfl, hb⟩
        refine ⟨_, rfl, ?_⟩
        replace hp := hp.below hb
        clear hb
        refine step_fin hp.tail.tail.tail ?_
        refine treeI_ev rfl ?_
        obtain ⟨k_161, hk_k_161⟩ := Ev.rounds (chain_tp ht0 hp0)
        refine sx_call 34 (by rfl) (by kernel_rfl) ((impl_chainText.calls k_161 (some ⟨g_156, 0, none⟩) ([a0_3, a0_4].length) ([a0_3, a0_4]) _ _ (row_C (hp.at_ 0 _ (by rfl))) (row_len (hp.at_ 0 _ (by rfl))).2 hk_k_161).mono ?_)
        rintro _ W_162 ⟨rfl, hb⟩
        refine ⟨_, rfl, ?_⟩
        replace hp := hp.below hb
        clear hb
        refine step_fin hp.tail.tail.tail ?_
        refine treeI_ev rfl ?_
        refine sx_lit 35 (by rfl) Kd.string w.heap.size 9 ([(mkU (handU (sortT l0_0))), (mkU (handU (sortT l0_1))), (mkU (rowU (endsL l0_2))), (mkU (rowU [a0_3, a0_4]))]) [.string (mkU (handU (sortT l0_0))), .string (mkU (handU (sortT l0_1))), .string (mkU (rowU (endsL l0_2))), .string (mkU (rowU [a0_3, a0_4]))] (fun W => by kernel_rfl) (reps_strs [(mkU (handU (sortT l0_0))), (mkU (handU (sortT l0_1))), (mkU (rowU (endsL l0_2))), (mkU (rowU [a0_3, a0_4]))]) (by simp) hp.size hp ?_
        intro g_163 F_164 W_165 hp hz; clear hz
        refine step_fin hp.tail.tail.tail.tail ?_
        refine treeI_ev rfl ?_
        refine sx_call 36 (by rfl) (by kernel_rfl) ((strings_Join.calls (some ⟨g_163, 0, none⟩) ([(mkU (handU (sortT l0_0))), (mkU (handU (sortT l0_1))), (mkU (rowU (endsL l0_2))), (mkU (rowU [a0_3, a0_4]))].length) ([(mkU (handU (sortT l0_0))), (mkU (handU (sortT l0_1))), (mkU (rowU (endsL l0_2))), (mkU (rowU [a0_3, a0_4]))]) (⟨#[58]⟩ : ByteArray) _ _ (row_C (hp.at_ 0 _ (by rfl))) (row_len (hp.at_ 0 _ (by rfl))).2 (join_key l0_0 l0_1 l0_2 a0_3 a0_4)).mono ?_)
        rintro _ W_166 ⟨rfl, hb⟩
        refine ⟨_, rfl, ?_⟩
        replace hp := hp.below hb
        clear hb
        refine step_fin hp.tail.tail.tail.tail ?_
        refine treeI_rd rfl ?_
        refine sxq_val 2 (.string (mkU (gkey l0_0 l0_1 l0_2 a0_3 a0_4))) (by rfl) (fun W hp => (by kernel_rfl)) ?_
        refine sxq_nil ?_
        refine treeI_fin ?_
        exact ⟨_, fr_front [(2, .string (mkU (gkey l0_0 l0_1 l0_2 a0_3 a0_4)))] ⟨rfl, trivial⟩, (hp.take [4] 5 (by decide) (by simp))⟩
       exact treeI_non
      refine treeI_alt rfl ?_ ?_
      ·
       refine sx_lit 33 (by rfl) (Kd.int .i64) w.heap.size 3 ([a0_3, a0_4]) [.int .i64 a0_3, .int .i64 a0_4] (fun W => by kernel_rfl) (reps_ints [a0_3, a0_4]) (by simp) hp.size hp ?_
       intro g_167 F_168 W_169 hp hz; clear hz
       refine step_fin hp.tail.tail.tail ?_
       refine treeI_ev rfl ?_
       obtain ⟨k_170, hk_k_170⟩ := Ev.rounds (handText_sort l0_1)
       refine sx_call 26 (by rfl) (by kernel_rfl) ((impl_handText.calls k_170 A_139 c_140 (sortT l0_1) _ _ (row_C (hp.at_ 1 _ (by rfl))) (row_len (hp.at_ 1 _ (by rfl))).2 hk_k_170).mono ?_)
       rintro _ W_171 ⟨rfl, hb⟩
       refine ⟨_, rfl, ?_⟩
       replace hp := hp.below hb
       clear hb
       refine step_fin hp.tail.tail.tail ?_
       refine treeI_ev rfl ?_
       obtain ⟨k_172, hk_k_172⟩ := Ev.rounds (chain_nil (r := l0_2) (by have q := c_3; simp only [decide_eq_false_iff_not] at q; omega))
       refine sx_call 28 (by rfl) (by kernel_rfl) ((impl_chainText.calls k_172 A0_2 c0_2 l0_2 _ _ (hC0_2 _ hp.tail.tail.tail.tail) hc0_2 hk_k_172).mono ?_)
       rintro _ W_173 ⟨rfl, hb⟩
       refine ⟨_, rfl, ?_⟩
       replace hp := hp.below hb
       clear hb
       refine step_fin hp.tail.tail.tail ?_
       refine treeI_ev rfl ?_
       obtain ⟨k_174, hk_k_174⟩ := Ev.rounds (chain_tp ht0 hp0)
       refine sx_call 34 (by rfl) (by kernel_rfl) ((impl_chainText.calls k_174 (some ⟨g_167, 0, none⟩) ([a0_3, a0_4].length) ([a0_3, a0_4]) _ _ (row_C (hp.at_ 0 _ (by rfl))) (row_len (hp.at_ 0 _ (by rfl))).2 hk_k_174).mono ?_)
       rintro _ W_175 ⟨rfl, hb⟩
       refine ⟨_, rfl, ?_⟩
       replace hp := hp.below hb
       clear hb
       refine step_fin hp.tail.tail.tail ?_
       refine treeI_ev rfl ?_
       refine sx_lit 35 (by rfl) Kd.string w.heap.size 9 ([(mkU (handU (sortT l0_0))), (mkU (handU (sortT l0_1))), (mkU (rowU (endsL l0_2))), (mkU (rowU [a0_3, a0_4]))]) [.string (mkU (handU (sortT l0_0))), .string (mkU (handU (sortT l0_1))), .string (mkU (rowU (endsL l0_2))), .string (mkU (rowU [a0_3, a0_4]))] (fun W => by kernel_rfl) (reps_strs [(mkU (handU (sortT l0_0))), (mkU (handU (sortT l0_1))), (mkU (rowU (endsL l0_2))), (mkU (rowU [a0_3, a0_4]))]) (by simp) hp.size hp ?_
       intro g_176 F_177 W_178 hp hz; clear hz
       refine step_fin hp.tail.tail.tail.tail ?_
       refine treeI_ev rfl ?_
       refine sx_call 36 (by rfl) (by kernel_rfl) ((strings_Join.calls (some ⟨g_176, 0, none⟩) ([(mkU (handU (sortT l0_0))), (mkU (handU (sortT l0_1))), (mkU (rowU (endsL l0_2))), (mkU (rowU [a0_3, a0_4]))].length) ([(mkU (handU (sortT l0_0))), (mkU (handU (sortT l0_1))), (mkU (rowU (endsL l0_2))), (mkU (rowU [a0_3, a0_4]))]) (⟨#[58]⟩ : ByteArray) _ _ (row_C (hp.at_ 0 _ (by rfl))) (row_len (hp.at_ 0 _ (by rfl))).2 (join_key l0_0 l0_1 l0_2 a0_3 a0_4)).mono ?_)
       rintro _ W_179 ⟨rfl, hb⟩
       refine ⟨_, rfl, ?_⟩
       replace hp := hp.below hb
       clear hb
       refine step_fin hp.tail.tail.tail.tail ?_
       refine treeI_rd rfl ?_
       refine sxq_val 2 (.string (mkU (gkey l0_0 l0_1 l0_2 a0_3 a0_4))) (by rfl) (fun W hp => (by kernel_rfl)) ?_
       refine sxq_nil ?_
       refine treeI_fin ?_
       exact ⟨_, fr_front [(2, .string (mkU (gkey l0_0 l0_1 l0_2 a0_3 a0_4)))] ⟨rfl, trivial⟩, (hp.take [4] 5 (by decide) (by simp))⟩
      exact treeI_non
     refine treeI_alt rfl ?_ ?_
     ·
      refine sx_lit 33 (by rfl) (Kd.int .i64) w.heap.size 3 ([a0_3, a0_4]) [.int .i64 a0_3, .int .i64 a0_4] (fun W => by kernel_rfl) (reps_ints [a0_3, a0_4]) (by simp) hp.size hp ?_
      intro g_180 F_181 W_182 hp hz; clear hz
      refine step_fin hp.tail.tail ?_
      refine treeI_ev rfl ?_
      refine sx_call 25 (by rfl) (by kernel_rfl) ((impl_sorted.calls A0_1 c0_1 l0_1 _ _ (hC0_1 _ hp.tail.tail.tail) hc0_1 (sorted_handG hf1)).mono ?_)
      rintro _ W_188 ⟨v_184, rfl, hR_183, hb⟩
      refine ⟨_, rfl, ?_⟩
      obtain ⟨A_185, c_186, rfl, hcc_c_186, _⟩ := Kd.R_reads hR_183
      obtain ⟨F_187, hp⟩ : ∃ F, Hp w (row k53 53 w.heap.size (.slice A_185 (sortT l0_1).length c_186) (sortT l0_1) F :: row (Kd.int .i64) 3 w.heap.size (.slice (some ⟨g_180, 0, none⟩) ([a0_3, a0_4].length) ([a0_3, a0_4].length)) ([a0_3, a0_4]) F_181 :: row k53 53 w.heap.size (.slice A_131 ((sortT l0_0).length) c_132) (sortT l0_0) F_133 :: blk g_1 #[.slice A0_0 l0_0.length c0_0, .slice A0_1 l0_1.length c0_1, .slice A0_2 l0_2.length c0_2, .int .i64 a0_3, .int .i64 a0_4] 31 :: cs) _ := ⟨_, Hp.made hp hb hR_183⟩
      refine step_fin hp.tail.tail.tail ?_
      refine treeI_ev rfl ?_
      obtain ⟨k_189, hk_k_189⟩ := Ev.rounds (handText_sort l0_1)
      refine sx_call 26 (by rfl) (by kernel_rfl) ((impl_handText.calls k_189 A_185 c_186 (sortT l0_1) _ _ (row_C (hp.at_ 0 _ (by rfl))) (row_len (hp.at_ 0 _ (by rfl))).2 hk_k_189).mono ?_)
      rintro _ W_190 ⟨rfl, hb⟩
      refine ⟨_, rfl, ?_⟩
      replace hp := hp.below hb
      clear hb
      refine step_fin hp.tail.tail.tail ?_
      refine treeI_ev rfl ?_
      obtain ⟨k_191, hk_k_191⟩ := Ev.rounds (chain_nil (r := l0_2) (by have q := c_3; simp only [decide_eq_false_iff_not] at q; omega))
      refine sx_call 28 (by rfl) (by kernel_rfl) ((impl_chainText.calls k_191 A0_2 c0_2 l0_2 _ _ (hC0_2 _ hp.tail.tail.tail.tail) hc0_2 hk_k_191).mono ?_)
      rintro _ W_192 ⟨rfl, hb⟩
      refine ⟨_, rfl, ?_⟩
      replace hp := hp.below hb
      clear hb
      refine step_fin hp.tail.tail.tail ?_
      refine treeI_ev rfl ?_
      obtain ⟨k_193, hk_k_193⟩ := Ev.rounds (chain_tp ht0 hp0)
      refine sx_call 34 (by rfl) (by kernel_rfl) ((impl_chainText.calls k_193 (some ⟨g_180, 0, none⟩) ([a0_3, a0_4].length) ([a0_3, a0_4]) _ _ (row_C (hp.at_ 1 _ (by rfl))) (row_len (hp.at_ 1 _ (by rfl))).2 hk_k_193).mono ?_)
      rintro _ W_194 ⟨rfl, hb⟩
      refine ⟨_, rfl, ?_⟩
      replace hp := hp.below hb
      clear hb
      refine step_fin hp.tail.tail.tail ?_
      refine treeI_ev rfl ?_
      refine sx_lit 35 (by rfl) Kd.string w.heap.size 9 ([(mkU (handU (sortT l0_0))), (mkU (handU (sortT l0_1))), (mkU (rowU (endsL l0_2))), (mkU (rowU [a0_3, a0_4]))]) [.string (mkU (handU (sortT l0_0))), .string (mkU (handU (sortT l0_1))), .string (mkU (rowU (endsL l0_2))), .string (mkU (rowU [a0_3, a0_4]))] (fun W => by kernel_rfl) (reps_strs [(mkU (handU (sortT l0_0))), (mkU (handU (sortT l0_1))), (mkU (rowU (endsL l0_2))), (mkU (rowU [a0_3, a0_4]))]) (by simp) hp.size hp ?_
      intro g_195 F_196 W_197 hp hz; clear hz
      refine step_fin hp.tail.tail.tail.tail ?_
      refine treeI_ev rfl ?_
      refine sx_call 36 (by rfl) (by kernel_rfl) ((strings_Join.calls (some ⟨g_195, 0, none⟩) ([(mkU (handU (sortT l0_0))), (mkU (handU (sortT l0_1))), (mkU (rowU (endsL l0_2))), (mkU (rowU [a0_3, a0_4]))].length) ([(mkU (handU (sortT l0_0))), (mkU (handU (sortT l0_1))), (mkU (rowU (endsL l0_2))), (mkU (rowU [a0_3, a0_4]))]) (⟨#[58]⟩ : ByteArray) _ _ (row_C (hp.at_ 0 _ (by rfl))) (row_len (hp.at_ 0 _ (by rfl))).2 (join_key l0_0 l0_1 l0_2 a0_3 a0_4)).mono ?_)
      rintro _ W_198 ⟨rfl, hb⟩
      refine ⟨_, rfl, ?_⟩
      replace hp := hp.below hb
      clear hb
      refine step_fin hp.tail.tail.tail.tail ?_
      refine treeI_rd rfl ?_
      refine sxq_val 2 (.string (mkU (gkey l0_0 l0_1 l0_2 a0_3 a0_4))) (by rfl) (fun W hp => (by kernel_rfl)) ?_
      refine sxq_nil ?_
      refine treeI_fin ?_
      exact ⟨_, fr_front [(2, .string (mkU (gkey l0_0 l0_1 l0_2 a0_3 a0_4)))] ⟨rfl, trivial⟩, (hp.take [4] 5 (by decide) (by simp))⟩
     exact treeI_non
    refine treeI_alt rfl ?_ ?_
    ·
     refine sx_lit 33 (by rfl) (Kd.int .i64) w.heap.size 3 ([a0_3, a0_4]) [.int .i64 a0_3, .int .i64 a0_4] (fun W => by kernel_rfl) (reps_ints [a0_3, a0_4]) (by simp) hp.size hp ?_
     intro g_199 F_200 W_201 hp hz; clear hz
     refine step_fin hp.tail.tail ?_
     refine treeI_ev rfl ?_
     obtain ⟨k_202, hk_k_202⟩ := Ev.rounds (handText_sort l0_0)
     refine sx_call 22 (by rfl) (by kernel_rfl) ((impl_handText.calls k_202 A_131 c_132 (sortT l0_0) _ _ (row_C (hp.at_ 1 _ (by rfl))) (row_len (hp.at_ 1 _ (by rfl))).2 hk_k_202).mono ?_)
     rintro _ W_203 ⟨rfl, hb⟩
     refine ⟨_, rfl, ?_⟩
     replace hp := hp.below hb
     clear hb
     refine step_fin hp.tail.tail ?_
     refine treeI_ev rfl ?_
     refine sx_call 25 (by rfl) (by kernel_rfl) ((impl_sorted.calls A0_1 c0_1 l0_1 _ _ (hC0_1 _ hp.tail.tail.tail) hc0_1 (sorted_handG hf1)).mono ?_)
     rintro _ W_209 ⟨v_205, rfl, hR_204, hb⟩
     refine ⟨_, rfl, ?_⟩
     obtain ⟨A_206, c_207, rfl, hcc_c_207, _⟩ := Kd.R_reads hR_204
     obtain ⟨F_208, hp⟩ : ∃ F, Hp w (row k53 53 w.heap.size (.slice A_206 (sortT l0_1).length c_207) (sortT l0_1) F :: row (Kd.int .i64) 3 w.heap.size (.slice (some ⟨g_199, 0, none⟩) ([a0_3, a0_4].length) ([a0_3, a0_4].length)) ([a0_3, a0_4]) F_200 :: row k53 53 w.heap.size (.slice A_131 ((sortT l0_0).length) c_132) (sortT l0_0) F_133 :: blk g_1 #[.slice A0_0 l0_0.length c0_0, .slice A0_1 l0_1.length c0_1, .slice A0_2 l0_2.length c0_2, .int .i64 a0_3, .int .i64 a0_4] 31 :: cs) _ := ⟨_, Hp.made hp hb hR_204⟩
     refine step_fin hp.tail.tail.tail ?_
     refine treeI_ev rfl ?_
     obtain ⟨k_210, hk_k_210⟩ := Ev.rounds (handText_sort l0_1)
     refine sx_call 26 (by rfl) (by kernel_rfl) ((impl_handText.calls k_210 A_206 c_207 (sortT l0_1) _ _ (row_C (hp.at_ 0 _ (by rfl))) (row_len (hp.at_ 0 _ (by rfl))).2 hk_k_210).mono ?_)
     rintro _ W_211 ⟨rfl, hb⟩
     refine ⟨_, rfl, ?_⟩
     replace hp := hp.below hb
     clear hb
     refine step_fin hp.tail.tail.tail ?_
     refine treeI_ev rfl ?_
     obtain ⟨k_212, hk_k_212⟩ := Ev.rounds (chain_nil (r := l0_2) (by have q := c_3; simp only [decide_eq_false_iff_not] at q; omega))
     refine sx_call 28 (by rfl) (by kernel_rfl) ((impl_chainText.calls k_212 A0_2 c0_2 l0_2 _ _ (hC0_2 _ hp.tail.tail.tail.tail) hc0_2 hk_k_212).mono ?_)
     rintro _ W_213 ⟨rfl, hb⟩
     refine ⟨_, rfl, ?_⟩
     replace hp := hp.below hb
     clear hb
     refine step_fin hp.tail.tail.tail ?_
     refine treeI_ev rfl ?_
     obtain ⟨k_214, hk_k_214⟩ := Ev.rounds (chain_tp ht0 hp0)
     refine sx_call 34 (by rfl) (by kernel_rfl) ((impl_chainText.calls k_214 (some ⟨g_199, 0, none⟩) ([a0_3, a0_4].length) ([a0_3, a0_4]) _ _ (row_C (hp.at_ 1 _ (by rfl))) (row_len (hp.at_ 1 _ (by rfl))).2 hk_k_214).mono ?_)
     rintro _ W_215 ⟨rfl, hb⟩
     refine ⟨_, rfl, ?_⟩
     replace hp := hp.below hb
     clear hb
     refine step_fin hp.tail.tail.tail ?_
     refine treeI_ev rfl ?_
     refine sx_lit 35 (by rfl) Kd.string w.heap.size 9 ([(mkU (handU (sortT l0_0))), (mkU (handU (sortT l0_1))), (mkU (rowU (endsL l0_2))), (mkU (rowU [a0_3, a0_4]))]) [.string (mkU (handU (sortT l0_0))), .string (mkU (handU (sortT l0_1))), .string (mkU (rowU (endsL l0_2))), .string (mkU (rowU [a0_3, a0_4]))] (fun W => by kernel_rfl) (reps_strs [(mkU (handU (sortT l0_0))), (mkU (handU (sortT l0_1))), (mkU (rowU (endsL l0_2))), (mkU (rowU [a0_3, a0_4]))]) (by simp) hp.size hp ?_
     intro g_216 F_217 W_218 hp hz; clear hz
     refine step_fin hp.tail.tail.tail.tail ?_
     refine treeI_ev rfl ?_
     refine sx_call 36 (by rfl) (by kernel_rfl) ((strings_Join.calls (some ⟨g_216, 0, none⟩) ([(mkU (handU (sortT l0_0))), (mkU (handU (sortT l0_1))), (mkU (rowU (endsL l0_2))), (mkU (rowU [a0_3, a0_4]))].length) ([(mkU (handU (sortT l0_0))), (mkU (handU (sortT l0_1))), (mkU (rowU (endsL l0_2))), (mkU (rowU [a0_3, a0_4]))]) (⟨#[58]⟩ : ByteArray) _ _ (row_C (hp.at_ 0 _ (by rfl))) (row_len (hp.at_ 0 _ (by rfl))).2 (join_key l0_0 l0_1 l0_2 a0_3 a0_4)).mono ?_)
     rintro _ W_219 ⟨rfl, hb⟩
     refine ⟨_, rfl, ?_⟩
     replace hp := hp.below hb
     clear hb
     refine step_fin hp.tail.tail.tail.tail ?_
     refine treeI_rd rfl ?_
     refine sxq_val 2 (.string (mkU (gkey l0_0 l0_1 l0_2 a0_3 a0_4))) (by rfl) (fun W hp => (by kernel_rfl)) ?_
     refine sxq_nil ?_
     refine treeI_fin ?_
     exact ⟨_, fr_front [(2, .string (mkU (gkey l0_0 l0_1 l0_2 a0_3 a0_4)))] ⟨rfl, trivial⟩, (hp.take [4] 5 (by decide) (by simp))⟩
    exact treeI_non
   refine treeI_alt rfl ?_ ?_
   ·
    refine sx_lit 33 (by rfl) (Kd.int .i64) w.heap.size 3 ([a0_3, a0_4]) [.int .i64 a0_3, .int .i64 a0_4] (fun W => by kernel_rfl) (reps_ints [a0_3, a0_4]) (by simp) hp.size hp ?_
    intro g_220 F_221 W_222 hp hz; clear hz
    refine step_fin hp.tail ?_
    refine treeI_ev rfl ?_
    refine sx_call 21 (by rfl) (by kernel_rfl) ((impl_sorted.calls A0_0 c0_0 l0_0 _ _ (hC0_0 _ hp.tail.tail) hc0_0 (sorted_handG hf0)).mono ?_)
    rintro _ W_228 ⟨v_224, rfl, hR_223, hb⟩
    refine ⟨_, rfl, ?_⟩
    obtain ⟨A_225, c_226, rfl, hcc_c_226, _⟩ := Kd.R_reads hR_223
    obtain ⟨F_227, hp⟩ : ∃ F, Hp w (row k53 53 w.heap.size (.slice A_225 (sortT l0_0).length c_226) (sortT l0_0) F :: row (Kd.int .i64) 3 w.heap.size (.slice (some ⟨g_220, 0, none⟩) ([a0_3, a0_4].length) ([a0_3, a0_4].length)) ([a0_3, a0_4]) F_221 :: blk g_1 #[.slice A0_0 l0_0.length c0_0, .slice A0_1 l0_1.length c0_1, .slice A0_2 l0_2.length c0_2, .int .i64 a0_3, .int .i64 a0_4] 31 :: cs) _ := ⟨_, Hp.made hp hb hR_223⟩
    refine step_fin hp.tail.tail ?_
    refine treeI_ev rfl ?_
    obtain ⟨k_229, hk_k_229⟩ := Ev.rounds (handText_sort l0_0)
    refine sx_call 22 (by rfl) (by kernel_rfl) ((impl_handText.calls k_229 A_225 c_226 (sortT l0_0) _ _ (row_C (hp.at_ 0 _ (by rfl))) (row_len (hp.at_ 0 _ (by rfl))).2 hk_k_229).mono ?_)
    rintro _ W_230 ⟨rfl, hb⟩
    refine ⟨_, rfl, ?_⟩
    replace hp := hp.below hb
    clear hb
    refine step_fin hp.tail.tail ?_
    refine treeI_ev rfl ?_
    refine sx_call 25 (by rfl) (by kernel_rfl) ((impl_sorted.calls A0_1 c0_1 l0_1 _ _ (hC0_1 _ hp.tail.tail.tail) hc0_1 (sorted_handG hf1)).mono ?_)
    rintro _ W_236 ⟨v_232, rfl, hR_231, hb⟩
    refine ⟨_, rfl, ?_⟩
    obtain ⟨A_233, c_234, rfl, hcc_c_234, _⟩ := Kd.R_reads hR_231
    obtain ⟨F_235, hp⟩ : ∃ F, Hp w (row k53 53 w.heap.size (.slice A_233 (sortT l0_1).length c_234) (sortT l0_1) F :: row k53 53 w.heap.size (.slice A_225 ((sortT l0_0).length) c_226) (sortT l0_0) F_227 :: row (Kd.int .i64) 3 w.heap.size (.slice (some ⟨g_220, 0, none⟩) ([a0_3, a0_4].length) ([a0_3, a0_4].length)) ([a0_3, a0_4]) F_221 :: blk g_1 #[.slice A0_0 l0_0.length c0_0, .slice A0_1 l0_1.length c0_1, .slice A0_2 l0_2.length c0_2, .int .i64 a0_3, .int .i64 a0_4] 31 :: cs) _ := ⟨_, Hp.made hp hb hR_231⟩
    refine step_fin hp.tail.tail.tail ?_
    refine treeI_ev rfl ?_
    obtain ⟨k_237, hk_k_237⟩ := Ev.rounds (handText_sort l0_1)
    refine sx_call 26 (by rfl) (by kernel_rfl) ((impl_handText.calls k_237 A_233 c_234 (sortT l0_1) _ _ (row_C (hp.at_ 0 _ (by rfl))) (row_len (hp.at_ 0 _ (by rfl))).2 hk_k_237).mono ?_)
    rintro _ W_238 ⟨rfl, hb⟩
    refine ⟨_, rfl, ?_⟩
    replace hp := hp.below hb
    clear hb
    refine step_fin hp.tail.tail.tail ?_
    refine treeI_ev rfl ?_
    obtain ⟨k_239, hk_k_239⟩ := Ev.rounds (chain_nil (r := l0_2) (by have q := c_3; simp only [decide_eq_false_iff_not] at q; omega))
    refine sx_call 28 (by rfl) (by kernel_rfl) ((impl_chainText.calls k_239 A0_2 c0_2 l0_2 _ _ (hC0_2 _ hp.tail.tail.tail.tail) hc0_2 hk_k_239).mono ?_)
    rintro _ W_240 ⟨rfl, hb⟩
    refine ⟨_, rfl, ?_⟩
    replace hp := hp.below hb
    clear hb
    refine step_fin hp.tail.tail.tail ?_
    refine treeI_ev rfl ?_
    obtain ⟨k_241, hk_k_241⟩ := Ev.rounds (chain_tp ht0 hp0)
    refine sx_call 34 (by rfl) (by kernel_rfl) ((impl_chainText.calls k_241 (some ⟨g_220, 0, none⟩) ([a0_3, a0_4].length) ([a0_3, a0_4]) _ _ (row_C (hp.at_ 2 _ (by rfl))) (row_len (hp.at_ 2 _ (by rfl))).2 hk_k_241).mono ?_)
    rintro _ W_242 ⟨rfl, hb⟩
    refine ⟨_, rfl, ?_⟩
    replace hp := hp.below hb
    clear hb
    refine step_fin hp.tail.tail.tail ?_
    refine treeI_ev rfl ?_
    refine sx_lit 35 (by rfl) Kd.string w.heap.size 9 ([(mkU (handU (sortT l0_0))), (mkU (handU (sortT l0_1))), (mkU (rowU (endsL l0_2))), (mkU (rowU [a0_3, a0_4]))]) [.string (mkU (handU (sortT l0_0))), .string (mkU (handU (sortT l0_1))), .string (mkU (rowU (endsL l0_2))), .string (mkU (rowU [a0_3, a0_4]))] (fun W => by kernel_rfl) (reps_strs [(mkU (handU (sortT l0_0))), (mkU (handU (sortT l0_1))), (mkU (rowU (endsL l0_2))), (mkU (rowU [a0_3, a0_4]))]) (by simp) hp.size hp ?_
    intro g_243 F_244 W_245 hp hz; clear hz
    refine step_fin hp.tail.tail.tail.tail ?_
    refine treeI_ev rfl ?_
    refine sx_call 36 (by rfl) (by kernel_rfl) ((strings_Join.calls (some ⟨g_243, 0, none⟩) ([(mkU (handU (sortT l0_0))), (mkU (handU (sortT l0_1))), (mkU (rowU (endsL l0_2))), (mkU (rowU [a0_3, a0_4]))].length) ([(mkU (handU (sortT l0_0))), (mkU (handU (sortT l0_1))), (mkU (rowU (endsL l0_2))), (mkU (rowU [a0_3, a0_4]))]) (⟨#[58]⟩ : ByteArray) _ _ (row_C (hp.at_ 0 _ (by rfl))) (row_len (hp.at_ 0 _ (by rfl))).2 (join_key l0_0 l0_1 l0_2 a0_3 a0_4)).mono ?_)
    rintro _ W_246 ⟨rfl, hb⟩
    refine ⟨_, rfl, ?_⟩
    replace hp := hp.below hb
    clear hb
    refine step_fin hp.tail.tail.tail.tail ?_
    refine treeI_rd rfl ?_
    refine sxq_val 2 (.string (mkU (gkey l0_0 l0_1 l0_2 a0_3 a0_4))) (by rfl) (fun W hp => (by kernel_rfl)) ?_
    refine sxq_nil ?_
    refine treeI_fin ?_
    exact ⟨_, fr_front [(2, .string (mkU (gkey l0_0 l0_1 l0_2 a0_3 a0_4)))] ⟨rfl, trivial⟩, (hp.take [4] 5 (by decide) (by simp))⟩
   exact treeI_non
  ·
   rintro _ W_247 ⟨r_, rfl, hp⟩
   refine sx_nil ?_
   refine ex_then_n ?_
   refine wp_ret ?_
   refine sx_end (.string (mkU (gkey l0_0 l0_1 l0_2 a0_3 a0_4))) (res1 2 (by rfl)) ?_
   unfold impl_Game_key.f at h; rw [if_pos hok] at h; obtain rfl := Option.some.inj h
   exact ⟨rfl, hc2 _ (hp.tail)⟩
end Go.Proofs.YtjaojemmbeddfaaGreat.Hd
namespace Go.Proofs.YtjaojemmbeddfaaGreat.Hd
open Go.RowKit Go.Proofs.YtjaojemmbeddfaaGreat.Pure Go.Proofs.YtjaojemmbeddfaaGreatW.PrintWords Go.Proofs.YtjaojemmbeddfaaGreatW.PrintLast Go.Proofs.YtjaojemmbeddfaaGreatW.PrintMore
set_option linter.unusedVariables false
set_option linter.unusedSimpArgs false
theorem fitting_eq {h : List S_Tile} (hb : handB h = true) (r : List Int) (hr : r.length ≤ 2000000) : impl_fitting.f h r = some ((fitTo r (sortT h) (sortT h).length).map txt) := by unfold impl_fitting.f; rw [if_pos ⟨hb, hr⟩]
set_option maxRecDepth 100000 in
set_option maxHeartbeats 40000000 in
theorem gameOwn_sx (A0_0 : Option Addr) (c0_0 : Nat) (l0_0 : List S_Tile) (A0_1 : Option Addr) (c0_1 : Nat) (l0_1 : List S_Tile) (A0_2 : Option Addr) (c0_2 : Nat) (l0_2 : List Int) (a0_3 : Int) (a0_4 : Int) (v : Value) (w : World) (hr0_0 : Kd.C k53 w A0_0 l0_0.length l0_0) (hc0_0 : l0_0.length ≤ c0_0) (hr0_1 : Kd.C k53 w A0_1 l0_1.length l0_1) (hc0_1 : l0_1.length ≤ c0_1) (hr0_2 : Kd.C (Kd.int .i64) w A0_2 l0_2.length l0_2) (hc0_2 : l0_2.length ≤ c0_2) (hv0 : (a0_3 == 0) = true → v = .slice A0_0 l0_0.length c0_0) (hv1 : (a0_3 == 0) = false → v = .slice A0_1 l0_1.length c0_1) :
  Calls Tryz.prog 61 #[.agg #[.slice A0_0 l0_0.length c0_0, .slice A0_1 l0_1.length c0_1, .slice A0_2 l0_2.length c0_2, .int .i64 a0_3, .int .i64 a0_4]] w fun e w' => e = .returned v ∧ Below w.heap.size w w' := by
 obtain ⟨cs, hcs⟩ : ∃ cs, cs = [old w w.heap.size] := ⟨_, rfl⟩
 have hp : Hp w cs w := by rw [hcs]; exact Hp.old_start w
 have hc2 : ∀ W, Hp w cs W → Below w.heap.size w W := fun W h => by rw [hcs] at h; exact h.since 0 _ rfl
 have hC0_0 : ∀ W, Hp w cs W → Kd.C k53 W A0_0 l0_0.length l0_0 := fun W h => Kd.C_below hr0_0 (hc2 W h)
 have hC0_1 : ∀ W, Hp w cs W → Kd.C k53 W A0_1 l0_1.length l0_1 := fun W h => Kd.C_below hr0_1 (hc2 W h)
 have hC0_2 : ∀ W, Hp w cs W → Kd.C (Kd.int .i64) W A0_2 l0_2.length l0_2 := fun W h => Kd.C_below hr0_2 (hc2 W h)
 clear hcs
 refine sx_enter (N := 10) (l := [.agg #[.slice A0_0 l0_0.length c0_0, .slice A0_1 l0_1.length c0_1, .slice A0_2 l0_2.length c0_2, .int .i64 a0_3, .int .i64 a0_4]]) Tryz.func61 rfl rfl rfl ?_
 refine wp_seq ?_
 refine sx_region ?_
 refine sx_box 1 hp #[.slice A0_0 l0_0.length c0_0, .slice A0_1 l0_1.length c0_1, .slice A0_2 l0_2.length c0_2, .int .i64 a0_3, .int .i64 a0_4] 31 (by rfl) (fun W => by kernel_rfl) ?_
 intro g_1 W_2 hp
 refine sx_rd 2 (.slice none 0 0) (by rfl) (by kernel_rfl) ?_
 refine sx_nil ?_
 refine ex_then_n ?_
 refine wp_seq ?_
 refine wp_seq ?_
 refine sx_region ?_
 refine sx_rd 3 (.pointer (some ⟨g_1, 3, none⟩)) (by rfl) (by kernel_rfl) ?_
 refine sx_rd 4 (.int .i64 a0_3) (by rfl) (ld1 (t := 3) (p := (.tmp 3)) (by rfl) (by rfl) (by kernel_rfl) (hp.cell 0 (by rfl) 3 _ (by rfl))) ?_
 refine sx_rd 5 (.bool (a0_3 == 0)) (by rfl) (by kernel_rfl) ?_
 refine sx_nil ?_
 refine ex_then_n ?_
 refine sx_cond (a0_3 == 0) (by rfl) (fun c_3 => ?_) (fun c_3 => ?_)
 ·
  have c_3p := eq_of_beq_ c_3
  refine wp_seq ?_
  refine sx_region ?_
  refine sx_rd 6 (.pointer (some ⟨g_1, 0, none⟩)) (by rfl) (by kernel_rfl) ?_
  refine sx_rd 7 (.slice A0_0 l0_0.length c0_0) (by rfl) (ld1 (t := 29) (p := (.tmp 6)) (by rfl) (by rfl) (by kernel_rfl) (hp.cell 0 (by rfl) 0 _ (by rfl))) ?_
  refine sx_rd 2 (.slice A0_0 l0_0.length c0_0) (by rfl) (by kernel_rfl) ?_
  refine sx_nil ?_
  refine ex_then_n ?_
  refine wp_ret ?_
  refine ex_then_r ?_
  refine sx_end (.slice A0_0 l0_0.length c0_0) (res1 2 (by rfl)) ?_
  exact ⟨congrArg Ending.returned (hv0 c_3).symm, hc2 _ (hp.tail)⟩
 ·
  have c_3p := ne_of_beq_ c_3
  refine wp_skip ?_
  refine ex_then_n ?_
  refine wp_seq ?_
  refine sx_region ?_
  refine sx_rd 8 (.pointer (some ⟨g_1, 1, none⟩)) (by rfl) (by kernel_rfl) ?_
  refine sx_rd 9 (.slice A0_1 l0_1.length c0_1) (by rfl) (ld1 (t := 29) (p := (.tmp 8)) (by rfl) (by rfl) (by kernel_rfl) (hp.cell 0 (by rfl) 1 _ (by rfl))) ?_
  refine sx_rd 2 (.slice A0_1 l0_1.length c0_1) (by rfl) (by kernel_rfl) ?_
  refine sx_nil ?_
  refine ex_then_n ?_
  refine wp_ret ?_
  refine sx_end (.slice A0_1 l0_1.length c0_1) (res1 2 (by rfl)) ?_
  exact ⟨congrArg Ending.returned (hv1 c_3).symm, hc2 _ (hp.tail)⟩
def impl_Game_moves.f (f s : List S_Tile) (r : List Int) (t p : Int) : Option (List ByteArray) := if gmB f s r t p then some ((movesL f s r t p).map txt) else none
set_option maxRecDepth 100000 in
set_option maxHeartbeats 40000000 in
theorem impl_Game_moves.calls (A0_0 : Option Addr) (c0_0 : Nat) (l0_0 : List S_Tile) (A0_1 : Option Addr) (c0_1 : Nat) (l0_1 : List S_Tile) (A0_2 : Option Addr) (c0_2 : Nat) (l0_2 : List Int) (a0_3 : Int) (a0_4 : Int) (r : List ByteArray) (w : World) (hr0_0 : Kd.C k53 w A0_0 l0_0.length l0_0) (hc0_0 : l0_0.length ≤ c0_0) (hr0_1 : Kd.C k53 w A0_1 l0_1.length l0_1) (hc0_1 : l0_1.length ≤ c0_1) (hr0_2 : Kd.C (Kd.int .i64) w A0_2 l0_2.length l0_2) (hc0_2 : l0_2.length ≤ c0_2) (h : impl_Game_moves.f l0_0 l0_1 l0_2 a0_3 a0_4 = some r) :
  Calls Tryz.prog 36 #[.agg #[.slice A0_0 l0_0.length c0_0, .slice A0_1 l0_1.length c0_1, .slice A0_2 l0_2.length c0_2, .int .i64 a0_3, .int .i64 a0_4]] w fun e w' => ∃ v0_ : Value, e = .returned (v0_) ∧ Kd.R Kd.string 9 w' w.heap.size (fun _ => True) v0_ r ∧ Below w.heap.size w w' := by
 unfold impl_Game_moves.f at h
 by_cases hsz : gmB l0_0 l0_1 l0_2 a0_3 a0_4
 case neg => rw [if_neg hsz] at h; cases h
 rw [if_pos hsz] at h
 obtain ⟨⟨hf1, hs1⟩, hz2, ⟨ht0, ht1⟩, hp0, hp1⟩ := hsz
 have hz0 := hand_len hf1
 have hz1 := hand_len hs1
 have hg : handB l0_0 = true ∧ handB l0_1 = true ∧ 0 ≤ a0_3 ∧ a0_3 ≤ 1 := ⟨hf1, hs1, ht0, ht1⟩
 obtain ⟨cs, hcs⟩ : ∃ cs, cs = [old w w.heap.size] := ⟨_, rfl⟩
 have hp : Hp w cs w := by rw [hcs]; exact Hp.old_start w
 have hc2 : ∀ W, Hp w cs W → Below w.heap.size w W := fun W h => by rw [hcs] at h; exact h.since 0 _ rfl
 have hC0_0 : ∀ W, Hp w cs W → Kd.C k53 W A0_0 l0_0.length l0_0 := fun W h => Kd.C_below hr0_0 (hc2 W h)
 have hC0_1 : ∀ W, Hp w cs W → Kd.C k53 W A0_1 l0_1.length l0_1 := fun W h => Kd.C_below hr0_1 (hc2 W h)
 have hC0_2 : ∀ W, Hp w cs W → Kd.C (Kd.int .i64) W A0_2 l0_2.length l0_2 := fun W h => Kd.C_below hr0_2 (hc2 W h)
 clear hcs
 refine sx_enter (N := 17) (l := [.agg #[.slice A0_0 l0_0.length c0_0, .slice A0_1 l0_1.length c0_1, .slice A0_2 l0_2.length c0_2, .int .i64 a0_3, .int .i64 a0_4]]) Tryz.func36 rfl rfl rfl ?_
 refine wp_seq ?_
 refine sx_region ?_
 refine sx_box 1 hp #[.slice A0_0 l0_0.length c0_0, .slice A0_1 l0_1.length c0_1, .slice A0_2 l0_2.length c0_2, .int .i64 a0_3, .int .i64 a0_4] 31 (by rfl) (fun W => by kernel_rfl) ?_
 intro g_1 W_2 hp
 refine sx_rd 2 (.slice none 0 0) (by rfl) (by kernel_rfl) ?_
 refine sx_nil ?_
 refine ex_then_n ?_
 refine wp_seq ?_
 refine wp_seq ?_
 refine sx_region ?_
 refine sx_rd 4 (.agg #[.slice A0_0 l0_0.length c0_0, .slice A0_1 l0_1.length c0_1, .slice A0_2 l0_2.length c0_2, .int .i64 a0_3, .int .i64 a0_4]) (by rfl) (ldn (t := 31) (p := (.tmp 1)) (by rfl) (by rfl) (by kernel_rfl) (by kernel_rfl) (by kernel_rfl) (hp.at_ 0 _ (by rfl))) ?_
 refine sx_call 5 (by rfl) (by kernel_rfl) ((impl_Game_isOver.calls A0_0 c0_0 l0_0 A0_1 c0_1 l0_1 A0_2 c0_2 l0_2 a0_3 a0_4 _ _ (hC0_0 _ hp.tail) hc0_0 (hC0_1 _ hp.tail) hc0_1 (hC0_2 _ hp.tail) hc0_2 (isOver_eq l0_0 l0_1 l0_2 a0_3 a0_4)).mono ?_)
 rintro _ W_3 ⟨rfl, hb⟩
 refine ⟨_, rfl, ?_⟩
 replace hp := hp.below hb
 clear hb
 refine sx_nil ?_
 refine ex_then_n ?_
 refine sx_cond (overB l0_0 l0_1 a0_4) (by rfl) (fun c_4 => ?_) (fun c_4 => ?_)
 ·
  refine wp_seq ?_
  refine sx_region ?_
  refine sx_lit 6 (by rfl) Kd.string w.heap.size 9 ([] : List ByteArray) [] (fun W => by kernel_rfl) (Reps.none _ _) (by simp) hp.size hp ?_
  intro g_5 F_6 W_7 hp hz; clear hz
  refine sx_rd 2 (.slice (some ⟨g_5, 0, none⟩) (([] : List ByteArray).length) (([] : List ByteArray).length)) (by rfl) (by kernel_rfl) ?_
  refine sx_nil ?_
  refine ex_then_n ?_
  refine wp_ret ?_
  refine ex_then_r ?_
  refine sx_end (.slice (some ⟨g_5, 0, none⟩) (([] : List ByteArray).length) (([] : List ByteArray).length)) (res1 2 (by rfl)) ?_
  unfold movesL at h; rw [if_pos (show (overB l0_0 l0_1 a0_4) = true from by have q := c_4; simpa using q)] at h; obtain rfl := Option.some.inj h
  exact ⟨_, rfl, Kd.R_mono (row_R (hp.at_ 0 _ (by rfl))) (fun _ _ => trivial), hc2 _ (hp.tail.tail)⟩
 ·
  refine wp_skip ?_
  refine ex_then_n ?_
  refine wp_seq ?_
  rcases Bool.eq_false_or_eq_true (a0_3 == 0) with c_8 | c_8
  ·
   have c_8p := eq_of_beq_ c_8
   refine sx_drawT [2] (.rd 0 (.rd 3 (.alt 1 (.alt 4 (.rd 5 (.fin)) .non) .non))) 6 (C := Hp w (blk g_1 #[.slice A0_0 l0_0.length c0_0, .slice A0_1 l0_1.length c0_1, .slice A0_2 l0_2.length c0_2, .int .i64 a0_3, .int .i64 a0_4] 31 :: cs)) (by kernel_rfl) (by kernel_rfl) (fun d _ _ _ _ h => by cases d <;> exact h) (fun W h => h.drew) hp ?_
   refine preI_read rfl ?_
   refine sxq_val 9 (.pointer (some ⟨g_1, 2, none⟩)) (by rfl) (fun W _ => (by kernel_rfl)) ?_
   refine sxq_nil ?_
   refine preI_nil ?_
   intro W_9 hp
   refine treeI_rd rfl ?_
   refine sxq_val 7 (.agg #[.slice A0_0 l0_0.length c0_0, .slice A0_1 l0_1.length c0_1, .slice A0_2 l0_2.length c0_2, .int .i64 a0_3, .int .i64 a0_4]) (by rfl) (fun W hp => (ldn (t := 31) (p := (.tmp 1)) (by rfl) (by rfl) (by kernel_rfl) (by kernel_rfl) (by kernel_rfl) (hp.at_ 0 _ (by rfl)))) ?_
   refine sxq_nil ?_
   refine treeI_rd rfl ?_
   refine sxq_val 10 (.slice A0_2 l0_2.length c0_2) (by rfl) (fun W hp => (ld1 (t := 23) (p := (.tmp 9)) (by rfl) (by rfl) (by kernel_rfl) (hp.cell 0 (by rfl) 2 _ (by rfl)))) ?_
   refine sxq_nil ?_
   refine treeI_ev rfl ?_
   refine sx_call 8 (by rfl) (by kernel_rfl) ((gameOwn_sx A0_0 c0_0 l0_0 A0_1 c0_1 l0_1 A0_2 c0_2 l0_2 a0_3 a0_4 (.slice A0_0 l0_0.length c0_0) _ (hC0_0 _ hp.tail) hc0_0 (hC0_1 _ hp.tail) hc0_1 (hC0_2 _ hp.tail) hc0_2 (fun _ => rfl) (fun q => by rw [c_8] at q; cases q)).mono ?_)
   rintro _ W_10 ⟨rfl, hb⟩
   refine ⟨_, rfl, ?_⟩
   replace hp := hp.below hb
   clear hb
   refine step_fin hp ?_
   refine treeI_ev rfl ?_
   refine sx_call 11 (by rfl) (by kernel_rfl) ((impl_fitting.calls A0_0 c0_0 l0_0 A0_2 c0_2 l0_2 _ _ (hC0_0 _ hp.tail) hc0_0 (hC0_2 _ hp.tail) hc0_2 (fitting_eq hg.1 l0_2 (by omega))).mono ?_)
   rintro _ W_16 ⟨v_12, rfl, hR_11, hb⟩
   refine ⟨_, rfl, ?_⟩
   obtain ⟨A_13, c_14, rfl, hcc_c_14, _⟩ := Kd.R_reads hR_11
   obtain ⟨F_15, hp⟩ : ∃ F, Hp w (row Kd.string 9 w.heap.size (.slice A_13 ((fitTo l0_2 (sortT l0_0) (sortT l0_0).length).map txt).length c_14) ((fitTo l0_2 (sortT l0_0) (sortT l0_0).length).map txt) F :: blk g_1 #[.slice A0_0 l0_0.length c0_0, .slice A0_1 l0_1.length c0_1, .slice A0_2 l0_2.length c0_2, .int .i64 a0_3, .int .i64 a0_4] 31 :: cs) _ := ⟨_, Hp.made hp hb hR_11⟩
   refine step_fin hp.tail ?_
   refine treeI_rd rfl ?_
   refine sxq_val 3 (.slice A_13 (((fitTo l0_2 (sortT l0_0) (sortT l0_0).length).map txt).length) c_14) (by rfl) (fun W hp => (by kernel_rfl)) ?_
   refine sxq_nil ?_
   refine treeI_fin ?_
   refine sx_nil ?_
   refine ex_then_n ?_
   refine wp_seq ?_
   refine wp_seq ?_
   refine sx_region ?_
   refine sx_rd 12 (.slice A_13 (((fitTo l0_2 (sortT l0_0) (sortT l0_0).length).map txt).length) c_14) (by rfl) (by kernel_rfl) ?_
   refine sx_rd 13 (.int .i64 (((fitTo l0_2 (sortT l0_0) (sortT l0_0).length).map txt).length : Int)) (by rfl) (by kernel_rfl) ?_
   refine sx_rd 14 (.bool ((((fitTo l0_2 (sortT l0_0) (sortT l0_0).length).map txt).length : Int) == 0)) (by rfl) (by kernel_rfl) ?_
   refine sx_nil ?_
   refine ex_then_n ?_
   refine sx_cond ((((fitTo l0_2 (sortT l0_0) (sortT l0_0).length).map txt).length : Int) == 0) (by rfl) (fun c_17 => ?_) (fun c_17 => ?_)
   ·
    have c_17p := eq_of_beq_ c_17
    refine wp_seq ?_
    refine sx_region ?_
    refine sx_lit 15 (by rfl) Kd.string w.heap.size 9 ([(⟨#[45]⟩ : ByteArray)]) [.string (⟨#[45]⟩ : ByteArray)] (fun W => by kernel_rfl) (Reps.snoc (cs := []) (Reps.none _ _) rfl rfl) (by simp) hp.size hp ?_
    intro g_18 F_19 W_20 hp hz; clear hz
    refine sx_rd 2 (.slice (some ⟨g_18, 0, none⟩) ([(⟨#[45]⟩ : ByteArray)].length) ([(⟨#[45]⟩ : ByteArray)].length)) (by rfl) (by kernel_rfl) ?_
    refine sx_nil ?_
    refine ex_then_n ?_
    refine wp_ret ?_
    refine ex_then_r ?_
    refine sx_end (.slice (some ⟨g_18, 0, none⟩) ([(⟨#[45]⟩ : ByteArray)].length) ([(⟨#[45]⟩ : ByteArray)].length)) (res1 2 (by rfl)) ?_
    have how : ownT l0_0 l0_1 a0_3 = l0_0 := by unfold ownT; rw [if_neg (by have q := c_8; simp at q; omega)]
    unfold movesL at h; rw [if_neg (show ¬ (overB l0_0 l0_1 a0_4) = true from by have q := c_4; simpa using q), how] at h
    have hz := c_17
    simp only [List.length_map] at hz
    rw [if_pos (by simp at hz; simpa using hz)] at h; obtain rfl := Option.some.inj h
    exact ⟨_, rfl, Kd.R_mono (row_R (hp.at_ 0 _ (by rfl))) (fun _ _ => trivial), hc2 _ (hp.tail.tail.tail)⟩
   ·
    have c_17p := ne_of_beq_ c_17
    refine wp_skip ?_
    refine ex_then_n ?_
    refine wp_seq ?_
    refine sx_region ?_
    refine sx_rd 16 (.slice A_13 (((fitTo l0_2 (sortT l0_0) (sortT l0_0).length).map txt).length) c_14) (by rfl) (by kernel_rfl) ?_
    refine sx_rd 2 (.slice A_13 (((fitTo l0_2 (sortT l0_0) (sortT l0_0).length).map txt).length) c_14) (by rfl) (by kernel_rfl) ?_
    refine sx_nil ?_
    refine ex_then_n ?_
    refine wp_ret ?_
    refine sx_end (.slice A_13 (((fitTo l0_2 (sortT l0_0) (sortT l0_0).length).map txt).length) c_14) (res1 2 (by rfl)) ?_
    have how : ownT l0_0 l0_1 a0_3 = l0_0 := by unfold ownT; rw [if_neg (by have q := c_8; simp at q; omega)]
    unfold movesL at h; rw [if_neg (show ¬ (overB l0_0 l0_1 a0_4) = true from by have q := c_4; simpa using q), how] at h
    have hz := c_17
    simp only [List.length_map] at hz
    rw [if_neg (by simp at hz; simpa using hz)] at h; obtain rfl := Option.some.inj h
    exact ⟨_, rfl, Kd.R_mono (row_R (hp.at_ 0 _ (by rfl))) (fun _ _ => trivial), hc2 _ (hp.tail.tail)⟩
  ·
   have c_8p := ne_of_beq_ c_8
   refine sx_drawT [2] (.rd 0 (.rd 3 (.alt 1 (.alt 4 (.rd 5 (.fin)) .non) .non))) 6 (C := Hp w (blk g_1 #[.slice A0_0 l0_0.length c0_0, .slice A0_1 l0_1.length c0_1, .slice A0_2 l0_2.length c0_2, .int .i64 a0_3, .int .i64 a0_4] 31 :: cs)) (by kernel_rfl) (by kernel_rfl) (fun d _ _ _ _ h => by cases d <;> exact h) (fun W h => h.drew) hp ?_
   refine preI_read rfl ?_
   refine sxq_val 9 (.pointer (some ⟨g_1, 2, none⟩)) (by rfl) (fun W _ => (by kernel_rfl)) ?_
   refine sxq_nil ?_
   refine preI_nil ?_
   intro W_21 hp
   refine treeI_rd rfl ?_
   refine sxq_val 7 (.agg #[.slice A0_0 l0_0.length c0_0, .slice A0_1 l0_1.length c0_1, .slice A0_2 l0_2.length c0_2, .int .i64 a0_3, .int .i64 a0_4]) (by rfl) (fun W hp => (ldn (t := 31) (p := (.tmp 1)) (by rfl) (by rfl) (by kernel_rfl) (by kernel_rfl) (by kernel_rfl) (hp.at_ 0 _ (by rfl)))) ?_
   refine sxq_nil ?_
   refine treeI_rd rfl ?_
   refine sxq_val 10 (.slice A0_2 l0_2.length c0_2) (by rfl) (fun W hp => (ld1 (t := 23) (p := (.tmp 9)) (by rfl) (by rfl) (by kernel_rfl) (hp.cell 0 (by rfl) 2 _ (by rfl)))) ?_
   refine sxq_nil ?_
   refine treeI_ev rfl ?_
   refine sx_call 8 (by rfl) (by kernel_rfl) ((gameOwn_sx A0_0 c0_0 l0_0 A0_1 c0_1 l0_1 A0_2 c0_2 l0_2 a0_3 a0_4 (.slice A0_1 l0_1.length c0_1) _ (hC0_0 _ hp.tail) hc0_0 (hC0_1 _ hp.tail) hc0_1 (hC0_2 _ hp.tail) hc0_2 (fun q => by rw [c_8] at q; cases q) (fun _ => rfl)).mono ?_)
   rintro _ W_22 ⟨rfl, hb⟩
   refine ⟨_, rfl, ?_⟩
   replace hp := hp.below hb
   clear hb
   refine step_fin hp ?_
   refine treeI_ev rfl ?_
   refine sx_call 11 (by rfl) (by kernel_rfl) ((impl_fitting.calls A0_1 c0_1 l0_1 A0_2 c0_2 l0_2 _ _ (hC0_1 _ hp.tail) hc0_1 (hC0_2 _ hp.tail) hc0_2 (fitting_eq hg.2.1 l0_2 (by omega))).mono ?_)
   rintro _ W_28 ⟨v_24, rfl, hR_23, hb⟩
   refine ⟨_, rfl, ?_⟩
   obtain ⟨A_25, c_26, rfl, hcc_c_26, _⟩ := Kd.R_reads hR_23
   obtain ⟨F_27, hp⟩ : ∃ F, Hp w (row Kd.string 9 w.heap.size (.slice A_25 ((fitTo l0_2 (sortT l0_1) (sortT l0_1).length).map txt).length c_26) ((fitTo l0_2 (sortT l0_1) (sortT l0_1).length).map txt) F :: blk g_1 #[.slice A0_0 l0_0.length c0_0, .slice A0_1 l0_1.length c0_1, .slice A0_2 l0_2.length c0_2, .int .i64 a0_3, .int .i64 a0_4] 31 :: cs) _ := ⟨_, Hp.made hp hb hR_23⟩
   refine step_fin hp.tail ?_
   refine treeI_rd rfl ?_
   refine sxq_val 3 (.slice A_25 (((fitTo l0_2 (sortT l0_1) (sortT l0_1).length).map txt).length) c_26) (by rfl) (fun W hp => (by kernel_rfl)) ?_
   refine sxq_nil ?_
   refine treeI_fin ?_
   refine sx_nil ?_
   refine ex_then_n ?_
   refine wp_seq ?_
   refine wp_seq ?_
   refine sx_region ?_
   refine sx_rd 12 (.slice A_25 (((fitTo l0_2 (sortT l0_1) (sortT l0_1).length).map txt).length) c_26) (by rfl) (by kernel_rfl) ?_
   refine sx_rd 13 (.int .i64 (((fitTo l0_2 (sortT l0_1) (sortT l0_1).length).map txt).length : Int)) (by rfl) (by kernel_rfl) ?_
   refine sx_rd 14 (.bool ((((fitTo l0_2 (sortT l0_1) (sortT l0_1).length).map txt).length : Int) == 0)) (by rfl) (by kernel_rfl) ?_
   refine sx_nil ?_
   refine ex_then_n ?_
   refine sx_cond ((((fitTo l0_2 (sortT l0_1) (sortT l0_1).length).map txt).length : Int) == 0) (by rfl) (fun c_29 => ?_) (fun c_29 => ?_)
   ·
    have c_29p := eq_of_beq_ c_29
    refine wp_seq ?_
    refine sx_region ?_
    refine sx_lit 15 (by rfl) Kd.string w.heap.size 9 ([(⟨#[45]⟩ : ByteArray)]) [.string (⟨#[45]⟩ : ByteArray)] (fun W => by kernel_rfl) (Reps.snoc (cs := []) (Reps.none _ _) rfl rfl) (by simp) hp.size hp ?_
    intro g_30 F_31 W_32 hp hz; clear hz
    refine sx_rd 2 (.slice (some ⟨g_30, 0, none⟩) ([(⟨#[45]⟩ : ByteArray)].length) ([(⟨#[45]⟩ : ByteArray)].length)) (by rfl) (by kernel_rfl) ?_
    refine sx_nil ?_
    refine ex_then_n ?_
    refine wp_ret ?_
    refine ex_then_r ?_
    refine sx_end (.slice (some ⟨g_30, 0, none⟩) ([(⟨#[45]⟩ : ByteArray)].length) ([(⟨#[45]⟩ : ByteArray)].length)) (res1 2 (by rfl)) ?_
    have how : ownT l0_0 l0_1 a0_3 = l0_1 := by unfold ownT; rw [if_pos (by have q := c_8; simp at q; omega)]
    unfold movesL at h; rw [if_neg (show ¬ (overB l0_0 l0_1 a0_4) = true from by have q := c_4; simpa using q), how] at h
    have hz := c_29
    simp only [List.length_map] at hz
    rw [if_pos (by simp at hz; simpa using hz)] at h; obtain rfl := Option.some.inj h
    exact ⟨_, rfl, Kd.R_mono (row_R (hp.at_ 0 _ (by rfl))) (fun _ _ => trivial), hc2 _ (hp.tail.tail.tail)⟩
   ·
    have c_29p := ne_of_beq_ c_29
    refine wp_skip ?_
    refine ex_then_n ?_
    refine wp_seq ?_
    refine sx_region ?_
    refine sx_rd 16 (.slice A_25 (((fitTo l0_2 (sortT l0_1) (sortT l0_1).length).map txt).length) c_26) (by rfl) (by kernel_rfl) ?_
    refine sx_rd 2 (.slice A_25 (((fitTo l0_2 (sortT l0_1) (sortT l0_1).length).map txt).length) c_26) (by rfl) (by kernel_rfl) ?_
    refine sx_nil ?_
    refine ex_then_n ?_
    refine wp_ret ?_
    refine sx_end (.slice A_25 (((fitTo l0_2 (sortT l0_1) (sortT l0_1).length).map txt).length) c_26) (res1 2 (by rfl)) ?_
    have how : ownT l0_0 l0_1 a0_3 = l0_1 := by unfold ownT; rw [if_pos (by have q := c_8; simp at q; omega)]
    unfold movesL at h; rw [if_neg (show ¬ (overB l0_0 l0_1 a0_4) = true from by have q := c_4; simpa using q), how] at h
    have hz := c_29
    simp only [List.length_map] at hz
    rw [if_neg (by simp at hz; simpa using hz)] at h; obtain rfl := Option.some.inj h
    exact ⟨_, rfl, Kd.R_mono (row_R (hp.at_ 0 _ (by rfl))) (fun _ _ => trivial), hc2 _ (hp.tail.tail)⟩
end Go.Proofs.YtjaojemmbeddfaaGreat.Hd
namespace Go.Proofs.YtjaojemmbeddfaaGreat.Hd
open Go Go.RowKit Go.Maps Go.Proofs.YtjaojemmbeddfaaGreatW.PrintWords Go.Proofs.YtjaojemmbeddfaaGreatW.PrintLast Go.Proofs.YtjaojemmbeddfaaGreatW.PrintMore
set_option linter.unusedVariables false
set_option linter.unusedSimpArgs false
/-- An element read as itself, whatever it is. -/
def anyE (v : Value) : Option (DataW Value × List MemPlace) := some (.held v, [])
/-- Block b is a map of at most n entries, each good. -/
def memoC (P : Program) (k : TypeId) (b n : Nat) (good : Lit → Value → Prop) : Chunk where
  fp x := x = b
  ok W := ∃ D : DataW Value, W.ownsMap P k anyE b n D ∧ IsMap D ∧ ∀ kl v, (∀ zd, D.atKey kl zd = .held v) → good kl v
  move h e := by
    obtain ⟨D, ⟨es, clock, hb, F, hs, hD⟩, hi, hg⟩ := h
    exact ⟨D, ⟨es, clock, (e b rfl).trans hb, F, hs, hD⟩, hi, hg⟩
  live h k hk := by
    obtain ⟨D, ho, _⟩ := h
    subst hk
    exact ho.lt
section
variable {P : Program} {N : Nat} {s : List (Nat × Value)} {o : Oper} {rest : List Oper} {ops : Array Oper} {Q : Exit → Act → World → Prop} {W w0 : World} {cs : List Chunk} {k e t : TypeId} {b n : Nat} {good : Lit → Value → Prop}
theorem memo_mono {n' : Nat} (hn : n ≤ n') (h : (memoC P k b n good).ok W) : (memoC P k b n' good).ok W := by
  obtain ⟨D, ho, hi, hg⟩ := h
  exact ⟨D, ho.mono hn, hi, hg⟩
theorem sx_mkmap (q : Nat) (hk : okB o q N = true) (hr : ∀ W : World, (execOp (evl N s) o).run P W = .ok (.value (.map (some W.heap.size))) (W.alloc (.map #[] 0))) (hp : Hp w0 cs W)
    (h : ∀ b W', Hp w0 (memoC P k b 0 good :: cs) W' → WL P ops Q rest (fr N ((q, .map (some b)) :: s)) W') : WL P ops Q (o :: rest) (fr N s) W := by
  refine sx_val q _ hk (hr W) (h W.heap.size _ (hp.add (Mv.quiet (below_alloc (Below.refl _ _) _)) (memoC P k W.heap.size 0 good) ⟨.map [], World.ownsMap_made W P k anyE, isMap_empty, fun kl v hv => ?_⟩ (fun k hk => by have : k = W.heap.size := hk; omega)))
  have := hv .nil
  simp [DataW.atKey] at this
theorem sx_look2 (q : Nat) (hk : okB o q N = true) {M X : Operand} (ho : o.op = .lookup t M X true) (hm : evl N s M = .map (some b)) {key z : Value} (hx : evl N s X = key) (K : Keyed P k) (ht : P.underlying t = some (.map k e)) (hz : ∀ w, (zeroValue e).run P w = .ok z w)
    {kl : Lit} (hkey : keyOf P k key = some kl) (i : Nat) (hc : cs[i]? = some (memoC P k b n good)) (hp : Hp w0 cs W)
    (h1 : WL P ops Q rest (fr N ((q, .tuple #[z, .bool false]) :: s)) W) (h2 : ∀ v, good kl v → WL P ops Q rest (fr N ((q, .tuple #[v, .bool true]) :: s)) W) : WL P ops Q (o :: rest) (fr N s) W := by
  obtain ⟨D, ⟨es, clock, hb, F, hs, hD⟩, hi, hg⟩ := hp.at_ i _ hc
  rcases Maps.fit_look true K ht (hz W) hb F hkey with ⟨hrun, _, hat⟩ | ⟨e0, y, _, _, hrun, hR, hat, _⟩
  · exact sx_rd q _ hk (by unfold execOp; simp [ho, hm, hx, hrun, Result.andThen]) h1
  · refine sx_rd q _ hk (by unfold execOp; simp [ho, hm, hx, hrun, Result.andThen]) (h2 e0.val (hg kl e0.val fun zd => ?_))
    rw [hD, hat zd]
    have : y = (.held e0.val, []) := (Option.some.inj hR).symm
    rw [this]
theorem sx_mput (hk : noB o = true) {M X V : Operand} (ho : o.op = .mapUpdate t M X V) (hm : evl N s M = .map (some b)) {key val : Value} (hx : evl N s X = key) (hv : evl N s V = val) (K : Keyed P k) (ht : P.underlying t = some (.map k e)) (hn : n < maxLen)
    {kl : Lit} (hkey : keyOf P k key = some kl) (hlit : WideAt.IsKeyLit kl) (hgood : good kl val) (i : Nat) (hc : cs[i]? = some (memoC P k b n good)) (hp : Hp w0 cs W)
    (h : ∀ W', Hp w0 (cs.set i (memoC P k b (n + 1) good)) W' → WL P ops Q rest (fr N s) W') : WL P ops Q (o :: rest) (fr N s) W := by
  obtain ⟨D, hown, hi, hg⟩ := hp.at_ i _ hc
  obtain ⟨w', hrun, r1, r2⟩ := hown.update K ht hn hkey (show anyE val = some (.held val, []) from rfl)
  refine sx_unit hk (by unfold execOp; simp [ho, hm, hx, hv, hrun, Result.andThen]) (h w' (hp.upd i _ (memoC P k b (n + 1) good) hc ((Mv.of_grown r2).mono (fun k hk => ?_)) ⟨_, r1, hi.put kl _, fun kl' v hv' => ?_⟩ (fun k hk => .inl hk)))
  · injection hk with hk
    exact hk.symm
  · by_cases q : kl' = kl
    · subst q
      have := hv' .nil
      rw [atKey_put_same hi hlit] at this
      injection this with this
      subst this
      exact hgood
    · refine hg kl' v fun zd => ?_
      rw [← hv' zd, atKey_put_other q]
end
end Go.Proofs.YtjaojemmbeddfaaGreat.Hd
namespace Go.Proofs.YtjaojemmbeddfaaGreat.Hd
open Go Go.RowKit Go.Proofs.YtjaojemmbeddfaaGreat.Pure Go.Proofs.YtjaojemmbeddfaaGreatW.PrintWords Go.Proofs.YtjaojemmbeddfaaGreatW.PrintLast Go.Proofs.YtjaojemmbeddfaaGreatW.PrintMore
set_option linter.unusedVariables false
set_option linter.unusedSimpArgs false
def ftV (o : Ft) : Value := .agg #[.int .i64 o.pts, .int .i64 o.games, .int .i64 o.longest]
def keyL (g : Gm) : Lit := .string (gkey g.f g.s g.r g.t g.p)
def fateGood (kl : Lit) (v : Value) : Prop := ∀ g, GmOk g → RowOk g.r → kl = keyL g → v = ftV (fateF g)
theorem fateGood_put {g : Gm} (ho : GmOk g) (hr : RowOk g.r) {o : Ft} (h : o = fateF g) : fateGood (keyL g) (ftV o) := by
  intro g' ho' hr' e
  have e2 : gkey g.f g.s g.r g.t g.p = gkey g'.f g'.s g'.r g'.t g'.p := by
    unfold keyL at e
    injection e
  rw [h, fateF_same ho ho' (gkey_same ho ho' hr hr' (congrArg mkU e2))]
theorem gkey_len (f s : List S_Tile) (r : List Int) (t p : Int) : (mkU (gkey f s r t p)).size ≤ maxLen := by
  have h1 := handU_len (sortT f)
  have h2 := handU_len (sortT s)
  have h3 := sortT_len f
  have h4 := sortT_len s
  have h5 := endsL_len r
  have e : (mkU (gkey f s r t p)).size = (gkey f s r t p).length := by show (gkey f s r t p).toArray.size = _; simp
  rw [e]
  unfold gkey keyU
  simp [Lib.join_cons, Lib.joinTail, rowU, maxLen]
  omega
theorem fate_key {P : Program} {k : TypeId} (hk : P.underlying k = some .string) (g : Gm) : keyOf P k (.string (mkU (gkey g.f g.s g.r g.t g.p))) = some (keyL g) := by
  rw [WideMaps.keyOf_string_mk hk (gkey_len g.f g.s g.r g.t g.p), mkU_list]
  rfl
theorem Hp.memo_up {P : Program} {k : TypeId} {b n n' : Nat} {good : Lit → Value → Prop} {w0 W : World} {cs : List Chunk} (hp : Hp w0 (memoC P k b n good :: cs) W) (h : n ≤ n') : Hp w0 (memoC P k b n' good :: cs) W := by
  have := hp.upd 0 _ (memoC P k b n' good) rfl (Mv.refl _ W) (memo_mono h (hp.at_ 0 _ rfl)) (fun k hk => .inl hk)
  simpa using this
theorem gmF {g : Gm} (ho : GmOk g) (hr : g.r.length ≤ 2000000) : gmB g.f g.s g.r g.t g.p := ⟨⟨ho.f, ho.s⟩, hr, ho.t, ho.p⟩
theorem key_at {g : Gm} (ho : GmOk g) (hr : RowOk g.r) (hl : g.r.length ≤ 2000000) : impl_Game_key.f g.f g.s g.r g.t g.p = some (mkU (gkey g.f g.s g.r g.t g.p)) := by
  unfold impl_Game_key.f
  rw [if_pos ⟨gmF ho hl, hr⟩]
theorem moves_at {g : Gm} (ho : GmOk g) (hl : g.r.length ≤ 2000000) : impl_Game_moves.f g.f g.s g.r g.t g.p = some (g.moves.map txt) := by
  unfold impl_Game_moves.f
  rw [if_pos (gmF ho hl)]
  rfl
theorem lay_good {g : Gm} {x : S_plLay} (h : x ∈ g.moves) (hx : x.f2 = false) : goodT x.f0 = true := by
  rcases (moves_mem h).2 with rfl | ⟨_, _, hg, _⟩
  · cases hx
  · exact hg
theorem txt_makeF {g : Gm} {x y : S_plLay} (hx : x ∈ g.moves) (hy : y ∈ g.moves) (h : txt y = txt x) : g.make y = g.make x := by
  have h1 := txt_pass_iff x
  rw [← h, txt_pass_iff y] at h1
  cases hp : x.f2 with
  | true => unfold Gm.make; rw [h1, hp, if_pos rfl, if_pos rfl]
  | false =>
    rw [hp] at h1
    have m1 := moved_eq hp (lay_good hx hp)
    have m2 := moved_eq h1 (lay_good hy h1)
    rw [h] at m2
    have e := m1.1.symm.trans m2.1
    simp only [Option.some.injEq, Prod.mk.injEq] at e
    have e2 := m1.2.symm.trans m2.2
    have e3 : x.f1 = y.f1 := by
      cases hx1 : x.f1 <;> cases hy1 : y.f1 <;> simp [hx1, hy1] at e2 ⊢
    have e4 : y = x := by
      obtain ⟨⟨a, b⟩, c, d⟩ := x
      obtain ⟨⟨a2, b2⟩, c2, d2⟩ := y
      dsimp only at e e3 hp h1
      rw [e.1, e.2, e3, hp, h1]
    rw [e4]
theorem behind_at {g : Gm} (ho : GmOk g) (hl : g.r.length ≤ 2000000) {x : S_plLay} (hx : x ∈ g.moves) {mv : ByteArray} (hm : mv = txt x) : impl_Game_behind.f g.f g.s g.r g.t g.p mv = some ((g.make x).f, (g.make x).s, (g.make x).r, (g.make x).t, (g.make x).p) := by
  subst hm
  obtain ⟨y, hy⟩ := (findM_mem g.moves (txt x)).1 (List.mem_map.2 ⟨x, hx, rfl⟩)
  have hs := findM_some hy
  unfold impl_Game_behind.f
  rw [if_pos (gmF ho hl)]
  unfold Gm.moves at hy
  rw [hy]
  show some ((g.make y).f, (g.make y).s, (g.make y).r, (g.make y).t, (g.make y).p) = _
  rw [txt_makeF hx hs.1 hs.2]
theorem move_at {g : Gm} {i : Nat} (h : i < g.moves.length) : ∃ x, x ∈ g.moves ∧ rdOf ByteArray.empty (g.moves.map txt) (i : Int) = txt x ∧ g.moves.take (i + 1) = g.moves.take i ++ [x] := by
  refine ⟨g.moves[i], List.getElem_mem h, ?_, List.take_succ_eq_append_getElem h⟩
  simp [rdOf, h]
theorem fold_at {g : Gm} {i : Nat} {x : S_plLay} (h : i < g.moves.length) (e : g.moves.take (i + 1) = g.moves.take i ++ [x]) : foldFt fateF g (g.moves.take (i + 1)) 0 ⟨0, 0, 0⟩ = stepFt g.t i (foldFt fateF g (g.moves.take i) 0 ⟨0, 0, 0⟩) (fateF (g.make x)) := by
  rw [e, foldFt_snoc, List.length_take, Nat.min_eq_left (Nat.le_of_lt h), Nat.zero_add]
theorem sum_at {g : Gm} (ho : GmOk g) (hov : g.over = false) {i : Nat} {x : S_plLay} (e : g.moves.take (i + 1) = g.moves.take i ++ [x]) : sumC costF g (g.moves.take (i + 1)) = sumC costF g (g.moves.take i) + costF (g.make x) ∧ sumC costF g (g.moves.take i) + costF (g.make x) + 1 ≤ costF g := by
  have h1 : sumC costF g (g.moves.take (i + 1)) = sumC costF g (g.moves.take i) + costF (g.make x) := by rw [e, sumC_snoc]
  have h2 := sumC_le costF g (g.moves.take (i + 1)) (g.moves.drop (i + 1))
  rw [List.take_append_drop] at h2
  have h3 := costF_step ho hov
  exact ⟨h1, by omega⟩
theorem fold_bd {g : Gm} (ho : GmOk g) (i : Nat) : 0 ≤ (foldFt fateF g (g.moves.take i) 0 ⟨0, 0, 0⟩).games ∧ (foldFt fateF g (g.moves.take i) 0 ⟨0, 0, 0⟩).games ≤ (sumC costF g (g.moves.take i) : Int) ∧ 0 ≤ (foldFt fateF g (g.moves.take i) 0 ⟨0, 0, 0⟩).longest ∧ (foldFt fateF g (g.moves.take i) 0 ⟨0, 0, 0⟩).longest ≤ (g.mu : Int) := by
  obtain ⟨a, b, c, d⟩ := fold_ok fateF g (fun x hx => fateF_ok _ _ (make_ok ho hx) (Nat.le_refl _)) (fun x hx => mu_make ho hx) (g.moves.take i) 0 ⟨0, 0, 0⟩ (fun x hx => List.mem_of_mem_take hx) (Int.le_refl 0) (Int.le_refl 0) (by show (0 : Int) ≤ _; omega)
  refine ⟨a, ?_, c, d⟩
  have e : ((⟨0, 0, 0⟩ : Ft).games : Int) = 0 := rfl
  rw [e] at b
  omega
theorem step_pos {t : Int} {i : Nat} {F X : Ft} (h : i = 0 ∨ (X.pts ≠ F.pts ∧ (decide (X.pts > F.pts) = (t == 0)))) : X.pts = (stepFt t i F X).pts := by
  unfold stepFt
  exact (if_pos h).symm
theorem step_neg {t : Int} {i : Nat} {F X : Ft} (h : ¬ (i = 0 ∨ (X.pts ≠ F.pts ∧ (decide (X.pts > F.pts) = (t == 0))))) : F.pts = (stepFt t i F X).pts := by
  unfold stepFt
  exact (if_neg h).symm
end Go.Proofs.YtjaojemmbeddfaaGreat.Hd
namespace Go.Proofs.YtjaojemmbeddfaaGreat.Hd
open Go Go.Maps Go.RowKit Go.Proofs.YtjaojemmbeddfaaGreat.Pure Go.Proofs.YtjaojemmbeddfaaGreatW.PrintWords Go.Proofs.YtjaojemmbeddfaaGreatW.PrintLast Go.Proofs.YtjaojemmbeddfaaGreatW.PrintMore
set_option linter.unusedVariables false
set_option linter.unusedSimpArgs false
set_option maxRecDepth 100000 in
set_option maxHeartbeats 40000000 in
theorem fates_sx (b : Nat) : ∀ (d : Nat) (w0 W : World) (cs : List Chunk) (g : Gm) (A0 : Option Addr) (c0 : Nat) (A1 : Option Addr) (c1 : Nat) (A2 : Option Addr) (c2 : Nat) (n : Nat), g.mu = d → GmOk g → RowOk g.r → g.r.length + 2 * g.mu ≤ 2000000 → n + costF g ≤ 1000000000000 → (∀ W, Hp w0 cs W → Kd.C k53 W A0 g.f.length g.f) → g.f.length ≤ c0 → (∀ W, Hp w0 cs W → Kd.C k53 W A1 g.s.length g.s) → g.s.length ≤ c1 → (∀ W, Hp w0 cs W → Kd.C (Kd.int .i64) W A2 g.r.length g.r) → g.r.length ≤ c2 → Hp w0 (memoC Tryz.prog 9 b n fateGood :: cs) W →
  Calls Tryz.prog 22 #[.map (some b), .agg #[.slice A0 g.f.length c0, .slice A1 g.s.length c1, .slice A2 g.r.length c2, .int .i64 g.t, .int .i64 g.p]] W fun e W' => e = .returned (ftV (fateF g)) ∧ Hp w0 (memoC Tryz.prog 9 b (n + costF g) fateGood :: cs) W' := by
 intro d
 refine Nat.strongRecOn d ?_
 clear d
 intro d ih
 intro w0 W cs g A0 c0 A1 c1 A2 c2 n hd ho hr hrm hcm hC0 hc0 hC1 hc1 hC2 hc2 hp
 subst hd
 have hrl : g.r.length ≤ 2000000 := by omega
 have hz0 := hand_len ho.f
 have hz1 := hand_len ho.s
 refine sx_enter (N := 84) (l := [.map (some b), .agg #[.slice A0 g.f.length c0, .slice A1 g.s.length c1, .slice A2 g.r.length c2, .int .i64 g.t, .int .i64 g.p]]) Tryz.func22 rfl rfl rfl ?_
 refine wp_seq ?_
 refine sx_region ?_
 refine sx_box 3 hp #[.slice A0 g.f.length c0, .slice A1 g.s.length c1, .slice A2 g.r.length c2, .int .i64 g.t, .int .i64 g.p] 31 (by rfl) (fun W => by kernel_rfl) ?_
 intro g_1 W_2 hp
 refine sx_box 4 hp #[.int .i64 0, .int .i64 0, .int .i64 0] 43 (by rfl) (fun W => by kernel_rfl) ?_
 intro g_3 W_4 hp
 refine sx_nil ?_
 refine ex_then_n ?_
 refine wp_seq ?_
 refine wp_seq ?_
 refine sx_region ?_
 refine sx_rd 13 (.agg #[.slice A0 g.f.length c0, .slice A1 g.s.length c1, .slice A2 g.r.length c2, .int .i64 g.t, .int .i64 g.p]) (by rfl) (ldn (t := 31) (p := (.tmp 3)) (by rfl) (by rfl) (by kernel_rfl) (by kernel_rfl) (by kernel_rfl) (hp.at_ 1 _ (by rfl))) ?_
 refine sx_call 14 (by rfl) (by kernel_rfl) ((impl_Game_isOver.calls A0 c0 g.f A1 c1 g.s A2 c2 g.r g.t g.p _ _ (hC0 _ hp.tail.tail.tail) hc0 (hC1 _ hp.tail.tail.tail) hc1 (hC2 _ hp.tail.tail.tail) hc2 (isOver_eq g.f g.s g.r g.t g.p)).mono ?_)
 rintro _ W_5 ⟨rfl, hb⟩
 refine ⟨_, rfl, ?_⟩
 replace hp := hp.below hb
 clear hb
 refine sx_nil ?_
 refine ex_then_n ?_
 refine sx_cond (overB g.f g.s g.p) (by rfl) (fun c_6 => ?_) (fun c_6 => ?_)
 ·
  have hov : g.over = true := c_6
  refine wp_seq ?_
  refine sx_region ?_
  refine sx_rd 15 (.agg #[.slice A0 g.f.length c0, .slice A1 g.s.length c1, .slice A2 g.r.length c2, .int .i64 g.t, .int .i64 g.p]) (by rfl) (ldn (t := 31) (p := (.tmp 3)) (by rfl) (by rfl) (by kernel_rfl) (by kernel_rfl) (by kernel_rfl) (hp.at_ 1 _ (by rfl))) ?_
  obtain ⟨k_7, hk_k_7⟩ := Ev.rounds (gmPointsW_ev g.f g.s g.r g.t g.p (by omega) (by omega))
  refine sx_call 16 (by rfl) (by kernel_rfl) ((impl_Game_points.calls k_7 A0 c0 g.f A1 c1 g.s A2 c2 g.r g.t g.p _ _ (hC0 _ hp.tail.tail.tail) hc0 (hC1 _ hp.tail.tail.tail) hc1 (hC2 _ hp.tail.tail.tail) hc2 hk_k_7).mono ?_)
  rintro _ W_8 ⟨rfl, hb⟩
  refine ⟨_, rfl, ?_⟩
  replace hp := hp.below hb
  clear hb
  refine sx_rd 17 (.agg #[.int .i64 (pointsW g.f g.s), .int .i64 1, .int .i64 0]) (by rfl) (by kernel_rfl) ?_
  refine sx_store (t := 43) (p := (.tmp 4)) (x := (.tmp 17)) (by rfl) (by rfl) 0 (by rfl) 0 [.int .i64 (pointsW g.f g.s), .int .i64 1, .int .i64 0] (by rfl) (by rfl) (by kernel_rfl) (by simp [Value.oneCell']) (by show 3 ≤ 3; omega) #[.int .i64 (pointsW g.f g.s), .int .i64 1, .int .i64 0] (by rfl) hp ?_
  intro W_9 hp; simp only [List.set_cons_succ, List.set_cons_zero] at hp
  refine sx_nil ?_
  refine ex_then_n ?_
  refine wp_ret ?_
  refine ex_then_r ?_
  refine sx_end (.agg #[.int .i64 (pointsW g.f g.s), .int .i64 1, .int .i64 0]) (resc (by rfl) (by rfl) (by kernel_rfl) (by kernel_rfl) (hp.at_ 0 _ (by rfl))) ?_
  exact ⟨by rw [fateF_over hov]; rfl, Hp.memo_up (hp.take [2] 3 (by decide) (by simp)) (by have := costF_pos g; omega)⟩
 ·
  have hov : g.over = false := c_6
  refine wp_skip ?_
  refine ex_then_n ?_
  refine wp_seq ?_
  refine sx_region ?_
  refine sx_rd 18 (.agg #[.slice A0 g.f.length c0, .slice A1 g.s.length c1, .slice A2 g.r.length c2, .int .i64 g.t, .int .i64 g.p]) (by rfl) (ldn (t := 31) (p := (.tmp 3)) (by rfl) (by rfl) (by kernel_rfl) (by kernel_rfl) (by kernel_rfl) (hp.at_ 1 _ (by rfl))) ?_
  refine sx_call 19 (by rfl) (by kernel_rfl) ((impl_Game_key.calls A0 c0 g.f A1 c1 g.s A2 c2 g.r g.t g.p _ _ (hC0 _ hp.tail.tail.tail) hc0 (hC1 _ hp.tail.tail.tail) hc1 (hC2 _ hp.tail.tail.tail) hc2 (key_at ho hr hrl)).mono ?_)
  rintro _ W_10 ⟨rfl, hb⟩
  refine ⟨_, rfl, ?_⟩
  replace hp := hp.below hb
  clear hb
  refine sx_rd 5 (.string (mkU (gkey g.f g.s g.r g.t g.p))) (by rfl) (by kernel_rfl) ?_
  refine sx_nil ?_
  refine ex_then_n ?_
  refine wp_seq ?_
  refine wp_seq ?_
  refine sx_region ?_
  refine sx_rd 21 (.map (some b)) (by rfl) (by kernel_rfl) ?_
  refine sx_rd 22 (.string (mkU (gkey g.f g.s g.r g.t g.p))) (by rfl) (by kernel_rfl) ?_
  refine sx_look2 23 (by rfl) (by rfl) (by rfl) (by rfl) (z := .agg #[.int .i64 0, .int .i64 0, .int .i64 0]) (string_keyed Tryz.underlying9) Tryz.underlying45 (fun w => by kernel_rfl) (fate_key Tryz.underlying9 g) 2 (by rfl) hp ?_ (fun v hv => ?_)
  ·
   refine sx_rd 20 (.tuple #[.agg #[.int .i64 0, .int .i64 0, .int .i64 0], .bool false]) (by rfl) (by kernel_rfl) ?_
   refine sx_rd 24 (.agg #[.int .i64 0, .int .i64 0, .int .i64 0]) (by rfl) (by kernel_rfl) ?_
   refine sx_rd 25 (.bool false) (by rfl) (by kernel_rfl) ?_
   refine sx_box 6 hp #[.int .i64 0, .int .i64 0, .int .i64 0] 43 (by rfl) (fun W => by kernel_rfl) ?_
   intro g_11 W_12 hp
   refine sx_store (t := 43) (p := (.tmp 6)) (x := (.tmp 24)) (by rfl) (by rfl) 0 (by rfl) 0 [.int .i64 0, .int .i64 0, .int .i64 0] (by rfl) (by rfl) (by kernel_rfl) (by simp [Value.oneCell']) (by show 3 ≤ 3; omega) #[.int .i64 0, .int .i64 0, .int .i64 0] (by rfl) hp ?_
   intro W_13 hp; simp only [List.set_cons_succ, List.set_cons_zero] at hp
   refine sx_rd 7 (.bool false) (by rfl) (by kernel_rfl) ?_
   refine sx_nil ?_
   refine ex_then_n ?_
   refine wp_seq ?_
   refine sx_region ?_
   refine sx_rd 26 (.bool false) (by rfl) (by kernel_rfl) ?_
   refine sx_nil ?_
   refine ex_then_n ?_
   refine sx_else false (by rfl) rfl ?_
   refine wp_skip ?_
   refine ex_then_n ?_
   refine wp_seq ?_
   refine sx_region ?_
   refine sx_rd 28 (.agg #[.int .i64 0, .int .i64 0, .int .i64 0]) (by rfl) (by kernel_rfl) ?_
   refine sx_box 8 hp #[.int .i64 0, .int .i64 0, .int .i64 0] 43 (by rfl) (fun W => by kernel_rfl) ?_
   intro g_14 W_15 hp
   refine sx_store (t := 43) (p := (.tmp 8)) (x := (.tmp 28)) (by rfl) (by rfl) 0 (by rfl) 0 [.int .i64 0, .int .i64 0, .int .i64 0] (by rfl) (by rfl) (by kernel_rfl) (by simp [Value.oneCell']) (by show 3 ≤ 3; omega) #[.int .i64 0, .int .i64 0, .int .i64 0] (by rfl) hp ?_
   intro W_16 hp; simp only [List.set_cons_succ, List.set_cons_zero] at hp
   refine sx_nil ?_
   refine ex_then_n ?_
   refine wp_seq ?_
   refine wp_seq ?_
   refine sx_region ?_
   refine sx_rd 29 (.agg #[.slice A0 g.f.length c0, .slice A1 g.s.length c1, .slice A2 g.r.length c2, .int .i64 g.t, .int .i64 g.p]) (by rfl) (ldn (t := 31) (p := (.tmp 3)) (by rfl) (by rfl) (by kernel_rfl) (by kernel_rfl) (by kernel_rfl) (hp.at_ 3 _ (by rfl))) ?_
   refine sx_call 30 (by rfl) (by kernel_rfl) ((impl_Game_moves.calls A0 c0 g.f A1 c1 g.s A2 c2 g.r g.t g.p _ _ (hC0 _ hp.tail.tail.tail.tail.tail) hc0 (hC1 _ hp.tail.tail.tail.tail.tail) hc1 (hC2 _ hp.tail.tail.tail.tail.tail) hc2 (moves_at ho hrl)).mono ?_)
   rintro _ W_22 ⟨v_18, rfl, hR_17, hb⟩
   refine ⟨_, rfl, ?_⟩
   obtain ⟨A_19, c_20, rfl, hcc_c_20, _⟩ := Kd.R_reads hR_17
   obtain ⟨F_21, hp⟩ : ∃ F, Hp w0 (row Kd.string 9 w0.heap.size (.slice A_19 (g.moves.map txt).length c_20) (g.moves.map txt) F :: blk g_14 #[.int .i64 0, .int .i64 0, .int .i64 0] 43 :: blk g_11 #[.int .i64 0, .int .i64 0, .int .i64 0] 43 :: blk g_3 #[.int .i64 0, .int .i64 0, .int .i64 0] 43 :: blk g_1 #[.slice A0 g.f.length c0, .slice A1 g.s.length c1, .slice A2 g.r.length c2, .int .i64 g.t, .int .i64 g.p] 31 :: memoC Tryz.prog 9 b n fateGood :: cs) _ := ⟨_, Hp.made hp hb hR_17⟩
   refine sx_rd 31 (.int .i64 ((g.moves.map txt).length : Int)) (by rfl) (by kernel_rfl) ?_
   refine sx_rd 32 (.int .i64 0) (by rfl) (by kernel_rfl) ?_
   refine sx_nil ?_
   refine ex_then_n ?_
   refine wp_block ?_
   have hml : (g.moves.map txt).length = g.moves.length := List.length_map ..
   have hmn : g.moves.length ≤ 1000 := by rcases moves_len ho with q | q; (unfold Gm.tiles at q; omega); (rw [q]; simp)
   refine wp_loop_ghost (fun n_ a_ W => ∃ (r_ : List (Nat × Value)) (i : Nat) , n_ = (g.moves.map txt).length - i ∧ a_ = fr 84 ([(0, .map (some b)), (3, .pointer (some ⟨g_1, 0, none⟩)), (4, .pointer (some ⟨g_3, 0, none⟩)), (5, .string (mkU (gkey g.f g.s g.r g.t g.p))), (8, .pointer (some ⟨g_14, 0, none⟩)), (30, .slice A_19 ((g.moves.map txt).length) c_20), (31, .int .i64 ((g.moves.map txt).length : Int)), (32, .int .i64 (i : Int))] ++ r_) ∧ Hp w0 (blk g_14 #[.int .i64 ((foldFt fateF g (g.moves.take i) 0 ⟨0, 0, 0⟩).pts), .int .i64 ((foldFt fateF g (g.moves.take i) 0 ⟨0, 0, 0⟩).games), .int .i64 ((foldFt fateF g (g.moves.take i) 0 ⟨0, 0, 0⟩).longest)] 43 :: memoC Tryz.prog 9 b (n + sumC costF g (g.moves.take i)) fateGood :: row Kd.string 9 w0.heap.size (.slice A_19 ((g.moves.map txt).length) c_20) (g.moves.map txt) F_21 :: blk g_11 #[.int .i64 0, .int .i64 0, .int .i64 0] 43 :: blk g_3 #[.int .i64 0, .int .i64 0, .int .i64 0] 43 :: blk g_1 #[.slice A0 g.f.length c0, .slice A1 g.s.length c1, .slice A2 g.r.length c2, .int .i64 g.t, .int .i64 g.p] 31 :: cs) W ∧ (i ≤ (g.moves.map txt).length)) _ ⟨_, 0, rfl, fr_front [(0, .map (some b)), (3, .pointer (some ⟨g_1, 0, none⟩)), (4, .pointer (some ⟨g_3, 0, none⟩)), (5, .string (mkU (gkey g.f g.s g.r g.t g.p))), (8, .pointer (some ⟨g_14, 0, none⟩)), (30, .slice A_19 ((g.moves.map txt).length) c_20), (31, .int .i64 ((g.moves.map txt).length : Int)), (32, .int .i64 0)] ⟨rfl, rfl, rfl, rfl, rfl, rfl, rfl, rfl, trivial⟩, (hp.take [1, 5, 0, 2, 3, 4] 6 (by decide) (by simp)), Nat.zero_le _⟩ ?_
   rintro _ _ W_23 ⟨r_, i, rfl, rfl, hp, hi⟩
   refine wp_seq ?_
   refine sx_region ?_
   refine sx_rd 33 (.bool (decide ((i : Int) < ((g.moves.map txt).length : Int)))) (by rfl) (by kernel_rfl) ?_
   refine sx_nil ?_
   refine ex_then_n ?_
   refine wp_seq ?_
   refine sx_cond (decide ((i : Int) < ((g.moves.map txt).length : Int))) (by rfl) (fun c_24 => ?_) (fun c_24 => ?_)
   ·
    have c_24p := of_decide_eq_true c_24
    refine wp_skip ?_
    refine ex_then_n ?_
    refine wp_seq ?_
    refine wp_block ?_
    refine wp_seq ?_
    refine sx_region ?_
    refine sx_rd 34 (.int .i64 (i : Int)) (by rfl) (by kernel_rfl) ?_
    refine sx_rd 35 (.pointer (some (adr A_19 (i : Int) 1))) (by rfl) (ix_run (d := Kd.string) (row_C (hp.at_ 2 _ (by rfl))) (t := 64) (by rfl) (by rfl) (by rfl) Tryz.underlying64 (by kernel_rfl) (by omega) (by omega)) ?_
    refine sx_rd 36 (.string (rdOf ByteArray.empty (g.moves.map txt) (i : Int))) (by rfl) (ld1 (t := 9) (p := (.tmp 35)) (by rfl) (by rfl) (by kernel_rfl) (el_cell (d := Kd.string) (row_C (hp.at_ 2 _ (by rfl))) ByteArray.empty (i : Int) (by omega) (by omega) (cells := [.string (rdOf ByteArray.empty (g.moves.map txt) (i : Int))]) (fun cs h => h) 0 _ (by rfl))) ?_
    refine sx_rd 9 (.int .i64 (i : Int)) (by rfl) (by kernel_rfl) ?_
    refine sx_rd 10 (.string (rdOf ByteArray.empty (g.moves.map txt) (i : Int))) (by rfl) (by kernel_rfl) ?_
    refine sx_nil ?_
    refine ex_then_n ?_
    refine wp_seq ?_
    refine sx_region ?_
    refine sx_rd 37 (.map (some b)) (by rfl) (by kernel_rfl) ?_
    refine sx_rd 38 (.agg #[.slice A0 g.f.length c0, .slice A1 g.s.length c1, .slice A2 g.r.length c2, .int .i64 g.t, .int .i64 g.p]) (by rfl) (ldn (t := 31) (p := (.tmp 3)) (by rfl) (by rfl) (by kernel_rfl) (by kernel_rfl) (by kernel_rfl) (hp.at_ 5 _ (by rfl))) ?_
    refine sx_rd 39 (.string (rdOf ByteArray.empty (g.moves.map txt) (i : Int))) (by rfl) (by kernel_rfl) ?_
    obtain ⟨x, hx, hxe, htk⟩ := move_at (g := g) (i := i) (by omega)
    have hst := fold_at (by omega) htk
    obtain ⟨hsm, hsl⟩ := sum_at ho hov htk
    obtain ⟨hb1, hb2, hb3, hb4⟩ := fold_bd ho i
    obtain ⟨hx1, hx2, hx3, hx4⟩ := fateF_ok _ _ (make_ok ho hx) (Nat.le_refl _)
    have hmu := mu_make ho hx
    have hrow := make_row g x
    refine sx_call 40 (by rfl) (by kernel_rfl) ((impl_Game_behind.calls A0 c0 g.f A1 c1 g.s A2 c2 g.r g.t g.p (rdOf ByteArray.empty (g.moves.map txt) (i : Int)) _ _ _ _ _ _ (hC0 _ hp.tail.tail.tail.tail.tail.tail) hc0 (hC1 _ hp.tail.tail.tail.tail.tail.tail) hc1 (hC2 _ hp.tail.tail.tail.tail.tail.tail) hc2 (behind_at ho hrl hx hxe)).mono ?_)
    rintro _ W_40 ⟨v_28, v_29, v_30, rfl, hR_25, hR_26, hR_27, hb⟩
    refine ⟨_, rfl, ?_⟩
    obtain ⟨A_31, c_32, rfl, hcc_c_32, _⟩ := Kd.R_reads hR_25
    obtain ⟨A_34, c_35, rfl, hcc_c_35, _⟩ := Kd.R_reads hR_26
    obtain ⟨A_37, c_38, rfl, hcc_c_38, _⟩ := Kd.R_reads hR_27
    obtain ⟨F_33, F_36, F_39, hp⟩ : ∃ F_33 F_36 F_39, Hp w0 (row k53 53 w0.heap.size (.slice A_31 ((g.make x).f).length c_32) ((g.make x).f) F_33 :: row k53 53 w0.heap.size (.slice A_34 ((g.make x).s).length c_35) ((g.make x).s) F_36 :: row (Kd.int .i64) 3 w0.heap.size (.slice A_37 ((g.make x).r).length c_38) ((g.make x).r) F_39 :: blk g_14 #[.int .i64 ((foldFt fateF g (g.moves.take i) 0 ⟨0, 0, 0⟩).pts), .int .i64 ((foldFt fateF g (g.moves.take i) 0 ⟨0, 0, 0⟩).games), .int .i64 ((foldFt fateF g (g.moves.take i) 0 ⟨0, 0, 0⟩).longest)] 43 :: memoC Tryz.prog 9 b (n + sumC costF g (g.moves.take i)) fateGood :: row Kd.string 9 w0.heap.size (.slice A_19 ((g.moves.map txt).length) c_20) (g.moves.map txt) F_21 :: blk g_11 #[.int .i64 0, .int .i64 0, .int .i64 0] 43 :: blk g_3 #[.int .i64 0, .int .i64 0, .int .i64 0] 43 :: blk g_1 #[.slice A0 g.f.length c0, .slice A1 g.s.length c1, .slice A2 g.r.length c2, .int .i64 g.t, .int .i64 g.p] 31 :: cs) _ := ⟨_, _, _, Hp.made3 hp hb rfl rfl rfl hR_25 hR_26 hR_27 (ok_apart hR_25 (fun k hk => hk)) (typed_apart hR_25 hR_27 (by decide)) (typed_apart hR_26 hR_27 (by decide))⟩
    refine sx_call 41 (by rfl) (by kernel_rfl) ((ih _ hmu _ _ _ (g.make x) A_31 c_32 A_34 c_35 A_37 c_38 (n + sumC costF g (g.moves.take i)) rfl (make_ok ho hx) (make_rowok hr hx) (by omega) (by omega) (fun W h => row_C (h.at_ 0 _ (by rfl))) (row_len ((hp.take [4, 0, 1, 2, 3, 5, 6, 7, 8] 9 (by decide) (by simp)).at_ 1 _ (by rfl))).2 (fun W h => row_C (h.at_ 1 _ (by rfl))) (row_len ((hp.take [4, 0, 1, 2, 3, 5, 6, 7, 8] 9 (by decide) (by simp)).at_ 2 _ (by rfl))).2 (fun W h => row_C (h.at_ 2 _ (by rfl))) (row_len ((hp.take [4, 0, 1, 2, 3, 5, 6, 7, 8] 9 (by decide) (by simp)).at_ 3 _ (by rfl))).2 (hp.take [4, 0, 1, 2, 3, 5, 6, 7, 8] 9 (by decide) (by simp))).mono ?_)
    rintro _ W_41 ⟨rfl, hp⟩
    refine ⟨_, rfl, ?_⟩
    refine sx_box 11 hp #[.int .i64 0, .int .i64 0, .int .i64 0] 43 (by rfl) (fun W => by kernel_rfl) ?_
    intro g_42 W_43 hp
    refine sx_store (t := 43) (p := (.tmp 11)) (x := (.tmp 41)) (by rfl) (by rfl) 0 (by rfl) 0 [.int .i64 ((fateF (g.make x)).pts), .int .i64 ((fateF (g.make x)).games), .int .i64 ((fateF (g.make x)).longest)] (by rfl) (by rfl) (by kernel_rfl) (by simp [Value.oneCell']) (by show 3 ≤ 3; omega) #[.int .i64 ((fateF (g.make x)).pts), .int .i64 ((fateF (g.make x)).games), .int .i64 ((fateF (g.make x)).longest)] (by rfl) hp ?_
    intro W_44 hp; simp only [List.set_cons_succ, List.set_cons_zero] at hp
    refine sx_nil ?_
    refine ex_then_n ?_
    refine wp_seq ?_
    refine wp_seq ?_
    refine sx_region ?_
    refine sx_rd 42 (.pointer (some ⟨g_42, 0, none⟩)) (by rfl) (by kernel_rfl) ?_
    refine sx_rd 43 (.int .i64 ((fateF (g.make x)).pts)) (by rfl) (ld1 (t := 3) (p := (.tmp 42)) (by rfl) (by rfl) (by kernel_rfl) (hp.cell 0 (by rfl) 0 _ (by rfl))) ?_
    refine sx_rd 44 (.pointer (some ⟨g_14, 0, none⟩)) (by rfl) (by kernel_rfl) ?_
    refine sx_rd 45 (.int .i64 ((foldFt fateF g (g.moves.take i) 0 ⟨0, 0, 0⟩).pts)) (by rfl) (ld1 (t := 3) (p := (.tmp 44)) (by rfl) (by rfl) (by kernel_rfl) (hp.cell 5 (by rfl) 0 _ (by rfl))) ?_
    refine sx_rd 46 (.bool (decide ((fateF (g.make x)).pts > (foldFt fateF g (g.moves.take i) 0 ⟨0, 0, 0⟩).pts))) (by rfl) (by kernel_rfl) ?_
    refine sx_rd 12 (.bool (decide ((fateF (g.make x)).pts > (foldFt fateF g (g.moves.take i) 0 ⟨0, 0, 0⟩).pts))) (by rfl) (by kernel_rfl) ?_
    refine sx_nil ?_
    refine ex_then_n ?_
    refine wp_seq ?_
    rcases Bool.eq_false_or_eq_true ((i : Int) == 0) with c_45 | c_45
    ·
     have c_45p := eq_of_beq_ c_45
     refine sx_region ?_
     refine sx_rd 47 (.int .i64 (i : Int)) (by rfl) (by kernel_rfl) ?_
     refine sx_rd 48 (.bool true) (by rfl) (bv c_45 (by kernel_rfl)) ?_
     refine sx_rd 49 (.bool true) (by rfl) (by kernel_rfl) ?_
     refine sx_skip 50 (by rfl) (by rfl) (by rfl) ?_
     refine sx_skip 51 (by rfl) (by rfl) (by rfl) ?_
     refine sx_skip 52 (by rfl) (by rfl) (by rfl) ?_
     refine sx_skip 53 (by rfl) (by rfl) (by rfl) ?_
     refine sx_skip 54 (by rfl) (by rfl) (by rfl) ?_
     refine sx_skip 55 (by rfl) (by rfl) (by rfl) ?_
     refine sx_skip 56 (by rfl) (by rfl) (by rfl) ?_
     refine sx_skip 57 (by rfl) (by rfl) (by rfl) ?_
     refine sx_skip 58 (by rfl) (by rfl) (by rfl) ?_
     refine sx_skip 59 (by rfl) (by rfl) (by rfl) ?_
     refine sx_skip 60 (by rfl) (by rfl) (by rfl) ?_
     refine sx_skip 61 (by rfl) (by rfl) (by rfl) ?_
     refine sx_rd 62 (.bool true) (by rfl) (by kernel_rfl) ?_
     refine sx_nil ?_
     refine ex_then_n ?_
     refine sx_then true (by rfl) rfl ?_
     refine sx_region ?_
     refine sx_rd 63 (.pointer (some ⟨g_42, 0, none⟩)) (by rfl) (by kernel_rfl) ?_
     refine sx_rd 64 (.int .i64 ((fateF (g.make x)).pts)) (by rfl) (ld1 (t := 3) (p := (.tmp 63)) (by rfl) (by rfl) (by kernel_rfl) (hp.cell 0 (by rfl) 0 _ (by rfl))) ?_
     refine sx_rd 65 (.pointer (some ⟨g_14, 0, none⟩)) (by rfl) (by kernel_rfl) ?_
     refine sx_store (t := 3) (p := (.tmp 65)) (x := (.tmp 64)) (by rfl) (by rfl) 5 (by rfl) 0 [.int .i64 ((fateF (g.make x)).pts)] (by rfl) (by rfl) (by kernel_rfl) (by simp [Value.oneCell']) (by show 1 ≤ 3; omega) #[.int .i64 ((fateF (g.make x)).pts), .int .i64 ((foldFt fateF g (g.moves.take i) 0 ⟨0, 0, 0⟩).games), .int .i64 ((foldFt fateF g (g.moves.take i) 0 ⟨0, 0, 0⟩).longest)] (by rfl) hp ?_
     intro W_46 hp; simp only [List.set_cons_succ, List.set_cons_zero] at hp
     refine sx_nil ?_
     refine ex_then_n ?_
     refine sx_drawT2 [0, 2, 5, 7] (.rd 3 (.rd 8 (.rd 9 (.alt 1 (.rd 4 (.alt 6 (.rd 10 (.rd 11 (.alt 12 (.rd 13 (.alt 14 (.fin) .non)) .non))) .non)) (.alt 6 (.rd 10 (.alt 1 (.rd 4 (.rd 11 (.alt 12 (.rd 13 (.alt 14 (.fin) .non)) .non))) .non)) (.non)))))) 15 (C := Hp w0 (blk g_42 #[.int .i64 ((fateF (g.make x)).pts), .int .i64 ((fateF (g.make x)).games), .int .i64 ((fateF (g.make x)).longest)] 43 :: memoC Tryz.prog 9 b ((n + sumC costF g (g.moves.take i)) + costF (g.make x)) fateGood :: row k53 53 w0.heap.size (.slice A_31 (((g.make x).f).length) c_32) ((g.make x).f) F_33 :: row k53 53 w0.heap.size (.slice A_34 (((g.make x).s).length) c_35) ((g.make x).s) F_36 :: row (Kd.int .i64) 3 w0.heap.size (.slice A_37 (((g.make x).r).length) c_38) ((g.make x).r) F_39 :: row Kd.string 9 w0.heap.size (.slice A_19 ((g.moves.map txt).length) c_20) (g.moves.map txt) F_21 :: blk g_11 #[.int .i64 0, .int .i64 0, .int .i64 0] 43 :: blk g_3 #[.int .i64 0, .int .i64 0, .int .i64 0] 43 :: blk g_1 #[.slice A0 g.f.length c0, .slice A1 g.s.length c1, .slice A2 g.r.length c2, .int .i64 g.t, .int .i64 g.p] 31 :: cs)) (Hp w0 (blk g_42 #[.int .i64 ((fateF (g.make x)).pts), .int .i64 ((fateF (g.make x)).games), .int .i64 ((fateF (g.make x)).longest)] 43 :: memoC Tryz.prog 9 b ((n + sumC costF g (g.moves.take i)) + costF (g.make x)) fateGood :: row k53 53 w0.heap.size (.slice A_31 (((g.make x).f).length) c_32) ((g.make x).f) F_33 :: row k53 53 w0.heap.size (.slice A_34 (((g.make x).s).length) c_35) ((g.make x).s) F_36 :: row (Kd.int .i64) 3 w0.heap.size (.slice A_37 (((g.make x).r).length) c_38) ((g.make x).r) F_39 :: blk g_14 #[.int .i64 ((fateF (g.make x)).pts), .int .i64 ((foldFt fateF g (g.moves.take i) 0 ⟨0, 0, 0⟩).games), .int .i64 ((foldFt fateF g (g.moves.take i) 0 ⟨0, 0, 0⟩).longest)] 43 :: row Kd.string 9 w0.heap.size (.slice A_19 ((g.moves.map txt).length) c_20) (g.moves.map txt) F_21 :: blk g_11 #[.int .i64 0, .int .i64 0, .int .i64 0] 43 :: blk g_3 #[.int .i64 0, .int .i64 0, .int .i64 0] 43 :: blk g_1 #[.slice A0 g.f.length c0, .slice A1 g.s.length c1, .slice A2 g.r.length c2, .int .i64 g.t, .int .i64 g.p] 31 :: cs)) (fun W h => h.take [0, 1, 2, 3, 4, 6, 7, 8, 9] 10 (by decide) (by simp)) (by kernel_rfl) (by kernel_rfl) (fun d _ _ _ _ h => by cases d <;> exact h) (fun W h => h.drew) hp ?_
     refine preI_read rfl ?_
     refine sxq_val 66 (.pointer (some ⟨g_14, 1, none⟩)) (by rfl) (fun W _ => (by kernel_rfl)) ?_
     refine sxq_nil ?_
     refine preI_read rfl ?_
     refine sxq_val 68 (.pointer (some ⟨g_42, 1, none⟩)) (by rfl) (fun W _ => (by kernel_rfl)) ?_
     refine sxq_nil ?_
     refine preI_read rfl ?_
     refine sxq_val 71 (.pointer (some ⟨g_14, 2, none⟩)) (by rfl) (fun W _ => (by kernel_rfl)) ?_
     refine sxq_nil ?_
     refine preI_read rfl ?_
     refine sxq_val 73 (.pointer (some ⟨g_42, 2, none⟩)) (by rfl) (fun W _ => (by kernel_rfl)) ?_
     refine sxq_nil ?_
     refine preI_nil ?_
     intro W_47 hp
     refine treeI_rd rfl ?_
     refine sxq_val 69 (.int .i64 ((fateF (g.make x)).games)) (by rfl) (fun W hp => (ld1 (t := 3) (p := (.tmp 68)) (by rfl) (by rfl) (by kernel_rfl) (hp.cell 0 (by rfl) 1 _ (by rfl)))) ?_
     refine sxq_nil ?_
     refine treeI_rd rfl ?_
     refine sxq_val 74 (.int .i64 ((fateF (g.make x)).longest)) (by rfl) (fun W hp => (ld1 (t := 3) (p := (.tmp 73)) (by rfl) (by rfl) (by kernel_rfl) (hp.cell 0 (by rfl) 2 _ (by rfl)))) ?_
     refine sxq_nil ?_
     refine treeI_rd rfl ?_
     refine sxq_val 75 (.int .i64 ((fateF (g.make x)).longest + 1)) (by rfl) (fun W hp => (wr_ok (by omega) (by kernel_rfl))) ?_
     refine sxq_nil ?_
     refine treeI_alt rfl ?_ ?_
     ·
      refine sx_rd 67 (.int .i64 ((foldFt fateF g (g.moves.take i) 0 ⟨0, 0, 0⟩).games)) (by rfl) (ld1 (t := 3) (p := (.tmp 66)) (by rfl) (by rfl) (by kernel_rfl) (hp.cell 5 (by rfl) 1 _ (by rfl))) ?_
      refine step_fin (hp.take [0, 1, 2, 3, 4, 6, 7, 8, 9] 10 (by decide) (by simp)) ?_
      refine treeI_rd rfl ?_
      refine sxq_val 70 (.int .i64 ((foldFt fateF g (g.moves.take i) 0 ⟨0, 0, 0⟩).games + (fateF (g.make x)).games)) (by rfl) (fun W hp => (wr_ok (by omega) (by kernel_rfl))) ?_
      refine sxq_nil ?_
      refine treeI_ev rfl ?_
      refine sx_rd 72 (.int .i64 ((foldFt fateF g (g.moves.take i) 0 ⟨0, 0, 0⟩).longest)) (by rfl) (ld1 (t := 3) (p := (.tmp 71)) (by rfl) (by rfl) (by kernel_rfl) (hp.cell 5 (by rfl) 2 _ (by rfl))) ?_
      refine step_fin (hp.take [0, 1, 2, 3, 4, 6, 7, 8, 9] 10 (by decide) (by simp)) ?_
      refine treeI_rd rfl ?_
      refine sxq_val 76 (.int .i64 (mx ((foldFt fateF g (g.moves.take i) 0 ⟨0, 0, 0⟩).longest) ((fateF (g.make x)).longest + 1))) (by rfl) (fun W hp => (by kernel_rfl)) ?_
      refine sxq_nil ?_
      refine treeI_rd rfl ?_
      refine sxq_val 77 (.pointer (some ⟨g_14, 1, none⟩)) (by rfl) (fun W hp => (by kernel_rfl)) ?_
      refine sxq_nil ?_
      refine treeI_ev rfl ?_
      refine sx_store (t := 3) (p := (.tmp 77)) (x := (.tmp 70)) (by rfl) (by rfl) 5 (by rfl) 1 [.int .i64 ((foldFt fateF g (g.moves.take i) 0 ⟨0, 0, 0⟩).games + (fateF (g.make x)).games)] (by rfl) (by rfl) (by kernel_rfl) (by simp [Value.oneCell']) (by show 2 ≤ 3; omega) #[.int .i64 ((fateF (g.make x)).pts), .int .i64 ((foldFt fateF g (g.moves.take i) 0 ⟨0, 0, 0⟩).games + (fateF (g.make x)).games), .int .i64 ((foldFt fateF g (g.moves.take i) 0 ⟨0, 0, 0⟩).longest)] (by rfl) hp ?_
      intro W_48 hp; simp only [List.set_cons_succ, List.set_cons_zero] at hp
      refine step_fin (hp.take [0, 1, 2, 3, 4, 6, 7, 8, 9] 10 (by decide) (by simp)) ?_
      refine treeI_rd rfl ?_
      refine sxq_val 78 (.pointer (some ⟨g_14, 2, none⟩)) (by rfl) (fun W hp => (by kernel_rfl)) ?_
      refine sxq_nil ?_
      refine treeI_ev rfl ?_
      refine sx_store (t := 3) (p := (.tmp 78)) (x := (.tmp 76)) (by rfl) (by rfl) 5 (by rfl) 2 [.int .i64 (mx ((foldFt fateF g (g.moves.take i) 0 ⟨0, 0, 0⟩).longest) ((fateF (g.make x)).longest + 1))] (by rfl) (by rfl) (by kernel_rfl) (by simp [Value.oneCell']) (by show 3 ≤ 3; omega) #[.int .i64 ((fateF (g.make x)).pts), .int .i64 ((foldFt fateF g (g.moves.take i) 0 ⟨0, 0, 0⟩).games + (fateF (g.make x)).games), .int .i64 (mx ((foldFt fateF g (g.moves.take i) 0 ⟨0, 0, 0⟩).longest) ((fateF (g.make x)).longest + 1))] (by rfl) hp ?_
      intro W_49 hp; simp only [List.set_cons_succ, List.set_cons_zero] at hp
      refine step_fin (hp.take [0, 1, 2, 3, 4, 6, 7, 8, 9] 10 (by decide) (by simp)) ?_
      refine treeI_fin ?_
      refine sx_nil ?_
      refine ex_blk_n ?_
      refine ex_then_n ?_
      refine sx_region ?_
      refine sx_rd 79 (.int .i64 ((i : Int) + 1)) (by rfl) (wr_ok (by omega) (by kernel_rfl)) ?_
      refine sx_rd 32 (.int .i64 ((i : Int) + 1)) (by rfl) (by kernel_rfl) ?_
      refine sx_nil ?_
      refine ex_then_n ?_
      have hq_50 : (fateF (g.make x)).pts = (foldFt fateF g (g.moves.take (i + 1)) 0 ⟨0, 0, 0⟩).pts := by rw [hst]; exact step_pos (.inl (by have q := c_45; simp at q; omega))
      rw [hq_50] at hp
      have hq_51 : ((foldFt fateF g (g.moves.take i) 0 ⟨0, 0, 0⟩).games + (fateF (g.make x)).games) = (foldFt fateF g (g.moves.take (i + 1)) 0 ⟨0, 0, 0⟩).games := by rw [hst]; rfl
      rw [hq_51] at hp
      have hq_52 : (mx ((foldFt fateF g (g.moves.take i) 0 ⟨0, 0, 0⟩).longest) ((fateF (g.make x)).longest + 1)) = (foldFt fateF g (g.moves.take (i + 1)) 0 ⟨0, 0, 0⟩).longest := by rw [hst]; rfl
      rw [hq_52] at hp
      have hq_53 : ((n + sumC costF g (g.moves.take i)) + costF (g.make x)) = (n + sumC costF g (g.moves.take (i + 1))) := by rw [hsm]; omega
      rw [hq_53] at hp
      exact ⟨_, (by omega), _, (i + 1), rfl, fr_front [(0, .map (some b)), (3, .pointer (some ⟨g_1, 0, none⟩)), (4, .pointer (some ⟨g_3, 0, none⟩)), (5, .string (mkU (gkey g.f g.s g.r g.t g.p))), (8, .pointer (some ⟨g_14, 0, none⟩)), (30, .slice A_19 ((g.moves.map txt).length) c_20), (31, .int .i64 ((g.moves.map txt).length : Int)), (32, .int .i64 ((i + 1 : Nat) : Int))] ⟨rfl, rfl, rfl, rfl, rfl, rfl, rfl, rfl, trivial⟩, (hp.take [5, 1, 6, 7, 8, 9] 10 (by decide) (by simp)), (by omega)⟩
     refine treeI_alt rfl ?_ ?_
     ·
      refine sx_rd 72 (.int .i64 ((foldFt fateF g (g.moves.take i) 0 ⟨0, 0, 0⟩).longest)) (by rfl) (ld1 (t := 3) (p := (.tmp 71)) (by rfl) (by rfl) (by kernel_rfl) (hp.cell 5 (by rfl) 2 _ (by rfl))) ?_
      refine step_fin (hp.take [0, 1, 2, 3, 4, 6, 7, 8, 9] 10 (by decide) (by simp)) ?_
      refine treeI_rd rfl ?_
      refine sxq_val 76 (.int .i64 (mx ((foldFt fateF g (g.moves.take i) 0 ⟨0, 0, 0⟩).longest) ((fateF (g.make x)).longest + 1))) (by rfl) (fun W hp => (by kernel_rfl)) ?_
      refine sxq_nil ?_
      refine treeI_ev rfl ?_
      refine sx_rd 67 (.int .i64 ((foldFt fateF g (g.moves.take i) 0 ⟨0, 0, 0⟩).games)) (by rfl) (ld1 (t := 3) (p := (.tmp 66)) (by rfl) (by rfl) (by kernel_rfl) (hp.cell 5 (by rfl) 1 _ (by rfl))) ?_
      refine step_fin (hp.take [0, 1, 2, 3, 4, 6, 7, 8, 9] 10 (by decide) (by simp)) ?_
      refine treeI_rd rfl ?_
      refine sxq_val 70 (.int .i64 ((foldFt fateF g (g.moves.take i) 0 ⟨0, 0, 0⟩).games + (fateF (g.make x)).games)) (by rfl) (fun W hp => (wr_ok (by omega) (by kernel_rfl))) ?_
      refine sxq_nil ?_
      refine treeI_rd rfl ?_
      refine sxq_val 77 (.pointer (some ⟨g_14, 1, none⟩)) (by rfl) (fun W hp => (by kernel_rfl)) ?_
      refine sxq_nil ?_
      refine treeI_ev rfl ?_
      refine sx_store (t := 3) (p := (.tmp 77)) (x := (.tmp 70)) (by rfl) (by rfl) 5 (by rfl) 1 [.int .i64 ((foldFt fateF g (g.moves.take i) 0 ⟨0, 0, 0⟩).games + (fateF (g.make x)).games)] (by rfl) (by rfl) (by kernel_rfl) (by simp [Value.oneCell']) (by show 2 ≤ 3; omega) #[.int .i64 ((fateF (g.make x)).pts), .int .i64 ((foldFt fateF g (g.moves.take i) 0 ⟨0, 0, 0⟩).games + (fateF (g.make x)).games), .int .i64 ((foldFt fateF g (g.moves.take i) 0 ⟨0, 0, 0⟩).longest)] (by rfl) hp ?_
      intro W_54 hp; simp only [List.set_cons_succ, List.set_cons_zero] at hp
      refine step_fin (hp.take [0, 1, 2, 3, 4, 6, 7, 8, 9] 10 (by decide) (by simp)) ?_
      refine treeI_rd rfl ?_
      refine sxq_val 78 (.pointer (some ⟨g_14, 2, none⟩)) (by rfl) (fun W hp => (by kernel_rfl)) ?_
      refine sxq_nil ?_
      refine treeI_ev rfl ?_
      refine sx_store (t := 3) (p := (.tmp 78)) (x := (.tmp 76)) (by rfl) (by rfl) 5 (by rfl) 2 [.int .i64 (mx ((foldFt fateF g (g.moves.take i) 0 ⟨0, 0, 0⟩).longest) ((fateF (g.make x)).longest + 1))] (by rfl) (by rfl) (by kernel_rfl) (by simp [Value.oneCell']) (by show 3 ≤ 3; omega) #[.int .i64 ((fateF (g.make x)).pts), .int .i64 ((foldFt fateF g (g.moves.take i) 0 ⟨0, 0, 0⟩).games + (fateF (g.make x)).games), .int .i64 (mx ((foldFt fateF g (g.moves.take i) 0 ⟨0, 0, 0⟩).longest) ((fateF (g.make x)).longest + 1))] (by rfl) hp ?_
      intro W_55 hp; simp only [List.set_cons_succ, List.set_cons_zero] at hp
      refine step_fin (hp.take [0, 1, 2, 3, 4, 6, 7, 8, 9] 10 (by decide) (by simp)) ?_
      refine treeI_fin ?_
      refine sx_nil ?_
      refine ex_blk_n ?_
      refine ex_then_n ?_
      refine sx_region ?_
      refine sx_rd 79 (.int .i64 ((i : Int) + 1)) (by rfl) (wr_ok (by omega) (by kernel_rfl)) ?_
      refine sx_rd 32 (.int .i64 ((i : Int) + 1)) (by rfl) (by kernel_rfl) ?_
      refine sx_nil ?_
      refine ex_then_n ?_
      have hq_56 : (fateF (g.make x)).pts = (foldFt fateF g (g.moves.take (i + 1)) 0 ⟨0, 0, 0⟩).pts := by rw [hst]; exact step_pos (.inl (by have q := c_45; simp at q; omega))
      rw [hq_56] at hp
      have hq_57 : ((foldFt fateF g (g.moves.take i) 0 ⟨0, 0, 0⟩).games + (fateF (g.make x)).games) = (foldFt fateF g (g.moves.take (i + 1)) 0 ⟨0, 0, 0⟩).games := by rw [hst]; rfl
      rw [hq_57] at hp
      have hq_58 : (mx ((foldFt fateF g (g.moves.take i) 0 ⟨0, 0, 0⟩).longest) ((fateF (g.make x)).longest + 1)) = (foldFt fateF g (g.moves.take (i + 1)) 0 ⟨0, 0, 0⟩).longest := by rw [hst]; rfl
      rw [hq_58] at hp
      have hq_59 : ((n + sumC costF g (g.moves.take i)) + costF (g.make x)) = (n + sumC costF g (g.moves.take (i + 1))) := by rw [hsm]; omega
      rw [hq_59] at hp
      exact ⟨_, (by omega), _, (i + 1), rfl, fr_front [(0, .map (some b)), (3, .pointer (some ⟨g_1, 0, none⟩)), (4, .pointer (some ⟨g_3, 0, none⟩)), (5, .string (mkU (gkey g.f g.s g.r g.t g.p))), (8, .pointer (some ⟨g_14, 0, none⟩)), (30, .slice A_19 ((g.moves.map txt).length) c_20), (31, .int .i64 ((g.moves.map txt).length : Int)), (32, .int .i64 ((i + 1 : Nat) : Int))] ⟨rfl, rfl, rfl, rfl, rfl, rfl, rfl, rfl, trivial⟩, (hp.take [5, 1, 6, 7, 8, 9] 10 (by decide) (by simp)), (by omega)⟩
     exact treeI_non
    ·
     have c_45p := ne_of_beq_ c_45
     rcases Bool.eq_false_or_eq_true ((fateF (g.make x)).pts != (foldFt fateF g (g.moves.take i) 0 ⟨0, 0, 0⟩).pts) with c_60 | c_60
     ·
      have c_60p := ne_of_bne_ c_60
      refine sx_region ?_
      refine sx_rd 47 (.int .i64 (i : Int)) (by rfl) (by kernel_rfl) ?_
      refine sx_rd 48 (.bool false) (by rfl) (bv c_45 (by kernel_rfl)) ?_
      refine sx_rd 49 (.bool false) (by rfl) (by kernel_rfl) ?_
      refine sx_want (by rfl) ?_
      refine sx_rd 50 (.pointer (some ⟨g_42, 0, none⟩)) (by rfl) (by kernel_rfl) ?_
      refine sx_want (by rfl) ?_
      refine sx_rd 51 (.int .i64 ((fateF (g.make x)).pts)) (by rfl) (ld1 (t := 3) (p := (.tmp 50)) (by rfl) (by rfl) (by kernel_rfl) (hp.cell 0 (by rfl) 0 _ (by rfl))) ?_
      refine sx_want (by rfl) ?_
      refine sx_rd 52 (.pointer (some ⟨g_14, 0, none⟩)) (by rfl) (by kernel_rfl) ?_
      refine sx_want (by rfl) ?_
      refine sx_rd 53 (.int .i64 ((foldFt fateF g (g.moves.take i) 0 ⟨0, 0, 0⟩).pts)) (by rfl) (ld1 (t := 3) (p := (.tmp 52)) (by rfl) (by rfl) (by kernel_rfl) (hp.cell 5 (by rfl) 0 _ (by rfl))) ?_
      refine sx_want (by rfl) ?_
      refine sx_rd 54 (.bool true) (by rfl) (bv c_60 (by kernel_rfl)) ?_
      refine sx_want (by rfl) ?_
      refine sx_rd 55 (.bool true) (by rfl) (by kernel_rfl) ?_
      refine sx_want (by rfl) ?_
      refine sx_rd 56 (.bool (decide ((fateF (g.make x)).pts > (foldFt fateF g (g.moves.take i) 0 ⟨0, 0, 0⟩).pts))) (by rfl) (by kernel_rfl) ?_
      refine sx_want (by rfl) ?_
      refine sx_rd 57 (.pointer (some ⟨g_1, 3, none⟩)) (by rfl) (by kernel_rfl) ?_
      refine sx_want (by rfl) ?_
      refine sx_rd 58 (.int .i64 g.t) (by rfl) (ld1 (t := 3) (p := (.tmp 57)) (by rfl) (by rfl) (by kernel_rfl) (hp.cell 9 (by rfl) 3 _ (by rfl))) ?_
      refine sx_want (by rfl) ?_
      refine sx_rd 59 (.bool (g.t == 0)) (by rfl) (by kernel_rfl) ?_
      refine sx_want (by rfl) ?_
      refine sx_rd 60 (.bool ((decide ((fateF (g.make x)).pts > (foldFt fateF g (g.moves.take i) 0 ⟨0, 0, 0⟩).pts)) == (g.t == 0))) (by rfl) (by kernel_rfl) ?_
      refine sx_want (by rfl) ?_
      refine sx_rd 61 (.bool ((decide ((fateF (g.make x)).pts > (foldFt fateF g (g.moves.take i) 0 ⟨0, 0, 0⟩).pts)) == (g.t == 0))) (by rfl) (by kernel_rfl) ?_
      refine sx_rd 62 (.bool ((decide ((fateF (g.make x)).pts > (foldFt fateF g (g.moves.take i) 0 ⟨0, 0, 0⟩).pts)) == (g.t == 0))) (by rfl) (by kernel_rfl) ?_
      refine sx_nil ?_
      refine ex_then_n ?_
      refine sx_cond ((decide ((fateF (g.make x)).pts > (foldFt fateF g (g.moves.take i) 0 ⟨0, 0, 0⟩).pts)) == (g.t == 0)) (by rfl) (fun c_61 => ?_) (fun c_61 => ?_)
      ·
       refine sx_region ?_
       refine sx_rd 63 (.pointer (some ⟨g_42, 0, none⟩)) (by rfl) (by kernel_rfl) ?_
       refine sx_rd 64 (.int .i64 ((fateF (g.make x)).pts)) (by rfl) (ld1 (t := 3) (p := (.tmp 63)) (by rfl) (by rfl) (by kernel_rfl) (hp.cell 0 (by rfl) 0 _ (by rfl))) ?_
       refine sx_rd 65 (.pointer (some ⟨g_14, 0, none⟩)) (by rfl) (by kernel_rfl) ?_
       refine sx_store (t := 3) (p := (.tmp 65)) (x := (.tmp 64)) (by rfl) (by rfl) 5 (by rfl) 0 [.int .i64 ((fateF (g.make x)).pts)] (by rfl) (by rfl) (by kernel_rfl) (by simp [Value.oneCell']) (by show 1 ≤ 3; omega) #[.int .i64 ((fateF (g.make x)).pts), .int .i64 ((foldFt fateF g (g.moves.take i) 0 ⟨0, 0, 0⟩).games), .int .i64 ((foldFt fateF g (g.moves.take i) 0 ⟨0, 0, 0⟩).longest)] (by rfl) hp ?_
       intro W_62 hp; simp only [List.set_cons_succ, List.set_cons_zero] at hp
       refine sx_nil ?_
       refine ex_then_n ?_
       refine sx_drawT2 [0, 2, 5, 7] (.rd 3 (.rd 8 (.rd 9 (.alt 1 (.rd 4 (.alt 6 (.rd 10 (.rd 11 (.alt 12 (.rd 13 (.alt 14 (.fin) .non)) .non))) .non)) (.alt 6 (.rd 10 (.alt 1 (.rd 4 (.rd 11 (.alt 12 (.rd 13 (.alt 14 (.fin) .non)) .non))) .non)) (.non)))))) 15 (C := Hp w0 (blk g_42 #[.int .i64 ((fateF (g.make x)).pts), .int .i64 ((fateF (g.make x)).games), .int .i64 ((fateF (g.make x)).longest)] 43 :: memoC Tryz.prog 9 b ((n + sumC costF g (g.moves.take i)) + costF (g.make x)) fateGood :: row k53 53 w0.heap.size (.slice A_31 (((g.make x).f).length) c_32) ((g.make x).f) F_33 :: row k53 53 w0.heap.size (.slice A_34 (((g.make x).s).length) c_35) ((g.make x).s) F_36 :: row (Kd.int .i64) 3 w0.heap.size (.slice A_37 (((g.make x).r).length) c_38) ((g.make x).r) F_39 :: row Kd.string 9 w0.heap.size (.slice A_19 ((g.moves.map txt).length) c_20) (g.moves.map txt) F_21 :: blk g_11 #[.int .i64 0, .int .i64 0, .int .i64 0] 43 :: blk g_3 #[.int .i64 0, .int .i64 0, .int .i64 0] 43 :: blk g_1 #[.slice A0 g.f.length c0, .slice A1 g.s.length c1, .slice A2 g.r.length c2, .int .i64 g.t, .int .i64 g.p] 31 :: cs)) (Hp w0 (blk g_42 #[.int .i64 ((fateF (g.make x)).pts), .int .i64 ((fateF (g.make x)).games), .int .i64 ((fateF (g.make x)).longest)] 43 :: memoC Tryz.prog 9 b ((n + sumC costF g (g.moves.take i)) + costF (g.make x)) fateGood :: row k53 53 w0.heap.size (.slice A_31 (((g.make x).f).length) c_32) ((g.make x).f) F_33 :: row k53 53 w0.heap.size (.slice A_34 (((g.make x).s).length) c_35) ((g.make x).s) F_36 :: row (Kd.int .i64) 3 w0.heap.size (.slice A_37 (((g.make x).r).length) c_38) ((g.make x).r) F_39 :: blk g_14 #[.int .i64 ((fateF (g.make x)).pts), .int .i64 ((foldFt fateF g (g.moves.take i) 0 ⟨0, 0, 0⟩).games), .int .i64 ((foldFt fateF g (g.moves.take i) 0 ⟨0, 0, 0⟩).longest)] 43 :: row Kd.string 9 w0.heap.size (.slice A_19 ((g.moves.map txt).length) c_20) (g.moves.map txt) F_21 :: blk g_11 #[.int .i64 0, .int .i64 0, .int .i64 0] 43 :: blk g_3 #[.int .i64 0, .int .i64 0, .int .i64 0] 43 :: blk g_1 #[.slice A0 g.f.length c0, .slice A1 g.s.length c1, .slice A2 g.r.length c2, .int .i64 g.t, .int .i64 g.p] 31 :: cs)) (fun W h => h.take [0, 1, 2, 3, 4, 6, 7, 8, 9] 10 (by decide) (by simp)) (by kernel_rfl) (by kernel_rfl) (fun d _ _ _ _ h => by cases d <;> exact h) (fun W h => h.drew) hp ?_
       refine preI_read rfl ?_
       refine sxq_val 66 (.pointer (some ⟨g_14, 1, none⟩)) (by rfl) (fun W _ => (by kernel_rfl)) ?_
       refine sxq_nil ?_
       refine preI_read rfl ?_
       refine sxq_val 68 (.pointer (some ⟨g_42, 1, none⟩)) (by rfl) (fun W _ => (by kernel_rfl)) ?_
       refine sxq_nil ?_
       refine preI_read rfl ?_
       refine sxq_val 71 (.pointer (some ⟨g_14, 2, none⟩)) (by rfl) (fun W _ => (by kernel_rfl)) ?_
       refine sxq_nil ?_
       refine preI_read rfl ?_
       refine sxq_val 73 (.pointer (some ⟨g_42, 2, none⟩)) (by rfl) (fun W _ => (by kernel_rfl)) ?_
       refine sxq_nil ?_
       refine preI_nil ?_
       intro W_63 hp
       refine treeI_rd rfl ?_
       refine sxq_val 69 (.int .i64 ((fateF (g.make x)).games)) (by rfl) (fun W hp => (ld1 (t := 3) (p := (.tmp 68)) (by rfl) (by rfl) (by kernel_rfl) (hp.cell 0 (by rfl) 1 _ (by rfl)))) ?_
       refine sxq_nil ?_
       refine treeI_rd rfl ?_
       refine sxq_val 74 (.int .i64 ((fateF (g.make x)).longest)) (by rfl) (fun W hp => (ld1 (t := 3) (p := (.tmp 73)) (by rfl) (by rfl) (by kernel_rfl) (hp.cell 0 (by rfl) 2 _ (by rfl)))) ?_
       refine sxq_nil ?_
       refine treeI_rd rfl ?_
       refine sxq_val 75 (.int .i64 ((fateF (g.make x)).longest + 1)) (by rfl) (fun W hp => (wr_ok (by omega) (by kernel_rfl))) ?_
       refine sxq_nil ?_
       refine treeI_alt rfl ?_ ?_
       ·
        refine sx_rd 67 (.int .i64 ((foldFt fateF g (g.moves.take i) 0 ⟨0, 0, 0⟩).games)) (by rfl) (ld1 (t := 3) (p := (.tmp 66)) (by rfl) (by rfl) (by kernel_rfl) (hp.cell 5 (by rfl) 1 _ (by rfl))) ?_
        refine step_fin (hp.take [0, 1, 2, 3, 4, 6, 7, 8, 9] 10 (by decide) (by simp)) ?_
        refine treeI_rd rfl ?_
        refine sxq_val 70 (.int .i64 ((foldFt fateF g (g.moves.take i) 0 ⟨0, 0, 0⟩).games + (fateF (g.make x)).games)) (by rfl) (fun W hp => (wr_ok (by omega) (by kernel_rfl))) ?_
        refine sxq_nil ?_
        refine treeI_ev rfl ?_
        refine sx_rd 72 (.int .i64 ((foldFt fateF g (g.moves.take i) 0 ⟨0, 0, 0⟩).longest)) (by rfl) (ld1 (t := 3) (p := (.tmp 71)) (by rfl) (by rfl) (by kernel_rfl) (hp.cell 5 (by rfl) 2 _ (by rfl))) ?_
        refine step_fin (hp.take [0, 1, 2, 3, 4, 6, 7, 8, 9] 10 (by decide) (by simp)) ?_
        refine treeI_rd rfl ?_
        refine sxq_val 76 (.int .i64 (mx ((foldFt fateF g (g.moves.take i) 0 ⟨0, 0, 0⟩).longest) ((fateF (g.make x)).longest + 1))) (by rfl) (fun W hp => (by kernel_rfl)) ?_
        refine sxq_nil ?_
        refine treeI_rd rfl ?_
        refine sxq_val 77 (.pointer (some ⟨g_14, 1, none⟩)) (by rfl) (fun W hp => (by kernel_rfl)) ?_
        refine sxq_nil ?_
        refine treeI_ev rfl ?_
        refine sx_store (t := 3) (p := (.tmp 77)) (x := (.tmp 70)) (by rfl) (by rfl) 5 (by rfl) 1 [.int .i64 ((foldFt fateF g (g.moves.take i) 0 ⟨0, 0, 0⟩).games + (fateF (g.make x)).games)] (by rfl) (by rfl) (by kernel_rfl) (by simp [Value.oneCell']) (by show 2 ≤ 3; omega) #[.int .i64 ((fateF (g.make x)).pts), .int .i64 ((foldFt fateF g (g.moves.take i) 0 ⟨0, 0, 0⟩).games + (fateF (g.make x)).games), .int .i64 ((foldFt fateF g (g.moves.take i) 0 ⟨0, 0, 0⟩).longest)] (by rfl) hp ?_
        intro W_64 hp; simp only [List.set_cons_succ, List.set_cons_zero] at hp
        refine step_fin (hp.take [0, 1, 2, 3, 4, 6, 7, 8, 9] 10 (by decide) (by simp)) ?_
        refine treeI_rd rfl ?_
        refine sxq_val 78 (.pointer (some ⟨g_14, 2, none⟩)) (by rfl) (fun W hp => (by kernel_rfl)) ?_
        refine sxq_nil ?_
        refine treeI_ev rfl ?_
        refine sx_store (t := 3) (p := (.tmp 78)) (x := (.tmp 76)) (by rfl) (by rfl) 5 (by rfl) 2 [.int .i64 (mx ((foldFt fateF g (g.moves.take i) 0 ⟨0, 0, 0⟩).longest) ((fateF (g.make x)).longest + 1))] (by rfl) (by rfl) (by kernel_rfl) (by simp [Value.oneCell']) (by show 3 ≤ 3; omega) #[.int .i64 ((fateF (g.make x)).pts), .int .i64 ((foldFt fateF g (g.moves.take i) 0 ⟨0, 0, 0⟩).games + (fateF (g.make x)).games), .int .i64 (mx ((foldFt fateF g (g.moves.take i) 0 ⟨0, 0, 0⟩).longest) ((fateF (g.make x)).longest + 1))] (by rfl) hp ?_
        intro W_65 hp; simp only [List.set_cons_succ, List.set_cons_zero] at hp
        refine step_fin (hp.take [0, 1, 2, 3, 4, 6, 7, 8, 9] 10 (by decide) (by simp)) ?_
        refine treeI_fin ?_
        refine sx_nil ?_
        refine ex_blk_n ?_
        refine ex_then_n ?_
        refine sx_region ?_
        refine sx_rd 79 (.int .i64 ((i : Int) + 1)) (by rfl) (wr_ok (by omega) (by kernel_rfl)) ?_
        refine sx_rd 32 (.int .i64 ((i : Int) + 1)) (by rfl) (by kernel_rfl) ?_
        refine sx_nil ?_
        refine ex_then_n ?_
        have hq_66 : (fateF (g.make x)).pts = (foldFt fateF g (g.moves.take (i + 1)) 0 ⟨0, 0, 0⟩).pts := by rw [hst]; exact step_pos (.inr ⟨by have q := c_60; simpa using q, eq_of_beq c_61⟩)
        rw [hq_66] at hp
        have hq_67 : ((foldFt fateF g (g.moves.take i) 0 ⟨0, 0, 0⟩).games + (fateF (g.make x)).games) = (foldFt fateF g (g.moves.take (i + 1)) 0 ⟨0, 0, 0⟩).games := by rw [hst]; rfl
        rw [hq_67] at hp
        have hq_68 : (mx ((foldFt fateF g (g.moves.take i) 0 ⟨0, 0, 0⟩).longest) ((fateF (g.make x)).longest + 1)) = (foldFt fateF g (g.moves.take (i + 1)) 0 ⟨0, 0, 0⟩).longest := by rw [hst]; rfl
        rw [hq_68] at hp
        have hq_69 : ((n + sumC costF g (g.moves.take i)) + costF (g.make x)) = (n + sumC costF g (g.moves.take (i + 1))) := by rw [hsm]; omega
        rw [hq_69] at hp
        exact ⟨_, (by omega), _, (i + 1), rfl, fr_front [(0, .map (some b)), (3, .pointer (some ⟨g_1, 0, none⟩)), (4, .pointer (some ⟨g_3, 0, none⟩)), (5, .string (mkU (gkey g.f g.s g.r g.t g.p))), (8, .pointer (some ⟨g_14, 0, none⟩)), (30, .slice A_19 ((g.moves.map txt).length) c_20), (31, .int .i64 ((g.moves.map txt).length : Int)), (32, .int .i64 ((i + 1 : Nat) : Int))] ⟨rfl, rfl, rfl, rfl, rfl, rfl, rfl, rfl, trivial⟩, (hp.take [5, 1, 6, 7, 8, 9] 10 (by decide) (by simp)), (by omega)⟩
       refine treeI_alt rfl ?_ ?_
       ·
        refine sx_rd 72 (.int .i64 ((foldFt fateF g (g.moves.take i) 0 ⟨0, 0, 0⟩).longest)) (by rfl) (ld1 (t := 3) (p := (.tmp 71)) (by rfl) (by rfl) (by kernel_rfl) (hp.cell 5 (by rfl) 2 _ (by rfl))) ?_
        refine step_fin (hp.take [0, 1, 2, 3, 4, 6, 7, 8, 9] 10 (by decide) (by simp)) ?_
        refine treeI_rd rfl ?_
        refine sxq_val 76 (.int .i64 (mx ((foldFt fateF g (g.moves.take i) 0 ⟨0, 0, 0⟩).longest) ((fateF (g.make x)).longest + 1))) (by rfl) (fun W hp => (by kernel_rfl)) ?_
        refine sxq_nil ?_
        refine treeI_ev rfl ?_
        refine sx_rd 67 (.int .i64 ((foldFt fateF g (g.moves.take i) 0 ⟨0, 0, 0⟩).games)) (by rfl) (ld1 (t := 3) (p := (.tmp 66)) (by rfl) (by rfl) (by kernel_rfl) (hp.cell 5 (by rfl) 1 _ (by rfl))) ?_
        refine step_fin (hp.take [0, 1, 2, 3, 4, 6, 7, 8, 9] 10 (by decide) (by simp)) ?_
        refine treeI_rd rfl ?_
        refine sxq_val 70 (.int .i64 ((foldFt fateF g (g.moves.take i) 0 ⟨0, 0, 0⟩).games + (fateF (g.make x)).games)) (by rfl) (fun W hp => (wr_ok (by omega) (by kernel_rfl))) ?_
        refine sxq_nil ?_
        refine treeI_rd rfl ?_
        refine sxq_val 77 (.pointer (some ⟨g_14, 1, none⟩)) (by rfl) (fun W hp => (by kernel_rfl)) ?_
        refine sxq_nil ?_
        refine treeI_ev rfl ?_
        refine sx_store (t := 3) (p := (.tmp 77)) (x := (.tmp 70)) (by rfl) (by rfl) 5 (by rfl) 1 [.int .i64 ((foldFt fateF g (g.moves.take i) 0 ⟨0, 0, 0⟩).games + (fateF (g.make x)).games)] (by rfl) (by rfl) (by kernel_rfl) (by simp [Value.oneCell']) (by show 2 ≤ 3; omega) #[.int .i64 ((fateF (g.make x)).pts), .int .i64 ((foldFt fateF g (g.moves.take i) 0 ⟨0, 0, 0⟩).games + (fateF (g.make x)).games), .int .i64 ((foldFt fateF g (g.moves.take i) 0 ⟨0, 0, 0⟩).longest)] (by rfl) hp ?_
        intro W_70 hp; simp only [List.set_cons_succ, List.set_cons_zero] at hp
        refine step_fin (hp.take [0, 1, 2, 3, 4, 6, 7, 8, 9] 10 (by decide) (by simp)) ?_
        refine treeI_rd rfl ?_
        refine sxq_val 78 (.pointer (some ⟨g_14, 2, none⟩)) (by rfl) (fun W hp => (by kernel_rfl)) ?_
        refine sxq_nil ?_
        refine treeI_ev rfl ?_
        refine sx_store (t := 3) (p := (.tmp 78)) (x := (.tmp 76)) (by rfl) (by rfl) 5 (by rfl) 2 [.int .i64 (mx ((foldFt fateF g (g.moves.take i) 0 ⟨0, 0, 0⟩).longest) ((fateF (g.make x)).longest + 1))] (by rfl) (by rfl) (by kernel_rfl) (by simp [Value.oneCell']) (by show 3 ≤ 3; omega) #[.int .i64 ((fateF (g.make x)).pts), .int .i64 ((foldFt fateF g (g.moves.take i) 0 ⟨0, 0, 0⟩).games + (fateF (g.make x)).games), .int .i64 (mx ((foldFt fateF g (g.moves.take i) 0 ⟨0, 0, 0⟩).longest) ((fateF (g.make x)).longest + 1))] (by rfl) hp ?_
        intro W_71 hp; simp only [List.set_cons_succ, List.set_cons_zero] at hp
        refine step_fin (hp.take [0, 1, 2, 3, 4, 6, 7, 8, 9] 10 (by decide) (by simp)) ?_
        refine treeI_fin ?_
        refine sx_nil ?_
        refine ex_blk_n ?_
        refine ex_then_n ?_
        refine sx_region ?_
        refine sx_rd 79 (.int .i64 ((i : Int) + 1)) (by rfl) (wr_ok (by omega) (by kernel_rfl)) ?_
        refine sx_rd 32 (.int .i64 ((i : Int) + 1)) (by rfl) (by kernel_rfl) ?_
        refine sx_nil ?_
        refine ex_then_n ?_
        have hq_72 : (fateF (g.make x)).pts = (foldFt fateF g (g.moves.take (i + 1)) 0 ⟨0, 0, 0⟩).pts := by rw [hst]; exact step_pos (.inr ⟨by have q := c_60; simpa using q, eq_of_beq c_61⟩)
        rw [hq_72] at hp
        have hq_73 : ((foldFt fateF g (g.moves.take i) 0 ⟨0, 0, 0⟩).games + (fateF (g.make x)).games) = (foldFt fateF g (g.moves.take (i + 1)) 0 ⟨0, 0, 0⟩).games := by rw [hst]; rfl
        rw [hq_73] at hp
        have hq_74 : (mx ((foldFt fateF g (g.moves.take i) 0 ⟨0, 0, 0⟩).longest) ((fateF (g.make x)).longest + 1)) = (foldFt fateF g (g.moves.take (i + 1)) 0 ⟨0, 0, 0⟩).longest := by rw [hst]; rfl
        rw [hq_74] at hp
        have hq_75 : ((n + sumC costF g (g.moves.take i)) + costF (g.make x)) = (n + sumC costF g (g.moves.take (i + 1))) := by rw [hsm]; omega
        rw [hq_75] at hp
        exact ⟨_, (by omega), _, (i + 1), rfl, fr_front [(0, .map (some b)), (3, .pointer (some ⟨g_1, 0, none⟩)), (4, .pointer (some ⟨g_3, 0, none⟩)), (5, .string (mkU (gkey g.f g.s g.r g.t g.p))), (8, .pointer (some ⟨g_14, 0, none⟩)), (30, .slice A_19 ((g.moves.map txt).length) c_20), (31, .int .i64 ((g.moves.map txt).length : Int)), (32, .int .i64 ((i + 1 : Nat) : Int))] ⟨rfl, rfl, rfl, rfl, rfl, rfl, rfl, rfl, trivial⟩, (hp.take [5, 1, 6, 7, 8, 9] 10 (by decide) (by simp)), (by omega)⟩
       exact treeI_non
      ·
       refine wp_skip ?_
       refine ex_then_n ?_
       refine sx_drawT2 [0, 2, 5, 7] (.rd 3 (.rd 8 (.rd 9 (.alt 1 (.rd 4 (.alt 6 (.rd 10 (.rd 11 (.alt 12 (.rd 13 (.alt 14 (.fin) .non)) .non))) .non)) (.alt 6 (.rd 10 (.alt 1 (.rd 4 (.rd 11 (.alt 12 (.rd 13 (.alt 14 (.fin) .non)) .non))) .non)) (.non)))))) 15 (C := Hp w0 (blk g_42 #[.int .i64 ((fateF (g.make x)).pts), .int .i64 ((fateF (g.make x)).games), .int .i64 ((fateF (g.make x)).longest)] 43 :: memoC Tryz.prog 9 b ((n + sumC costF g (g.moves.take i)) + costF (g.make x)) fateGood :: row k53 53 w0.heap.size (.slice A_31 (((g.make x).f).length) c_32) ((g.make x).f) F_33 :: row k53 53 w0.heap.size (.slice A_34 (((g.make x).s).length) c_35) ((g.make x).s) F_36 :: row (Kd.int .i64) 3 w0.heap.size (.slice A_37 (((g.make x).r).length) c_38) ((g.make x).r) F_39 :: row Kd.string 9 w0.heap.size (.slice A_19 ((g.moves.map txt).length) c_20) (g.moves.map txt) F_21 :: blk g_11 #[.int .i64 0, .int .i64 0, .int .i64 0] 43 :: blk g_3 #[.int .i64 0, .int .i64 0, .int .i64 0] 43 :: blk g_1 #[.slice A0 g.f.length c0, .slice A1 g.s.length c1, .slice A2 g.r.length c2, .int .i64 g.t, .int .i64 g.p] 31 :: cs)) (Hp w0 (blk g_42 #[.int .i64 ((fateF (g.make x)).pts), .int .i64 ((fateF (g.make x)).games), .int .i64 ((fateF (g.make x)).longest)] 43 :: memoC Tryz.prog 9 b ((n + sumC costF g (g.moves.take i)) + costF (g.make x)) fateGood :: row k53 53 w0.heap.size (.slice A_31 (((g.make x).f).length) c_32) ((g.make x).f) F_33 :: row k53 53 w0.heap.size (.slice A_34 (((g.make x).s).length) c_35) ((g.make x).s) F_36 :: row (Kd.int .i64) 3 w0.heap.size (.slice A_37 (((g.make x).r).length) c_38) ((g.make x).r) F_39 :: blk g_14 #[.int .i64 ((foldFt fateF g (g.moves.take i) 0 ⟨0, 0, 0⟩).pts), .int .i64 ((foldFt fateF g (g.moves.take i) 0 ⟨0, 0, 0⟩).games), .int .i64 ((foldFt fateF g (g.moves.take i) 0 ⟨0, 0, 0⟩).longest)] 43 :: row Kd.string 9 w0.heap.size (.slice A_19 ((g.moves.map txt).length) c_20) (g.moves.map txt) F_21 :: blk g_11 #[.int .i64 0, .int .i64 0, .int .i64 0] 43 :: blk g_3 #[.int .i64 0, .int .i64 0, .int .i64 0] 43 :: blk g_1 #[.slice A0 g.f.length c0, .slice A1 g.s.length c1, .slice A2 g.r.length c2, .int .i64 g.t, .int .i64 g.p] 31 :: cs)) (fun W h => h.take [0, 1, 2, 3, 4, 6, 7, 8, 9] 10 (by decide) (by simp)) (by kernel_rfl) (by kernel_rfl) (fun d _ _ _ _ h => by cases d <;> exact h) (fun W h => h.drew) hp ?_
       refine preI_read rfl ?_
       refine sxq_val 66 (.pointer (some ⟨g_14, 1, none⟩)) (by rfl) (fun W _ => (by kernel_rfl)) ?_
       refine sxq_nil ?_
       refine preI_read rfl ?_
       refine sxq_val 68 (.pointer (some ⟨g_42, 1, none⟩)) (by rfl) (fun W _ => (by kernel_rfl)) ?_
       refine sxq_nil ?_
       refine preI_read rfl ?_
       refine sxq_val 71 (.pointer (some ⟨g_14, 2, none⟩)) (by rfl) (fun W _ => (by kernel_rfl)) ?_
       refine sxq_nil ?_
       refine preI_read rfl ?_
       refine sxq_val 73 (.pointer (some ⟨g_42, 2, none⟩)) (by rfl) (fun W _ => (by kernel_rfl)) ?_
       refine sxq_nil ?_
       refine preI_nil ?_
       intro W_76 hp
       refine treeI_rd rfl ?_
       refine sxq_val 69 (.int .i64 ((fateF (g.make x)).games)) (by rfl) (fun W hp => (ld1 (t := 3) (p := (.tmp 68)) (by rfl) (by rfl) (by kernel_rfl) (hp.cell 0 (by rfl) 1 _ (by rfl)))) ?_
       refine sxq_nil ?_
       refine treeI_rd rfl ?_
       refine sxq_val 74 (.int .i64 ((fateF (g.make x)).longest)) (by rfl) (fun W hp => (ld1 (t := 3) (p := (.tmp 73)) (by rfl) (by rfl) (by kernel_rfl) (hp.cell 0 (by rfl) 2 _ (by rfl)))) ?_
       refine sxq_nil ?_
       refine treeI_rd rfl ?_
       refine sxq_val 75 (.int .i64 ((fateF (g.make x)).longest + 1)) (by rfl) (fun W hp => (wr_ok (by omega) (by kernel_rfl))) ?_
       refine sxq_nil ?_
       refine treeI_alt rfl ?_ ?_
       ·
        refine sx_rd 67 (.int .i64 ((foldFt fateF g (g.moves.take i) 0 ⟨0, 0, 0⟩).games)) (by rfl) (ld1 (t := 3) (p := (.tmp 66)) (by rfl) (by rfl) (by kernel_rfl) (hp.cell 5 (by rfl) 1 _ (by rfl))) ?_
        refine step_fin (hp.take [0, 1, 2, 3, 4, 6, 7, 8, 9] 10 (by decide) (by simp)) ?_
        refine treeI_rd rfl ?_
        refine sxq_val 70 (.int .i64 ((foldFt fateF g (g.moves.take i) 0 ⟨0, 0, 0⟩).games + (fateF (g.make x)).games)) (by rfl) (fun W hp => (wr_ok (by omega) (by kernel_rfl))) ?_
        refine sxq_nil ?_
        refine treeI_ev rfl ?_
        refine sx_rd 72 (.int .i64 ((foldFt fateF g (g.moves.take i) 0 ⟨0, 0, 0⟩).longest)) (by rfl) (ld1 (t := 3) (p := (.tmp 71)) (by rfl) (by rfl) (by kernel_rfl) (hp.cell 5 (by rfl) 2 _ (by rfl))) ?_
        refine step_fin (hp.take [0, 1, 2, 3, 4, 6, 7, 8, 9] 10 (by decide) (by simp)) ?_
        refine treeI_rd rfl ?_
        refine sxq_val 76 (.int .i64 (mx ((foldFt fateF g (g.moves.take i) 0 ⟨0, 0, 0⟩).longest) ((fateF (g.make x)).longest + 1))) (by rfl) (fun W hp => (by kernel_rfl)) ?_
        refine sxq_nil ?_
        refine treeI_rd rfl ?_
        refine sxq_val 77 (.pointer (some ⟨g_14, 1, none⟩)) (by rfl) (fun W hp => (by kernel_rfl)) ?_
        refine sxq_nil ?_
        refine treeI_ev rfl ?_
        refine sx_store (t := 3) (p := (.tmp 77)) (x := (.tmp 70)) (by rfl) (by rfl) 5 (by rfl) 1 [.int .i64 ((foldFt fateF g (g.moves.take i) 0 ⟨0, 0, 0⟩).games + (fateF (g.make x)).games)] (by rfl) (by rfl) (by kernel_rfl) (by simp [Value.oneCell']) (by show 2 ≤ 3; omega) #[.int .i64 ((foldFt fateF g (g.moves.take i) 0 ⟨0, 0, 0⟩).pts), .int .i64 ((foldFt fateF g (g.moves.take i) 0 ⟨0, 0, 0⟩).games + (fateF (g.make x)).games), .int .i64 ((foldFt fateF g (g.moves.take i) 0 ⟨0, 0, 0⟩).longest)] (by rfl) hp ?_
        intro W_77 hp; simp only [List.set_cons_succ, List.set_cons_zero] at hp
        refine step_fin (hp.take [0, 1, 2, 3, 4, 6, 7, 8, 9] 10 (by decide) (by simp)) ?_
        refine treeI_rd rfl ?_
        refine sxq_val 78 (.pointer (some ⟨g_14, 2, none⟩)) (by rfl) (fun W hp => (by kernel_rfl)) ?_
        refine sxq_nil ?_
        refine treeI_ev rfl ?_
        refine sx_store (t := 3) (p := (.tmp 78)) (x := (.tmp 76)) (by rfl) (by rfl) 5 (by rfl) 2 [.int .i64 (mx ((foldFt fateF g (g.moves.take i) 0 ⟨0, 0, 0⟩).longest) ((fateF (g.make x)).longest + 1))] (by rfl) (by rfl) (by kernel_rfl) (by simp [Value.oneCell']) (by show 3 ≤ 3; omega) #[.int .i64 ((foldFt fateF g (g.moves.take i) 0 ⟨0, 0, 0⟩).pts), .int .i64 ((foldFt fateF g (g.moves.take i) 0 ⟨0, 0, 0⟩).games + (fateF (g.make x)).games), .int .i64 (mx ((foldFt fateF g (g.moves.take i) 0 ⟨0, 0, 0⟩).longest) ((fateF (g.make x)).longest + 1))] (by rfl) hp ?_
        intro W_78 hp; simp only [List.set_cons_succ, List.set_cons_zero] at hp
        refine step_fin (hp.take [0, 1, 2, 3, 4, 6, 7, 8, 9] 10 (by decide) (by simp)) ?_
        refine treeI_fin ?_
        refine sx_nil ?_
        refine ex_blk_n ?_
        refine ex_then_n ?_
        refine sx_region ?_
        refine sx_rd 79 (.int .i64 ((i : Int) + 1)) (by rfl) (wr_ok (by omega) (by kernel_rfl)) ?_
        refine sx_rd 32 (.int .i64 ((i : Int) + 1)) (by rfl) (by kernel_rfl) ?_
        refine sx_nil ?_
        refine ex_then_n ?_
        have hq_79 : (foldFt fateF g (g.moves.take i) 0 ⟨0, 0, 0⟩).pts = (foldFt fateF g (g.moves.take (i + 1)) 0 ⟨0, 0, 0⟩).pts := by rw [hst]; refine step_neg (fun q => ?_); rcases q with q | ⟨-, q⟩; (have q1 := c_45; simp at q1; omega); (have q2 := c_61; rw [q] at q2; simp at q2)
        rw [hq_79] at hp
        have hq_80 : ((foldFt fateF g (g.moves.take i) 0 ⟨0, 0, 0⟩).games + (fateF (g.make x)).games) = (foldFt fateF g (g.moves.take (i + 1)) 0 ⟨0, 0, 0⟩).games := by rw [hst]; rfl
        rw [hq_80] at hp
        have hq_81 : (mx ((foldFt fateF g (g.moves.take i) 0 ⟨0, 0, 0⟩).longest) ((fateF (g.make x)).longest + 1)) = (foldFt fateF g (g.moves.take (i + 1)) 0 ⟨0, 0, 0⟩).longest := by rw [hst]; rfl
        rw [hq_81] at hp
        have hq_82 : ((n + sumC costF g (g.moves.take i)) + costF (g.make x)) = (n + sumC costF g (g.moves.take (i + 1))) := by rw [hsm]; omega
        rw [hq_82] at hp
        exact ⟨_, (by omega), _, (i + 1), rfl, fr_front [(0, .map (some b)), (3, .pointer (some ⟨g_1, 0, none⟩)), (4, .pointer (some ⟨g_3, 0, none⟩)), (5, .string (mkU (gkey g.f g.s g.r g.t g.p))), (8, .pointer (some ⟨g_14, 0, none⟩)), (30, .slice A_19 ((g.moves.map txt).length) c_20), (31, .int .i64 ((g.moves.map txt).length : Int)), (32, .int .i64 ((i + 1 : Nat) : Int))] ⟨rfl, rfl, rfl, rfl, rfl, rfl, rfl, rfl, trivial⟩, (hp.take [5, 1, 6, 7, 8, 9] 10 (by decide) (by simp)), (by omega)⟩
       refine treeI_alt rfl ?_ ?_
       ·
        refine sx_rd 72 (.int .i64 ((foldFt fateF g (g.moves.take i) 0 ⟨0, 0, 0⟩).longest)) (by rfl) (ld1 (t := 3) (p := (.tmp 71)) (by rfl) (by rfl) (by kernel_rfl) (hp.cell 5 (by rfl) 2 _ (by rfl))) ?_
        refine step_fin (hp.take [0, 1, 2, 3, 4, 6, 7, 8, 9] 10 (by decide) (by simp)) ?_
        refine treeI_rd rfl ?_
        refine sxq_val 76 (.int .i64 (mx ((foldFt fateF g (g.moves.take i) 0 ⟨0, 0, 0⟩).longest) ((fateF (g.make x)).longest + 1))) (by rfl) (fun W hp => (by kernel_rfl)) ?_
        refine sxq_nil ?_
        refine treeI_ev rfl ?_
        refine sx_rd 67 (.int .i64 ((foldFt fateF g (g.moves.take i) 0 ⟨0, 0, 0⟩).games)) (by rfl) (ld1 (t := 3) (p := (.tmp 66)) (by rfl) (by rfl) (by kernel_rfl) (hp.cell 5 (by rfl) 1 _ (by rfl))) ?_
        refine step_fin (hp.take [0, 1, 2, 3, 4, 6, 7, 8, 9] 10 (by decide) (by simp)) ?_
        refine treeI_rd rfl ?_
        refine sxq_val 70 (.int .i64 ((foldFt fateF g (g.moves.take i) 0 ⟨0, 0, 0⟩).games + (fateF (g.make x)).games)) (by rfl) (fun W hp => (wr_ok (by omega) (by kernel_rfl))) ?_
        refine sxq_nil ?_
        refine treeI_rd rfl ?_
        refine sxq_val 77 (.pointer (some ⟨g_14, 1, none⟩)) (by rfl) (fun W hp => (by kernel_rfl)) ?_
        refine sxq_nil ?_
        refine treeI_ev rfl ?_
        refine sx_store (t := 3) (p := (.tmp 77)) (x := (.tmp 70)) (by rfl) (by rfl) 5 (by rfl) 1 [.int .i64 ((foldFt fateF g (g.moves.take i) 0 ⟨0, 0, 0⟩).games + (fateF (g.make x)).games)] (by rfl) (by rfl) (by kernel_rfl) (by simp [Value.oneCell']) (by show 2 ≤ 3; omega) #[.int .i64 ((foldFt fateF g (g.moves.take i) 0 ⟨0, 0, 0⟩).pts), .int .i64 ((foldFt fateF g (g.moves.take i) 0 ⟨0, 0, 0⟩).games + (fateF (g.make x)).games), .int .i64 ((foldFt fateF g (g.moves.take i) 0 ⟨0, 0, 0⟩).longest)] (by rfl) hp ?_
        intro W_83 hp; simp only [List.set_cons_succ, List.set_cons_zero] at hp
        refine step_fin (hp.take [0, 1, 2, 3, 4, 6, 7, 8, 9] 10 (by decide) (by simp)) ?_
        refine treeI_rd rfl ?_
        refine sxq_val 78 (.pointer (some ⟨g_14, 2, none⟩)) (by rfl) (fun W hp => (by kernel_rfl)) ?_
        refine sxq_nil ?_
        refine treeI_ev rfl ?_
        refine sx_store (t := 3) (p := (.tmp 78)) (x := (.tmp 76)) (by rfl) (by rfl) 5 (by rfl) 2 [.int .i64 (mx ((foldFt fateF g (g.moves.take i) 0 ⟨0, 0, 0⟩).longest) ((fateF (g.make x)).longest + 1))] (by rfl) (by rfl) (by kernel_rfl) (by simp [Value.oneCell']) (by show 3 ≤ 3; omega) #[.int .i64 ((foldFt fateF g (g.moves.take i) 0 ⟨0, 0, 0⟩).pts), .int .i64 ((foldFt fateF g (g.moves.take i) 0 ⟨0, 0, 0⟩).games + (fateF (g.make x)).games), .int .i64 (mx ((foldFt fateF g (g.moves.take i) 0 ⟨0, 0, 0⟩).longest) ((fateF (g.make x)).longest + 1))] (by rfl) hp ?_
        intro W_84 hp; simp only [List.set_cons_succ, List.set_cons_zero] at hp
        refine step_fin (hp.take [0, 1, 2, 3, 4, 6, 7, 8, 9] 10 (by decide) (by simp)) ?_
        refine treeI_fin ?_
        refine sx_nil ?_
        refine ex_blk_n ?_
        refine ex_then_n ?_
        refine sx_region ?_
        refine sx_rd 79 (.int .i64 ((i : Int) + 1)) (by rfl) (wr_ok (by omega) (by kernel_rfl)) ?_
        refine sx_rd 32 (.int .i64 ((i : Int) + 1)) (by rfl) (by kernel_rfl) ?_
        refine sx_nil ?_
        refine ex_then_n ?_
        have hq_85 : (foldFt fateF g (g.moves.take i) 0 ⟨0, 0, 0⟩).pts = (foldFt fateF g (g.moves.take (i + 1)) 0 ⟨0, 0, 0⟩).pts := by rw [hst]; refine step_neg (fun q => ?_); rcases q with q | ⟨-, q⟩; (have q1 := c_45; simp at q1; omega); (have q2 := c_61; rw [q] at q2; simp at q2)
        rw [hq_85] at hp
        have hq_86 : ((foldFt fateF g (g.moves.take i) 0 ⟨0, 0, 0⟩).games + (fateF (g.make x)).games) = (foldFt fateF g (g.moves.take (i + 1)) 0 ⟨0, 0, 0⟩).games := by rw [hst]; rfl
        rw [hq_86] at hp
        have hq_87 : (mx ((foldFt fateF g (g.moves.take i) 0 ⟨0, 0, 0⟩).longest) ((fateF (g.make x)).longest + 1)) = (foldFt fateF g (g.moves.take (i + 1)) 0 ⟨0, 0, 0⟩).longest := by rw [hst]; rfl
        rw [hq_87] at hp
        have hq_88 : ((n + sumC costF g (g.moves.take i)) + costF (g.make x)) = (n + sumC costF g (g.moves.take (i + 1))) := by rw [hsm]; omega
        rw [hq_88] at hp
        exact ⟨_, (by omega), _, (i + 1), rfl, fr_front [(0, .map (some b)), (3, .pointer (some ⟨g_1, 0, none⟩)), (4, .pointer (some ⟨g_3, 0, none⟩)), (5, .string (mkU (gkey g.f g.s g.r g.t g.p))), (8, .pointer (some ⟨g_14, 0, none⟩)), (30, .slice A_19 ((g.moves.map txt).length) c_20), (31, .int .i64 ((g.moves.map txt).length : Int)), (32, .int .i64 ((i + 1 : Nat) : Int))] ⟨rfl, rfl, rfl, rfl, rfl, rfl, rfl, rfl, trivial⟩, (hp.take [5, 1, 6, 7, 8, 9] 10 (by decide) (by simp)), (by omega)⟩
       exact treeI_non
     ·
      have c_60p := eq_of_bne_ c_60
      refine sx_region ?_
      refine sx_rd 47 (.int .i64 (i : Int)) (by rfl) (by kernel_rfl) ?_
      refine sx_rd 48 (.bool false) (by rfl) (bv c_45 (by kernel_rfl)) ?_
      refine sx_rd 49 (.bool false) (by rfl) (by kernel_rfl) ?_
      refine sx_want (by rfl) ?_
      refine sx_rd 50 (.pointer (some ⟨g_42, 0, none⟩)) (by rfl) (by kernel_rfl) ?_
      refine sx_want (by rfl) ?_
      refine sx_rd 51 (.int .i64 ((fateF (g.make x)).pts)) (by rfl) (ld1 (t := 3) (p := (.tmp 50)) (by rfl) (by rfl) (by kernel_rfl) (hp.cell 0 (by rfl) 0 _ (by rfl))) ?_
      refine sx_want (by rfl) ?_
      refine sx_rd 52 (.pointer (some ⟨g_14, 0, none⟩)) (by rfl) (by kernel_rfl) ?_
      refine sx_want (by rfl) ?_
      refine sx_rd 53 (.int .i64 ((foldFt fateF g (g.moves.take i) 0 ⟨0, 0, 0⟩).pts)) (by rfl) (ld1 (t := 3) (p := (.tmp 52)) (by rfl) (by rfl) (by kernel_rfl) (hp.cell 5 (by rfl) 0 _ (by rfl))) ?_
      refine sx_want (by rfl) ?_
      refine sx_rd 54 (.bool false) (by rfl) (bv c_60 (by kernel_rfl)) ?_
      refine sx_want (by rfl) ?_
      refine sx_rd 55 (.bool false) (by rfl) (by kernel_rfl) ?_
      refine sx_skip 56 (by rfl) (by rfl) (by rfl) ?_
      refine sx_skip 57 (by rfl) (by rfl) (by rfl) ?_
      refine sx_skip 58 (by rfl) (by rfl) (by rfl) ?_
      refine sx_skip 59 (by rfl) (by rfl) (by rfl) ?_
      refine sx_skip 60 (by rfl) (by rfl) (by rfl) ?_
      refine sx_want (by rfl) ?_
      refine sx_rd 61 (.bool false) (by rfl) (by kernel_rfl) ?_
      refine sx_rd 62 (.bool false) (by rfl) (by kernel_rfl) ?_
      refine sx_nil ?_
      refine ex_then_n ?_
      refine sx_else false (by rfl) rfl ?_
      refine wp_skip ?_
      refine ex_then_n ?_
      refine sx_drawT2 [0, 2, 5, 7] (.rd 3 (.rd 8 (.rd 9 (.alt 1 (.rd 4 (.alt 6 (.rd 10 (.rd 11 (.alt 12 (.rd 13 (.alt 14 (.fin) .non)) .non))) .non)) (.alt 6 (.rd 10 (.alt 1 (.rd 4 (.rd 11 (.alt 12 (.rd 13 (.alt 14 (.fin) .non)) .non))) .non)) (.non)))))) 15 (C := Hp w0 (blk g_42 #[.int .i64 ((fateF (g.make x)).pts), .int .i64 ((fateF (g.make x)).games), .int .i64 ((fateF (g.make x)).longest)] 43 :: memoC Tryz.prog 9 b ((n + sumC costF g (g.moves.take i)) + costF (g.make x)) fateGood :: row k53 53 w0.heap.size (.slice A_31 (((g.make x).f).length) c_32) ((g.make x).f) F_33 :: row k53 53 w0.heap.size (.slice A_34 (((g.make x).s).length) c_35) ((g.make x).s) F_36 :: row (Kd.int .i64) 3 w0.heap.size (.slice A_37 (((g.make x).r).length) c_38) ((g.make x).r) F_39 :: row Kd.string 9 w0.heap.size (.slice A_19 ((g.moves.map txt).length) c_20) (g.moves.map txt) F_21 :: blk g_11 #[.int .i64 0, .int .i64 0, .int .i64 0] 43 :: blk g_3 #[.int .i64 0, .int .i64 0, .int .i64 0] 43 :: blk g_1 #[.slice A0 g.f.length c0, .slice A1 g.s.length c1, .slice A2 g.r.length c2, .int .i64 g.t, .int .i64 g.p] 31 :: cs)) (Hp w0 (blk g_42 #[.int .i64 ((fateF (g.make x)).pts), .int .i64 ((fateF (g.make x)).games), .int .i64 ((fateF (g.make x)).longest)] 43 :: memoC Tryz.prog 9 b ((n + sumC costF g (g.moves.take i)) + costF (g.make x)) fateGood :: row k53 53 w0.heap.size (.slice A_31 (((g.make x).f).length) c_32) ((g.make x).f) F_33 :: row k53 53 w0.heap.size (.slice A_34 (((g.make x).s).length) c_35) ((g.make x).s) F_36 :: row (Kd.int .i64) 3 w0.heap.size (.slice A_37 (((g.make x).r).length) c_38) ((g.make x).r) F_39 :: blk g_14 #[.int .i64 ((foldFt fateF g (g.moves.take i) 0 ⟨0, 0, 0⟩).pts), .int .i64 ((foldFt fateF g (g.moves.take i) 0 ⟨0, 0, 0⟩).games), .int .i64 ((foldFt fateF g (g.moves.take i) 0 ⟨0, 0, 0⟩).longest)] 43 :: row Kd.string 9 w0.heap.size (.slice A_19 ((g.moves.map txt).length) c_20) (g.moves.map txt) F_21 :: blk g_11 #[.int .i64 0, .int .i64 0, .int .i64 0] 43 :: blk g_3 #[.int .i64 0, .int .i64 0, .int .i64 0] 43 :: blk g_1 #[.slice A0 g.f.length c0, .slice A1 g.s.length c1, .slice A2 g.r.length c2, .int .i64 g.t, .int .i64 g.p] 31 :: cs)) (fun W h => h.take [0, 1, 2, 3, 4, 6, 7, 8, 9] 10 (by decide) (by simp)) (by kernel_rfl) (by kernel_rfl) (fun d _ _ _ _ h => by cases d <;> exact h) (fun W h => h.drew) hp ?_
      refine preI_read rfl ?_
      refine sxq_val 66 (.pointer (some ⟨g_14, 1, none⟩)) (by rfl) (fun W _ => (by kernel_rfl)) ?_
      refine sxq_nil ?_
      refine preI_read rfl ?_
      refine sxq_val 68 (.pointer (some ⟨g_42, 1, none⟩)) (by rfl) (fun W _ => (by kernel_rfl)) ?_
      refine sxq_nil ?_
      refine preI_read rfl ?_
      refine sxq_val 71 (.pointer (some ⟨g_14, 2, none⟩)) (by rfl) (fun W _ => (by kernel_rfl)) ?_
      refine sxq_nil ?_
      refine preI_read rfl ?_
      refine sxq_val 73 (.pointer (some ⟨g_42, 2, none⟩)) (by rfl) (fun W _ => (by kernel_rfl)) ?_
      refine sxq_nil ?_
      refine preI_nil ?_
      intro W_89 hp
      refine treeI_rd rfl ?_
      refine sxq_val 69 (.int .i64 ((fateF (g.make x)).games)) (by rfl) (fun W hp => (ld1 (t := 3) (p := (.tmp 68)) (by rfl) (by rfl) (by kernel_rfl) (hp.cell 0 (by rfl) 1 _ (by rfl)))) ?_
      refine sxq_nil ?_
      refine treeI_rd rfl ?_
      refine sxq_val 74 (.int .i64 ((fateF (g.make x)).longest)) (by rfl) (fun W hp => (ld1 (t := 3) (p := (.tmp 73)) (by rfl) (by rfl) (by kernel_rfl) (hp.cell 0 (by rfl) 2 _ (by rfl)))) ?_
      refine sxq_nil ?_
      refine treeI_rd rfl ?_
      refine sxq_val 75 (.int .i64 ((fateF (g.make x)).longest + 1)) (by rfl) (fun W hp => (wr_ok (by omega) (by kernel_rfl))) ?_
      refine sxq_nil ?_
      refine treeI_alt rfl ?_ ?_
      ·
       refine sx_rd 67 (.int .i64 ((foldFt fateF g (g.moves.take i) 0 ⟨0, 0, 0⟩).games)) (by rfl) (ld1 (t := 3) (p := (.tmp 66)) (by rfl) (by rfl) (by kernel_rfl) (hp.cell 5 (by rfl) 1 _ (by rfl))) ?_
       refine step_fin (hp.take [0, 1, 2, 3, 4, 6, 7, 8, 9] 10 (by decide) (by simp)) ?_
       refine treeI_rd rfl ?_
       refine sxq_val 70 (.int .i64 ((foldFt fateF g (g.moves.take i) 0 ⟨0, 0, 0⟩).games + (fateF (g.make x)).games)) (by rfl) (fun W hp => (wr_ok (by omega) (by kernel_rfl))) ?_
       refine sxq_nil ?_
       refine treeI_ev rfl ?_
       refine sx_rd 72 (.int .i64 ((foldFt fateF g (g.moves.take i) 0 ⟨0, 0, 0⟩).longest)) (by rfl) (ld1 (t := 3) (p := (.tmp 71)) (by rfl) (by rfl) (by kernel_rfl) (hp.cell 5 (by rfl) 2 _ (by rfl))) ?_
       refine step_fin (hp.take [0, 1, 2, 3, 4, 6, 7, 8, 9] 10 (by decide) (by simp)) ?_
       refine treeI_rd rfl ?_
       refine sxq_val 76 (.int .i64 (mx ((foldFt fateF g (g.moves.take i) 0 ⟨0, 0, 0⟩).longest) ((fateF (g.make x)).longest + 1))) (by rfl) (fun W hp => (by kernel_rfl)) ?_
       refine sxq_nil ?_
       refine treeI_rd rfl ?_
       refine sxq_val 77 (.pointer (some ⟨g_14, 1, none⟩)) (by rfl) (fun W hp => (by kernel_rfl)) ?_
       refine sxq_nil ?_
       refine treeI_ev rfl ?_
       refine sx_store (t := 3) (p := (.tmp 77)) (x := (.tmp 70)) (by rfl) (by rfl) 5 (by rfl) 1 [.int .i64 ((foldFt fateF g (g.moves.take i) 0 ⟨0, 0, 0⟩).games + (fateF (g.make x)).games)] (by rfl) (by rfl) (by kernel_rfl) (by simp [Value.oneCell']) (by show 2 ≤ 3; omega) #[.int .i64 ((foldFt fateF g (g.moves.take i) 0 ⟨0, 0, 0⟩).pts), .int .i64 ((foldFt fateF g (g.moves.take i) 0 ⟨0, 0, 0⟩).games + (fateF (g.make x)).games), .int .i64 ((foldFt fateF g (g.moves.take i) 0 ⟨0, 0, 0⟩).longest)] (by rfl) hp ?_
       intro W_90 hp; simp only [List.set_cons_succ, List.set_cons_zero] at hp
       refine step_fin (hp.take [0, 1, 2, 3, 4, 6, 7, 8, 9] 10 (by decide) (by simp)) ?_
       refine treeI_rd rfl ?_
       refine sxq_val 78 (.pointer (some ⟨g_14, 2, none⟩)) (by rfl) (fun W hp => (by kernel_rfl)) ?_
       refine sxq_nil ?_
       refine treeI_ev rfl ?_
       refine sx_store (t := 3) (p := (.tmp 78)) (x := (.tmp 76)) (by rfl) (by rfl) 5 (by rfl) 2 [.int .i64 (mx ((foldFt fateF g (g.moves.take i) 0 ⟨0, 0, 0⟩).longest) ((fateF (g.make x)).longest + 1))] (by rfl) (by rfl) (by kernel_rfl) (by simp [Value.oneCell']) (by show 3 ≤ 3; omega) #[.int .i64 ((foldFt fateF g (g.moves.take i) 0 ⟨0, 0, 0⟩).pts), .int .i64 ((foldFt fateF g (g.moves.take i) 0 ⟨0, 0, 0⟩).games + (fateF (g.make x)).games), .int .i64 (mx ((foldFt fateF g (g.moves.take i) 0 ⟨0, 0, 0⟩).longest) ((fateF (g.make x)).longest + 1))] (by rfl) hp ?_
       intro W_91 hp; simp only [List.set_cons_succ, List.set_cons_zero] at hp
       refine step_fin (hp.take [0, 1, 2, 3, 4, 6, 7, 8, 9] 10 (by decide) (by simp)) ?_
       refine treeI_fin ?_
       refine sx_nil ?_
       refine ex_blk_n ?_
       refine ex_then_n ?_
       refine sx_region ?_
       refine sx_rd 79 (.int .i64 ((i : Int) + 1)) (by rfl) (wr_ok (by omega) (by kernel_rfl)) ?_
       refine sx_rd 32 (.int .i64 ((i : Int) + 1)) (by rfl) (by kernel_rfl) ?_
       refine sx_nil ?_
       refine ex_then_n ?_
       have hq_92 : (foldFt fateF g (g.moves.take i) 0 ⟨0, 0, 0⟩).pts = (foldFt fateF g (g.moves.take (i + 1)) 0 ⟨0, 0, 0⟩).pts := by rw [hst]; refine step_neg (fun q => ?_); rcases q with q | ⟨q, -⟩; (have q1 := c_45; simp at q1; omega); (have q2 := c_60; simp at q2; exact q q2)
       rw [hq_92] at hp
       have hq_93 : ((foldFt fateF g (g.moves.take i) 0 ⟨0, 0, 0⟩).games + (fateF (g.make x)).games) = (foldFt fateF g (g.moves.take (i + 1)) 0 ⟨0, 0, 0⟩).games := by rw [hst]; rfl
       rw [hq_93] at hp
       have hq_94 : (mx ((foldFt fateF g (g.moves.take i) 0 ⟨0, 0, 0⟩).longest) ((fateF (g.make x)).longest + 1)) = (foldFt fateF g (g.moves.take (i + 1)) 0 ⟨0, 0, 0⟩).longest := by rw [hst]; rfl
       rw [hq_94] at hp
       have hq_95 : ((n + sumC costF g (g.moves.take i)) + costF (g.make x)) = (n + sumC costF g (g.moves.take (i + 1))) := by rw [hsm]; omega
       rw [hq_95] at hp
       exact ⟨_, (by omega), _, (i + 1), rfl, fr_front [(0, .map (some b)), (3, .pointer (some ⟨g_1, 0, none⟩)), (4, .pointer (some ⟨g_3, 0, none⟩)), (5, .string (mkU (gkey g.f g.s g.r g.t g.p))), (8, .pointer (some ⟨g_14, 0, none⟩)), (30, .slice A_19 ((g.moves.map txt).length) c_20), (31, .int .i64 ((g.moves.map txt).length : Int)), (32, .int .i64 ((i + 1 : Nat) : Int))] ⟨rfl, rfl, rfl, rfl, rfl, rfl, rfl, rfl, trivial⟩, (hp.take [5, 1, 6, 7, 8, 9] 10 (by decide) (by simp)), (by omega)⟩
      refine treeI_alt rfl ?_ ?_
      ·
       refine sx_rd 72 (.int .i64 ((foldFt fateF g (g.moves.take i) 0 ⟨0, 0, 0⟩).longest)) (by rfl) (ld1 (t := 3) (p := (.tmp 71)) (by rfl) (by rfl) (by kernel_rfl) (hp.cell 5 (by rfl) 2 _ (by rfl))) ?_
       refine step_fin (hp.take [0, 1, 2, 3, 4, 6, 7, 8, 9] 10 (by decide) (by simp)) ?_
       refine treeI_rd rfl ?_
       refine sxq_val 76 (.int .i64 (mx ((foldFt fateF g (g.moves.take i) 0 ⟨0, 0, 0⟩).longest) ((fateF (g.make x)).longest + 1))) (by rfl) (fun W hp => (by kernel_rfl)) ?_
       refine sxq_nil ?_
       refine treeI_ev rfl ?_
       refine sx_rd 67 (.int .i64 ((foldFt fateF g (g.moves.take i) 0 ⟨0, 0, 0⟩).games)) (by rfl) (ld1 (t := 3) (p := (.tmp 66)) (by rfl) (by rfl) (by kernel_rfl) (hp.cell 5 (by rfl) 1 _ (by rfl))) ?_
       refine step_fin (hp.take [0, 1, 2, 3, 4, 6, 7, 8, 9] 10 (by decide) (by simp)) ?_
       refine treeI_rd rfl ?_
       refine sxq_val 70 (.int .i64 ((foldFt fateF g (g.moves.take i) 0 ⟨0, 0, 0⟩).games + (fateF (g.make x)).games)) (by rfl) (fun W hp => (wr_ok (by omega) (by kernel_rfl))) ?_
       refine sxq_nil ?_
       refine treeI_rd rfl ?_
       refine sxq_val 77 (.pointer (some ⟨g_14, 1, none⟩)) (by rfl) (fun W hp => (by kernel_rfl)) ?_
       refine sxq_nil ?_
       refine treeI_ev rfl ?_
       refine sx_store (t := 3) (p := (.tmp 77)) (x := (.tmp 70)) (by rfl) (by rfl) 5 (by rfl) 1 [.int .i64 ((foldFt fateF g (g.moves.take i) 0 ⟨0, 0, 0⟩).games + (fateF (g.make x)).games)] (by rfl) (by rfl) (by kernel_rfl) (by simp [Value.oneCell']) (by show 2 ≤ 3; omega) #[.int .i64 ((foldFt fateF g (g.moves.take i) 0 ⟨0, 0, 0⟩).pts), .int .i64 ((foldFt fateF g (g.moves.take i) 0 ⟨0, 0, 0⟩).games + (fateF (g.make x)).games), .int .i64 ((foldFt fateF g (g.moves.take i) 0 ⟨0, 0, 0⟩).longest)] (by rfl) hp ?_
       intro W_96 hp; simp only [List.set_cons_succ, List.set_cons_zero] at hp
       refine step_fin (hp.take [0, 1, 2, 3, 4, 6, 7, 8, 9] 10 (by decide) (by simp)) ?_
       refine treeI_rd rfl ?_
       refine sxq_val 78 (.pointer (some ⟨g_14, 2, none⟩)) (by rfl) (fun W hp => (by kernel_rfl)) ?_
       refine sxq_nil ?_
       refine treeI_ev rfl ?_
       refine sx_store (t := 3) (p := (.tmp 78)) (x := (.tmp 76)) (by rfl) (by rfl) 5 (by rfl) 2 [.int .i64 (mx ((foldFt fateF g (g.moves.take i) 0 ⟨0, 0, 0⟩).longest) ((fateF (g.make x)).longest + 1))] (by rfl) (by rfl) (by kernel_rfl) (by simp [Value.oneCell']) (by show 3 ≤ 3; omega) #[.int .i64 ((foldFt fateF g (g.moves.take i) 0 ⟨0, 0, 0⟩).pts), .int .i64 ((foldFt fateF g (g.moves.take i) 0 ⟨0, 0, 0⟩).games + (fateF (g.make x)).games), .int .i64 (mx ((foldFt fateF g (g.moves.take i) 0 ⟨0, 0, 0⟩).longest) ((fateF (g.make x)).longest + 1))] (by rfl) hp ?_
       intro W_97 hp; simp only [List.set_cons_succ, List.set_cons_zero] at hp
       refine step_fin (hp.take [0, 1, 2, 3, 4, 6, 7, 8, 9] 10 (by decide) (by simp)) ?_
       refine treeI_fin ?_
       refine sx_nil ?_
       refine ex_blk_n ?_
       refine ex_then_n ?_
       refine sx_region ?_
       refine sx_rd 79 (.int .i64 ((i : Int) + 1)) (by rfl) (wr_ok (by omega) (by kernel_rfl)) ?_
       refine sx_rd 32 (.int .i64 ((i : Int) + 1)) (by rfl) (by kernel_rfl) ?_
       refine sx_nil ?_
       refine ex_then_n ?_
       have hq_98 : (foldFt fateF g (g.moves.take i) 0 ⟨0, 0, 0⟩).pts = (foldFt fateF g (g.moves.take (i + 1)) 0 ⟨0, 0, 0⟩).pts := by rw [hst]; refine step_neg (fun q => ?_); rcases q with q | ⟨q, -⟩; (have q1 := c_45; simp at q1; omega); (have q2 := c_60; simp at q2; exact q q2)
       rw [hq_98] at hp
       have hq_99 : ((foldFt fateF g (g.moves.take i) 0 ⟨0, 0, 0⟩).games + (fateF (g.make x)).games) = (foldFt fateF g (g.moves.take (i + 1)) 0 ⟨0, 0, 0⟩).games := by rw [hst]; rfl
       rw [hq_99] at hp
       have hq_100 : (mx ((foldFt fateF g (g.moves.take i) 0 ⟨0, 0, 0⟩).longest) ((fateF (g.make x)).longest + 1)) = (foldFt fateF g (g.moves.take (i + 1)) 0 ⟨0, 0, 0⟩).longest := by rw [hst]; rfl
       rw [hq_100] at hp
       have hq_101 : ((n + sumC costF g (g.moves.take i)) + costF (g.make x)) = (n + sumC costF g (g.moves.take (i + 1))) := by rw [hsm]; omega
       rw [hq_101] at hp
       exact ⟨_, (by omega), _, (i + 1), rfl, fr_front [(0, .map (some b)), (3, .pointer (some ⟨g_1, 0, none⟩)), (4, .pointer (some ⟨g_3, 0, none⟩)), (5, .string (mkU (gkey g.f g.s g.r g.t g.p))), (8, .pointer (some ⟨g_14, 0, none⟩)), (30, .slice A_19 ((g.moves.map txt).length) c_20), (31, .int .i64 ((g.moves.map txt).length : Int)), (32, .int .i64 ((i + 1 : Nat) : Int))] ⟨rfl, rfl, rfl, rfl, rfl, rfl, rfl, rfl, trivial⟩, (hp.take [5, 1, 6, 7, 8, 9] 10 (by decide) (by simp)), (by omega)⟩
      exact treeI_non
   ·
    have c_24p := of_decide_eq_false c_24
    refine wp_exit ?_
    refine ex_then_e (ex_then_e (ex_blk_here ?_))
    refine ex_then_n ?_
    refine wp_seq ?_
    refine sx_region ?_
    refine sx_rd 80 (.map (some b)) (by rfl) (by kernel_rfl) ?_
    refine sx_rd 81 (.string (mkU (gkey g.f g.s g.r g.t g.p))) (by rfl) (by kernel_rfl) ?_
    refine sx_rd 82 (.agg #[.int .i64 ((foldFt fateF g (g.moves.take i) 0 ⟨0, 0, 0⟩).pts), .int .i64 ((foldFt fateF g (g.moves.take i) 0 ⟨0, 0, 0⟩).games), .int .i64 ((foldFt fateF g (g.moves.take i) 0 ⟨0, 0, 0⟩).longest)]) (by rfl) (ldn (t := 43) (p := (.tmp 8)) (by rfl) (by rfl) (by kernel_rfl) (by kernel_rfl) (by kernel_rfl) (hp.at_ 0 _ (by rfl))) ?_
    have hiN : i = g.moves.length := by omega
    have hFi : (foldFt fateF g (g.moves.take i) 0 ⟨0, 0, 0⟩) = fateF g := by rw [hiN, List.take_length]; exact (fateF_step ho hov).symm
    have hSi : sumC costF g (g.moves.take i) + 1 = costF g := by rw [hiN, List.take_length]; have := costF_step ho hov; omega
    refine sx_mput (n := (n + sumC costF g (g.moves.take i))) (by rfl) (by rfl) (by rfl) (by rfl) (by rfl) (string_keyed Tryz.underlying9) Tryz.underlying45 (by simp only [maxLen]; omega) (fate_key Tryz.underlying9 g) trivial (fateGood_put ho hr hFi) 1 (by rfl) hp ?_
    intro W_102 hp; simp only [List.set_cons_succ, List.set_cons_zero] at hp
    refine sx_nil ?_
    refine ex_then_n ?_
    refine wp_seq ?_
    refine sx_region ?_
    refine sx_rd 83 (.agg #[.int .i64 ((foldFt fateF g (g.moves.take i) 0 ⟨0, 0, 0⟩).pts), .int .i64 ((foldFt fateF g (g.moves.take i) 0 ⟨0, 0, 0⟩).games), .int .i64 ((foldFt fateF g (g.moves.take i) 0 ⟨0, 0, 0⟩).longest)]) (by rfl) (ldn (t := 43) (p := (.tmp 8)) (by rfl) (by rfl) (by kernel_rfl) (by kernel_rfl) (by kernel_rfl) (hp.at_ 0 _ (by rfl))) ?_
    refine sx_store (t := 43) (p := (.tmp 4)) (x := (.tmp 83)) (by rfl) (by rfl) 4 (by rfl) 0 [.int .i64 ((foldFt fateF g (g.moves.take i) 0 ⟨0, 0, 0⟩).pts), .int .i64 ((foldFt fateF g (g.moves.take i) 0 ⟨0, 0, 0⟩).games), .int .i64 ((foldFt fateF g (g.moves.take i) 0 ⟨0, 0, 0⟩).longest)] (by rfl) (by rfl) (by kernel_rfl) (by simp [Value.oneCell']) (by show 3 ≤ 3; omega) #[.int .i64 ((foldFt fateF g (g.moves.take i) 0 ⟨0, 0, 0⟩).pts), .int .i64 ((foldFt fateF g (g.moves.take i) 0 ⟨0, 0, 0⟩).games), .int .i64 ((foldFt fateF g (g.moves.take i) 0 ⟨0, 0, 0⟩).longest)] (by rfl) hp ?_
    intro W_103 hp; simp only [List.set_cons_succ, List.set_cons_zero] at hp
    refine sx_nil ?_
    refine ex_then_n ?_
    refine wp_ret ?_
    refine sx_end (.agg #[.int .i64 ((foldFt fateF g (g.moves.take i) 0 ⟨0, 0, 0⟩).pts), .int .i64 ((foldFt fateF g (g.moves.take i) 0 ⟨0, 0, 0⟩).games), .int .i64 ((foldFt fateF g (g.moves.take i) 0 ⟨0, 0, 0⟩).longest)]) (resc (by rfl) (by rfl) (by kernel_rfl) (by kernel_rfl) (hp.at_ 4 _ (by rfl))) ?_
    exact ⟨by rw [← hFi]; rfl, Hp.memo_up (hp.take [1] 6 (by decide) (by simp)) (by have := costF_pos g; omega)⟩
  ·
   obtain rfl : v = .agg #[.int .i64 ((fateF g).pts), .int .i64 ((fateF g).games), .int .i64 ((fateF g).longest)] := hv g ho hr rfl
   refine sx_rd 20 (.tuple #[.agg #[.int .i64 ((fateF g).pts), .int .i64 ((fateF g).games), .int .i64 ((fateF g).longest)], .bool true]) (by rfl) (by kernel_rfl) ?_
   refine sx_rd 24 (.agg #[.int .i64 ((fateF g).pts), .int .i64 ((fateF g).games), .int .i64 ((fateF g).longest)]) (by rfl) (by kernel_rfl) ?_
   refine sx_rd 25 (.bool true) (by rfl) (by kernel_rfl) ?_
   refine sx_box 6 hp #[.int .i64 0, .int .i64 0, .int .i64 0] 43 (by rfl) (fun W => by kernel_rfl) ?_
   intro g_104 W_105 hp
   refine sx_store (t := 43) (p := (.tmp 6)) (x := (.tmp 24)) (by rfl) (by rfl) 0 (by rfl) 0 [.int .i64 ((fateF g).pts), .int .i64 ((fateF g).games), .int .i64 ((fateF g).longest)] (by rfl) (by rfl) (by kernel_rfl) (by simp [Value.oneCell']) (by show 3 ≤ 3; omega) #[.int .i64 ((fateF g).pts), .int .i64 ((fateF g).games), .int .i64 ((fateF g).longest)] (by rfl) hp ?_
   intro W_106 hp; simp only [List.set_cons_succ, List.set_cons_zero] at hp
   refine sx_rd 7 (.bool true) (by rfl) (by kernel_rfl) ?_
   refine sx_nil ?_
   refine ex_then_n ?_
   refine wp_seq ?_
   refine sx_region ?_
   refine sx_rd 26 (.bool true) (by rfl) (by kernel_rfl) ?_
   refine sx_nil ?_
   refine ex_then_n ?_
   refine sx_then true (by rfl) rfl ?_
   refine wp_seq ?_
   refine sx_region ?_
   refine sx_rd 27 (.agg #[.int .i64 ((fateF g).pts), .int .i64 ((fateF g).games), .int .i64 ((fateF g).longest)]) (by rfl) (ldn (t := 43) (p := (.tmp 6)) (by rfl) (by rfl) (by kernel_rfl) (by kernel_rfl) (by kernel_rfl) (hp.at_ 0 _ (by rfl))) ?_
   refine sx_store (t := 43) (p := (.tmp 4)) (x := (.tmp 27)) (by rfl) (by rfl) 1 (by rfl) 0 [.int .i64 ((fateF g).pts), .int .i64 ((fateF g).games), .int .i64 ((fateF g).longest)] (by rfl) (by rfl) (by kernel_rfl) (by simp [Value.oneCell']) (by show 3 ≤ 3; omega) #[.int .i64 ((fateF g).pts), .int .i64 ((fateF g).games), .int .i64 ((fateF g).longest)] (by rfl) hp ?_
   intro W_107 hp; simp only [List.set_cons_succ, List.set_cons_zero] at hp
   refine sx_nil ?_
   refine ex_then_n ?_
   refine wp_ret ?_
   refine ex_then_r ?_
   refine sx_end (.agg #[.int .i64 ((fateF g).pts), .int .i64 ((fateF g).games), .int .i64 ((fateF g).longest)]) (resc (by rfl) (by rfl) (by kernel_rfl) (by kernel_rfl) (hp.at_ 1 _ (by rfl))) ?_
   exact ⟨rfl, Hp.memo_up (hp.take [3] 4 (by decide) (by simp)) (by have := costF_pos g; omega)⟩
end Go.Proofs.YtjaojemmbeddfaaGreat.Hd
