/- impl.Game.own, impl.Game.moves, by hand. -/
import Derived.Test.YtkjaahmlnbgnjaaGreatMFitting
import Derived.Test.YtkjaahmlnbgnjaaGreatPGames
import Derived.Test.YtkjaahmlnbgnjaaGreatMSx3
namespace Go.Proofs.YtkjaahmlnbgnjaaGreat.Hd
open Go.RowKit Go.Proofs.YtkjaahmlnbgnjaaGreat.Pure Go.Proofs.YtkjaahmlnbgnjaaGreatW.PrintWords Go.Proofs.YtkjaahmlnbgnjaaGreatW.PrintLast Go.Proofs.YtkjaahmlnbgnjaaGreatW.PrintMore
set_option linter.unusedVariables false
set_option linter.unusedSimpArgs false
theorem fitting_eq {h : List S_Tile} (hb : handB h = true) (r : List Int) (hr : r.length ≤ 2000000) : impl_fitting.f h r = some ((fitTo r (sortT h) (sortT h).length).map txt) := by unfold impl_fitting.f; rw [if_pos ⟨hb, hr⟩]
set_option maxRecDepth 100000 in
set_option maxHeartbeats 40000000 in
theorem gameOwn_sx (A0_0 : Option Addr) (c0_0 : Nat) (l0_0 : List S_Tile) (A0_1 : Option Addr) (c0_1 : Nat) (l0_1 : List S_Tile) (A0_2 : Option Addr) (c0_2 : Nat) (l0_2 : List Int) (a0_3 : Int) (a0_4 : Int) (v : Value) (w : World) (hr0_0 : Kd.C k59 w A0_0 l0_0.length l0_0) (hc0_0 : l0_0.length ≤ c0_0) (hr0_1 : Kd.C k59 w A0_1 l0_1.length l0_1) (hc0_1 : l0_1.length ≤ c0_1) (hr0_2 : Kd.C (Kd.int .i64) w A0_2 l0_2.length l0_2) (hc0_2 : l0_2.length ≤ c0_2) (hv0 : (a0_3 == 0) = true → v = .slice A0_0 l0_0.length c0_0) (hv1 : (a0_3 == 0) = false → v = .slice A0_1 l0_1.length c0_1) :
  Calls Tryz.prog 65 #[.agg #[.slice A0_0 l0_0.length c0_0, .slice A0_1 l0_1.length c0_1, .slice A0_2 l0_2.length c0_2, .int .i64 a0_3, .int .i64 a0_4]] w fun e w' => e = .returned v ∧ Below w.heap.size w w' := by
 obtain ⟨cs, hcs⟩ : ∃ cs, cs = [old w w.heap.size] := ⟨_, rfl⟩
 have hp : Hp w cs w := by rw [hcs]; exact Hp.old_start w
 have hc2 : ∀ W, Hp w cs W → Below w.heap.size w W := fun W h => by rw [hcs] at h; exact h.since 0 _ rfl
 have hC0_0 : ∀ W, Hp w cs W → Kd.C k59 W A0_0 l0_0.length l0_0 := fun W h => Kd.C_below hr0_0 (hc2 W h)
 have hC0_1 : ∀ W, Hp w cs W → Kd.C k59 W A0_1 l0_1.length l0_1 := fun W h => Kd.C_below hr0_1 (hc2 W h)
 have hC0_2 : ∀ W, Hp w cs W → Kd.C (Kd.int .i64) W A0_2 l0_2.length l0_2 := fun W h => Kd.C_below hr0_2 (hc2 W h)
 clear hcs
 refine sx_enter (N := 10) (l := [.agg #[.slice A0_0 l0_0.length c0_0, .slice A0_1 l0_1.length c0_1, .slice A0_2 l0_2.length c0_2, .int .i64 a0_3, .int .i64 a0_4]]) Tryz.func65 rfl rfl rfl ?_
 refine wp_seq ?_
 refine sx_region ?_
 refine sx_box 1 hp #[.slice A0_0 l0_0.length c0_0, .slice A0_1 l0_1.length c0_1, .slice A0_2 l0_2.length c0_2, .int .i64 a0_3, .int .i64 a0_4] 29 (by rfl) (fun W => by kernel_rfl) ?_
 intro g_1 W_2 hp
 refine sx_rd 2 (.slice none 0 0) (by rfl) (by kernel_rfl) ?_
 refine sx_nil ?_
 refine ex_then_n ?_
 refine wp_seq ?_
 refine wp_seq ?_
 refine sx_region ?_
 refine sx_rd 3 (.pointer (some ⟨g_1, 3, none⟩)) (by rfl) (by kernel_rfl) ?_
 refine sx_rd 4 (.int .i64 a0_3) (by rfl) (ld1 (t := 3) (p := (.tmp 3)) (by rfl) (by rfl) (by kernel_rfl) (hp.cell 0 (by rfl) 3 _ (by rfl))) ?_
 refine sx_rd 5 (.bool (a0_3 == 0)) (by rfl) (by kernel_rfl) ?_
 refine sx_nil ?_
 refine ex_then_n ?_
 refine sx_cond (a0_3 == 0) (by rfl) (fun c_3 => ?_) (fun c_3 => ?_)
 ·
  have c_3p := eq_of_beq_ c_3
  refine wp_seq ?_
  refine sx_region ?_
  refine sx_rd 6 (.pointer (some ⟨g_1, 0, none⟩)) (by rfl) (by kernel_rfl) ?_
  refine sx_rd 7 (.slice A0_0 l0_0.length c0_0) (by rfl) (ld1 (t := 27) (p := (.tmp 6)) (by rfl) (by rfl) (by kernel_rfl) (hp.cell 0 (by rfl) 0 _ (by rfl))) ?_
  refine sx_rd 2 (.slice A0_0 l0_0.length c0_0) (by rfl) (by kernel_rfl) ?_
  refine sx_nil ?_
  refine ex_then_n ?_
  refine wp_ret ?_
  refine ex_then_r ?_
  refine sx_end (.slice A0_0 l0_0.length c0_0) (res1 2 (by rfl)) ?_
  exact ⟨congrArg Ending.returned (hv0 c_3).symm, hc2 _ (hp.tail)⟩
 ·
  have c_3p := ne_of_beq_ c_3
  refine wp_skip ?_
  refine ex_then_n ?_
  refine wp_seq ?_
  refine sx_region ?_
  refine sx_rd 8 (.pointer (some ⟨g_1, 1, none⟩)) (by rfl) (by kernel_rfl) ?_
  refine sx_rd 9 (.slice A0_1 l0_1.length c0_1) (by rfl) (ld1 (t := 27) (p := (.tmp 8)) (by rfl) (by rfl) (by kernel_rfl) (hp.cell 0 (by rfl) 1 _ (by rfl))) ?_
  refine sx_rd 2 (.slice A0_1 l0_1.length c0_1) (by rfl) (by kernel_rfl) ?_
  refine sx_nil ?_
  refine ex_then_n ?_
  refine wp_ret ?_
  refine sx_end (.slice A0_1 l0_1.length c0_1) (res1 2 (by rfl)) ?_
  exact ⟨congrArg Ending.returned (hv1 c_3).symm, hc2 _ (hp.tail)⟩
def impl_Game_moves.f (f s : List S_Tile) (r : List Int) (t p : Int) : Option (List ByteArray) := if gmB f s r t p then some ((movesL f s r t p).map txt) else none
set_option maxRecDepth 100000 in
set_option maxHeartbeats 40000000 in
theorem impl_Game_moves.calls (A0_0 : Option Addr) (c0_0 : Nat) (l0_0 : List S_Tile) (A0_1 : Option Addr) (c0_1 : Nat) (l0_1 : List S_Tile) (A0_2 : Option Addr) (c0_2 : Nat) (l0_2 : List Int) (a0_3 : Int) (a0_4 : Int) (r : List ByteArray) (w : World) (hr0_0 : Kd.C k59 w A0_0 l0_0.length l0_0) (hc0_0 : l0_0.length ≤ c0_0) (hr0_1 : Kd.C k59 w A0_1 l0_1.length l0_1) (hc0_1 : l0_1.length ≤ c0_1) (hr0_2 : Kd.C (Kd.int .i64) w A0_2 l0_2.length l0_2) (hc0_2 : l0_2.length ≤ c0_2) (h : impl_Game_moves.f l0_0 l0_1 l0_2 a0_3 a0_4 = some r) :
  Calls Tryz.prog 30 #[.agg #[.slice A0_0 l0_0.length c0_0, .slice A0_1 l0_1.length c0_1, .slice A0_2 l0_2.length c0_2, .int .i64 a0_3, .int .i64 a0_4]] w fun e w' => ∃ v0_ : Value, e = .returned (v0_) ∧ Kd.R Kd.string 9 w' w.heap.size (fun _ => True) v0_ r ∧ Below w.heap.size w w' := by
 unfold impl_Game_moves.f at h
 by_cases hsz : gmB l0_0 l0_1 l0_2 a0_3 a0_4
 case neg => rw [if_neg hsz] at h; cases h
 rw [if_pos hsz] at h
 obtain ⟨⟨hf1, hs1⟩, hz2, ⟨ht0, ht1⟩, hp0, hp1⟩ := hsz
 have hz0 := hand_len hf1
 have hz1 := hand_len hs1
 have hg : handB l0_0 = true ∧ handB l0_1 = true ∧ 0 ≤ a0_3 ∧ a0_3 ≤ 1 := ⟨hf1, hs1, ht0, ht1⟩
 obtain ⟨cs, hcs⟩ : ∃ cs, cs = [old w w.heap.size] := ⟨_, rfl⟩
 have hp : Hp w cs w := by rw [hcs]; exact Hp.old_start w
 have hc2 : ∀ W, Hp w cs W → Below w.heap.size w W := fun W h => by rw [hcs] at h; exact h.since 0 _ rfl
 have hC0_0 : ∀ W, Hp w cs W → Kd.C k59 W A0_0 l0_0.length l0_0 := fun W h => Kd.C_below hr0_0 (hc2 W h)
 have hC0_1 : ∀ W, Hp w cs W → Kd.C k59 W A0_1 l0_1.length l0_1 := fun W h => Kd.C_below hr0_1 (hc2 W h)
 have hC0_2 : ∀ W, Hp w cs W → Kd.C (Kd.int .i64) W A0_2 l0_2.length l0_2 := fun W h => Kd.C_below hr0_2 (hc2 W h)
 clear hcs
 refine sx_enter (N := 17) (l := [.agg #[.slice A0_0 l0_0.length c0_0, .slice A0_1 l0_1.length c0_1, .slice A0_2 l0_2.length c0_2, .int .i64 a0_3, .int .i64 a0_4]]) Tryz.func30 rfl rfl rfl ?_
 refine wp_seq ?_
 refine sx_region ?_
 refine sx_box 1 hp #[.slice A0_0 l0_0.length c0_0, .slice A0_1 l0_1.length c0_1, .slice A0_2 l0_2.length c0_2, .int .i64 a0_3, .int .i64 a0_4] 29 (by rfl) (fun W => by kernel_rfl) ?_
 intro g_1 W_2 hp
 refine sx_rd 2 (.slice none 0 0) (by rfl) (by kernel_rfl) ?_
 refine sx_nil ?_
 refine ex_then_n ?_
 refine wp_seq ?_
 refine wp_seq ?_
 refine sx_region ?_
 refine sx_rd 4 (.agg #[.slice A0_0 l0_0.length c0_0, .slice A0_1 l0_1.length c0_1, .slice A0_2 l0_2.length c0_2, .int .i64 a0_3, .int .i64 a0_4]) (by rfl) (ldn (t := 29) (p := (.tmp 1)) (by rfl) (by rfl) (by kernel_rfl) (by kernel_rfl) (by kernel_rfl) (hp.at_ 0 _ (by rfl))) ?_
 refine sx_call 5 (by rfl) (by kernel_rfl) ((impl_Game_isOver.calls A0_0 c0_0 l0_0 A0_1 c0_1 l0_1 A0_2 c0_2 l0_2 a0_3 a0_4 _ _ (hC0_0 _ hp.tail) hc0_0 (hC0_1 _ hp.tail) hc0_1 (hC0_2 _ hp.tail) hc0_2 (isOver_eq l0_0 l0_1 l0_2 a0_3 a0_4)).mono ?_)
 rintro _ W_3 ⟨rfl, hb⟩
 refine ⟨_, rfl, ?_⟩
 replace hp := hp.below hb
 clear hb
 refine sx_nil ?_
 refine ex_then_n ?_
 refine sx_cond (overB l0_0 l0_1 a0_4) (by rfl) (fun c_4 => ?_) (fun c_4 => ?_)
 ·
  refine wp_seq ?_
  refine sx_region ?_
  refine sx_lit 6 (by rfl) Kd.string w.heap.size 9 ([] : List ByteArray) [] (fun W => by kernel_rfl) (Reps.none _ _) (by simp) hp.size hp ?_
  intro g_5 F_6 W_7 hp hz; clear hz
  refine sx_rd 2 (.slice (some ⟨g_5, 0, none⟩) (([] : List ByteArray).length) (([] : List ByteArray).length)) (by rfl) (by kernel_rfl) ?_
  refine sx_nil ?_
  refine ex_then_n ?_
  refine wp_ret ?_
  refine ex_then_r ?_
  refine sx_end (.slice (some ⟨g_5, 0, none⟩) (([] : List ByteArray).length) (([] : List ByteArray).length)) (res1 2 (by rfl)) ?_
  unfold movesL at h; rw [if_pos (show (overB l0_0 l0_1 a0_4) = true from by have q := c_4; simpa using q)] at h; obtain rfl := Option.some.inj h
  exact ⟨_, rfl, Kd.R_mono (row_R (hp.at_ 0 _ (by rfl))) (fun _ _ => trivial), hc2 _ (hp.tail.tail)⟩
 ·
  refine wp_skip ?_
  refine ex_then_n ?_
  refine wp_seq ?_
  rcases Bool.eq_false_or_eq_true (a0_3 == 0) with c_8 | c_8
  ·
   have c_8p := eq_of_beq_ c_8
   refine sx_drawT [2] (.rd 0 (.rd 3 (.alt 1 (.alt 4 (.rd 5 (.fin)) .non) .non))) 6 (C := Hp w (blk g_1 #[.slice A0_0 l0_0.length c0_0, .slice A0_1 l0_1.length c0_1, .slice A0_2 l0_2.length c0_2, .int .i64 a0_3, .int .i64 a0_4] 29 :: cs)) (by kernel_rfl) (by kernel_rfl) (fun d _ _ _ _ h => by cases d <;> exact h) (fun W h => h.drew) hp ?_
   refine preI_read rfl ?_
   refine sxq_val 9 (.pointer (some ⟨g_1, 2, none⟩)) (by rfl) (fun W _ => (by kernel_rfl)) ?_
   refine sxq_nil ?_
   refine preI_nil ?_
   intro W_9 hp
   refine treeI_rd rfl ?_
   refine sxq_val 7 (.agg #[.slice A0_0 l0_0.length c0_0, .slice A0_1 l0_1.length c0_1, .slice A0_2 l0_2.length c0_2, .int .i64 a0_3, .int .i64 a0_4]) (by rfl) (fun W hp => (ldn (t := 29) (p := (.tmp 1)) (by rfl) (by rfl) (by kernel_rfl) (by kernel_rfl) (by kernel_rfl) (hp.at_ 0 _ (by rfl)))) ?_
   refine sxq_nil ?_
   refine treeI_rd rfl ?_
   refine sxq_val 10 (.slice A0_2 l0_2.length c0_2) (by rfl) (fun W hp => (ld1 (t := 23) (p := (.tmp 9)) (by rfl) (by rfl) (by kernel_rfl) (hp.cell 0 (by rfl) 2 _ (by rfl)))) ?_
   refine sxq_nil ?_
   refine treeI_ev rfl ?_
   refine sx_call 8 (by rfl) (by kernel_rfl) ((gameOwn_sx A0_0 c0_0 l0_0 A0_1 c0_1 l0_1 A0_2 c0_2 l0_2 a0_3 a0_4 (.slice A0_0 l0_0.length c0_0) _ (hC0_0 _ hp.tail) hc0_0 (hC0_1 _ hp.tail) hc0_1 (hC0_2 _ hp.tail) hc0_2 (fun _ => rfl) (fun q => by rw [c_8] at q; cases q)).mono ?_)
   rintro _ W_10 ⟨rfl, hb⟩
   refine ⟨_, rfl, ?_⟩
   replace hp := hp.below hb
   clear hb
   refine step_fin hp ?_
   refine treeI_ev rfl ?_
   refine sx_call 11 (by rfl) (by kernel_rfl) ((impl_fitting.calls A0_0 c0_0 l0_0 A0_2 c0_2 l0_2 _ _ (hC0_0 _ hp.tail) hc0_0 (hC0_2 _ hp.tail) hc0_2 (fitting_eq hg.1 l0_2 (by omega))).mono ?_)
   rintro _ W_16 ⟨v_12, rfl, hR_11, hb⟩
   refine ⟨_, rfl, ?_⟩
   obtain ⟨A_13, c_14, rfl, hcc_c_14, _⟩ := Kd.R_reads hR_11
   obtain ⟨F_15, hp⟩ : ∃ F, Hp w (row Kd.string 9 w.heap.size (.slice A_13 ((fitTo l0_2 (sortT l0_0) (sortT l0_0).length).map txt).length c_14) ((fitTo l0_2 (sortT l0_0) (sortT l0_0).length).map txt) F :: blk g_1 #[.slice A0_0 l0_0.length c0_0, .slice A0_1 l0_1.length c0_1, .slice A0_2 l0_2.length c0_2, .int .i64 a0_3, .int .i64 a0_4] 29 :: cs) _ := ⟨_, Hp.made hp hb hR_11⟩
   refine step_fin hp.tail ?_
   refine treeI_rd rfl ?_
   refine sxq_val 3 (.slice A_13 (((fitTo l0_2 (sortT l0_0) (sortT l0_0).length).map txt).length) c_14) (by rfl) (fun W hp => (by kernel_rfl)) ?_
   refine sxq_nil ?_
   refine treeI_fin ?_
   refine sx_nil ?_
   refine ex_then_n ?_
   refine wp_seq ?_
   refine wp_seq ?_
   refine sx_region ?_
   refine sx_rd 12 (.slice A_13 (((fitTo l0_2 (sortT l0_0) (sortT l0_0).length).map txt).length) c_14) (by rfl) (by kernel_rfl) ?_
   refine sx_rd 13 (.int .i64 (((fitTo l0_2 (sortT l0_0) (sortT l0_0).length).map txt).length : Int)) (by rfl) (by kernel_rfl) ?_
   refine sx_rd 14 (.bool ((((fitTo l0_2 (sortT l0_0) (sortT l0_0).length).map txt).length : Int) == 0)) (by rfl) (by kernel_rfl) ?_
   refine sx_nil ?_
   refine ex_then_n ?_
   refine sx_cond ((((fitTo l0_2 (sortT l0_0) (sortT l0_0).length).map txt).length : Int) == 0) (by rfl) (fun c_17 => ?_) (fun c_17 => ?_)
   ·
    have c_17p := eq_of_beq_ c_17
    refine wp_seq ?_
    refine sx_region ?_
    refine sx_lit 15 (by rfl) Kd.string w.heap.size 9 ([(⟨#[45]⟩ : ByteArray)]) [.string (⟨#[45]⟩ : ByteArray)] (fun W => by kernel_rfl) (Reps.snoc (cs := []) (Reps.none _ _) rfl rfl) (by simp) hp.size hp ?_
    intro g_18 F_19 W_20 hp hz; clear hz
    refine sx_rd 2 (.slice (some ⟨g_18, 0, none⟩) ([(⟨#[45]⟩ : ByteArray)].length) ([(⟨#[45]⟩ : ByteArray)].length)) (by rfl) (by kernel_rfl) ?_
    refine sx_nil ?_
    refine ex_then_n ?_
    refine wp_ret ?_
    refine ex_then_r ?_
    refine sx_end (.slice (some ⟨g_18, 0, none⟩) ([(⟨#[45]⟩ : ByteArray)].length) ([(⟨#[45]⟩ : ByteArray)].length)) (res1 2 (by rfl)) ?_
    have how : ownT l0_0 l0_1 a0_3 = l0_0 := by unfold ownT; rw [if_neg (by have q := c_8; simp at q; omega)]
    unfold movesL at h; rw [if_neg (show ¬ (overB l0_0 l0_1 a0_4) = true from by have q := c_4; simpa using q), how] at h
    have hz := c_17
    simp only [List.length_map] at hz
    rw [if_pos (by simp at hz; simpa using hz)] at h; obtain rfl := Option.some.inj h
    exact ⟨_, rfl, Kd.R_mono (row_R (hp.at_ 0 _ (by rfl))) (fun _ _ => trivial), hc2 _ (hp.tail.tail.tail)⟩
   ·
    have c_17p := ne_of_beq_ c_17
    refine wp_skip ?_
    refine ex_then_n ?_
    refine wp_seq ?_
    refine sx_region ?_
    refine sx_rd 16 (.slice A_13 (((fitTo l0_2 (sortT l0_0) (sortT l0_0).length).map txt).length) c_14) (by rfl) (by kernel_rfl) ?_
    refine sx_rd 2 (.slice A_13 (((fitTo l0_2 (sortT l0_0) (sortT l0_0).length).map txt).length) c_14) (by rfl) (by kernel_rfl) ?_
    refine sx_nil ?_
    refine ex_then_n ?_
    refine wp_ret ?_
    refine sx_end (.slice A_13 (((fitTo l0_2 (sortT l0_0) (sortT l0_0).length).map txt).length) c_14) (res1 2 (by rfl)) ?_
    have how : ownT l0_0 l0_1 a0_3 = l0_0 := by unfold ownT; rw [if_neg (by have q := c_8; simp at q; omega)]
    unfold movesL at h; rw [if_neg (show ¬ (overB l0_0 l0_1 a0_4) = true from by have q := c_4; simpa using q), how] at h
    have hz := c_17
    simp only [List.length_map] at hz
    rw [if_neg (by simp at hz; simpa using hz)] at h; obtain rfl := Option.some.inj h
    exact ⟨_, rfl, Kd.R_mono (row_R (hp.at_ 0 _ (by rfl))) (fun _ _ => trivial), hc2 _ (hp.tail.tail)⟩
  ·
   have c_8p := ne_of_beq_ c_8
   refine sx_drawT [2] (.rd 0 (.rd 3 (.alt 1 (.alt 4 (.rd 5 (.fin)) .non) .non))) 6 (C := Hp w (blk g_1 #[.slice A0_0 l0_0.length c0_0, .slice A0_1 l0_1.length c0_1, .slice A0_2 l0_2.length c0_2, .int .i64 a0_3, .int .i64 a0_4] 29 :: cs)) (by kernel_rfl) (by kernel_rfl) (fun d _ _ _ _ h => by cases d <;> exact h) (fun W h => h.drew) hp ?_
   refine preI_read rfl ?_
   refine sxq_val 9 (.pointer (some ⟨g_1, 2, none⟩)) (by rfl) (fun W _ => (by kernel_rfl)) ?_
   refine sxq_nil ?_
   refine preI_nil ?_
   intro W_21 hp
   refine treeI_rd rfl ?_
   refine sxq_val 7 (.agg #[.slice A0_0 l0_0.length c0_0, .slice A0_1 l0_1.length c0_1, .slice A0_2 l0_2.length c0_2, .int .i64 a0_3, .int .i64 a0_4]) (by rfl) (fun W hp => (ldn (t := 29) (p := (.tmp 1)) (by rfl) (by rfl) (by kernel_rfl) (by kernel_rfl) (by kernel_rfl) (hp.at_ 0 _ (by rfl)))) ?_
   refine sxq_nil ?_
   refine treeI_rd rfl ?_
   refine sxq_val 10 (.slice A0_2 l0_2.length c0_2) (by rfl) (fun W hp => (ld1 (t := 23) (p := (.tmp 9)) (by rfl) (by rfl) (by kernel_rfl) (hp.cell 0 (by rfl) 2 _ (by rfl)))) ?_
   refine sxq_nil ?_
   refine treeI_ev rfl ?_
   refine sx_call 8 (by rfl) (by kernel_rfl) ((gameOwn_sx A0_0 c0_0 l0_0 A0_1 c0_1 l0_1 A0_2 c0_2 l0_2 a0_3 a0_4 (.slice A0_1 l0_1.length c0_1) _ (hC0_0 _ hp.tail) hc0_0 (hC0_1 _ hp.tail) hc0_1 (hC0_2 _ hp.tail) hc0_2 (fun q => by rw [c_8] at q; cases q) (fun _ => rfl)).mono ?_)
   rintro _ W_22 ⟨rfl, hb⟩
   refine ⟨_, rfl, ?_⟩
   replace hp := hp.below hb
   clear hb
   refine step_fin hp ?_
   refine treeI_ev rfl ?_
   refine sx_call 11 (by rfl) (by kernel_rfl) ((impl_fitting.calls A0_1 c0_1 l0_1 A0_2 c0_2 l0_2 _ _ (hC0_1 _ hp.tail) hc0_1 (hC0_2 _ hp.tail) hc0_2 (fitting_eq hg.2.1 l0_2 (by omega))).mono ?_)
   rintro _ W_28 ⟨v_24, rfl, hR_23, hb⟩
   refine ⟨_, rfl, ?_⟩
   obtain ⟨A_25, c_26, rfl, hcc_c_26, _⟩ := Kd.R_reads hR_23
   obtain ⟨F_27, hp⟩ : ∃ F, Hp w (row Kd.string 9 w.heap.size (.slice A_25 ((fitTo l0_2 (sortT l0_1) (sortT l0_1).length).map txt).length c_26) ((fitTo l0_2 (sortT l0_1) (sortT l0_1).length).map txt) F :: blk g_1 #[.slice A0_0 l0_0.length c0_0, .slice A0_1 l0_1.length c0_1, .slice A0_2 l0_2.length c0_2, .int .i64 a0_3, .int .i64 a0_4] 29 :: cs) _ := ⟨_, Hp.made hp hb hR_23⟩
   refine step_fin hp.tail ?_
   refine treeI_rd rfl ?_
   refine sxq_val 3 (.slice A_25 (((fitTo l0_2 (sortT l0_1) (sortT l0_1).length).map txt).length) c_26) (by rfl) (fun W hp => (by kernel_rfl)) ?_
   refine sxq_nil ?_
   refine treeI_fin ?_
   refine sx_nil ?_
   refine ex_then_n ?_
   refine wp_seq ?_
   refine wp_seq ?_
   refine sx_region ?_
   refine sx_rd 12 (.slice A_25 (((fitTo l0_2 (sortT l0_1) (sortT l0_1).length).map txt).length) c_26) (by rfl) (by kernel_rfl) ?_
   refine sx_rd 13 (.int .i64 (((fitTo l0_2 (sortT l0_1) (sortT l0_1).length).map txt).length : Int)) (by rfl) (by kernel_rfl) ?_
   refine sx_rd 14 (.bool ((((fitTo l0_2 (sortT l0_1) (sortT l0_1).length).map txt).length : Int) == 0)) (by rfl) (by kernel_rfl) ?_
   refine sx_nil ?_
   refine ex_then_n ?_
   refine sx_cond ((((fitTo l0_2 (sortT l0_1) (sortT l0_1).length).map txt).length : Int) == 0) (by rfl) (fun c_29 => ?_) (fun c_29 => ?_)
   ·
    have c_29p := eq_of_beq_ c_29
    refine wp_seq ?_
    refine sx_region ?_
    refine sx_lit 15 (by rfl) Kd.string w.heap.size 9 ([(⟨#[45]⟩ : ByteArray)]) [.string (⟨#[45]⟩ : ByteArray)] (fun W => by kernel_rfl) (Reps.snoc (cs := []) (Reps.none _ _) rfl rfl) (by simp) hp.size hp ?_
    intro g_30 F_31 W_32 hp hz; clear hz
    refine sx_rd 2 (.slice (some ⟨g_30, 0, none⟩) ([(⟨#[45]⟩ : ByteArray)].length) ([(⟨#[45]⟩ : ByteArray)].length)) (by rfl) (by kernel_rfl) ?_
    refine sx_nil ?_
    refine ex_then_n ?_
    refine wp_ret ?_
    refine ex_then_r ?_
    refine sx_end (.slice (some ⟨g_30, 0, none⟩) ([(⟨#[45]⟩ : ByteArray)].length) ([(⟨#[45]⟩ : ByteArray)].length)) (res1 2 (by rfl)) ?_
    have how : ownT l0_0 l0_1 a0_3 = l0_1 := by unfold ownT; rw [if_pos (by have q := c_8; simp at q; omega)]
    unfold movesL at h; rw [if_neg (show ¬ (overB l0_0 l0_1 a0_4) = true from by have q := c_4; simpa using q), how] at h
    have hz := c_29
    simp only [List.length_map] at hz
    rw [if_pos (by simp at hz; simpa using hz)] at h; obtain rfl := Option.some.inj h
    exact ⟨_, rfl, Kd.R_mono (row_R (hp.at_ 0 _ (by rfl))) (fun _ _ => trivial), hc2 _ (hp.tail.tail.tail)⟩
   ·
    have c_29p := ne_of_beq_ c_29
    refine wp_skip ?_
    refine ex_then_n ?_
    refine wp_seq ?_
    refine sx_region ?_
    refine sx_rd 16 (.slice A_25 (((fitTo l0_2 (sortT l0_1) (sortT l0_1).length).map txt).length) c_26) (by rfl) (by kernel_rfl) ?_
    refine sx_rd 2 (.slice A_25 (((fitTo l0_2 (sortT l0_1) (sortT l0_1).length).map txt).length) c_26) (by rfl) (by kernel_rfl) ?_
    refine sx_nil ?_
    refine ex_then_n ?_
    refine wp_ret ?_
    refine sx_end (.slice A_25 (((fitTo l0_2 (sortT l0_1) (sortT l0_1).length).map txt).length) c_26) (res1 2 (by rfl)) ?_
    have how : ownT l0_0 l0_1 a0_3 = l0_1 := by unfold ownT; rw [if_pos (by have q := c_8; simp at q; omega)]
    unfold movesL at h; rw [if_neg (show ¬ (overB l0_0 l0_1 a0_4) = true from by have q := c_4; simpa using q), how] at h
    have hz := c_29
    simp only [List.length_map] at hz
    rw [if_neg (by simp at hz; simpa using hz)] at h; obtain rfl := Option.some.inj h
    exact ⟨_, rfl, Kd.R_mono (row_R (hp.at_ 0 _ (by rfl))) (fun _ _ => trivial), hc2 _ (hp.tail.tail)⟩
end Go.Proofs.YtkjaahmlnbgnjaaGreat.Hd
