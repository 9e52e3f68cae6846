/- spec.CountTilings, by hand. -/
import Derived.Test.YtkjaahmlnbgnjaaMTilS
import Derived.Test.YtkjaahmlnbgnjaaPTilB
namespace Go.Proofs.Ytkjaahmlnbgnjaa.Hd
open Go.RowKit Go.Proofs.Ytkjaahmlnbgnjaa.Pure Go.Proofs.YtkjaahmlnbgnjaaW.PrintWords Go.Proofs.YtkjaahmlnbgnjaaW.PrintLast Go.Proofs.YtkjaahmlnbgnjaaW.PrintMore
set_option linter.unusedVariables false
set_option linter.unusedSimpArgs false
theorem tilN (a b : Int) : ∃ n : Nat, inB 1 30 a = true → inB 1 30 b = true → a * b = (n : Int) ∧ n ≤ 900 := by
 refine ⟨(a * b).toNat, fun h1 h2 => ?_⟩
 have e1 := inB_iffT.1 h1
 have e2 := inB_iffT.1 h2
 have h0 : 0 ≤ a * b := Int.mul_nonneg (by omega) (by omega)
 have h3 : a * b ≤ 30 * 30 := Int.mul_le_mul (by omega) (by omega) (by omega) (by omega)
 omega
theorem P2_31s : P2 31 = 2147483648 := rfl
def spec_CountTilings.f (a b : Int) : Option (Int × Bool) := some (resCountTilings a b)
set_option maxRecDepth 100000 in
set_option maxHeartbeats 40000000 in
theorem spec_CountTilings.calls (a0 : Int) (a1 : Int) (r0 : Int) (r1 : Bool) (w : World)  (h : spec_CountTilings.f a0 a1 = some (r0, r1)) :
  Calls Try.prog 8 #[.int .i64 a0, .int .i64 a1] w fun e w' => e = .returned (.tuple #[.int .i64 r0, .bool r1]) ∧ Below w.heap.size w w' := by
 unfold spec_CountTilings.f resCountTilings at h
 obtain ⟨n, hn⟩ := tilN a0 a1
 obtain ⟨cs, hcs⟩ : ∃ cs, cs = [old w w.heap.size] := ⟨_, rfl⟩
 have hp : Hp w cs w := by rw [hcs]; exact Hp.old_start w
 have hc2 : ∀ W, Hp w cs W → Below w.heap.size w W := fun W h => by rw [hcs] at h; exact h.since 0 _ rfl
 clear hcs
 refine sx_enter (N := 45) (l := [.int .i64 a0, .int .i64 a1]) Try.func8 rfl rfl rfl ?_
 refine wp_seq ?_
 refine sx_region ?_
 refine sx_rd 4 (.int .i64 0) (by rfl) (by kernel_rfl) ?_
 refine sx_rd 5 (.bool false) (by rfl) (by kernel_rfl) ?_
 refine sx_nil ?_
 refine ex_then_n ?_
 refine wp_seq ?_
 refine wp_seq ?_
 rcases Bool.eq_false_or_eq_true (!(inB 1 30 a0)) with c_1 | c_1
 ·
  refine sx_region ?_
  refine sx_rd 7 (.int .i64 a0) (by rfl) (by kernel_rfl) ?_
  refine sx_call 8 (by rfl) (by kernel_rfl) ((spec_l1In.calls a0 1 30 _ _ (l1In_eq a0 1 30)).mono ?_)
  rintro _ W_2 ⟨rfl, hb⟩
  refine ⟨.bool false, congrArg (fun b => Ending.returned (.bool b)) (not_eq c_1), ?_⟩
  replace hp := hp.below hb.below
  clear hb
  refine sx_rd 9 (.bool true) (by rfl) (by kernel_rfl) ?_
  refine sx_rd 10 (.bool true) (by rfl) (by kernel_rfl) ?_
  refine sx_skip 11 (by rfl) (by rfl) (by rfl) ?_
  refine sx_skip 12 (by rfl) (by rfl) (by rfl) ?_
  refine sx_skip 13 (by rfl) (by rfl) (by rfl) ?_
  refine sx_rd 14 (.bool true) (by rfl) (by kernel_rfl) ?_
  refine sx_rd 15 (.bool true) (by rfl) (by kernel_rfl) ?_
  refine sx_skip 16 (by rfl) (by rfl) (by rfl) ?_
  refine sx_skip 17 (by rfl) (by rfl) (by rfl) ?_
  refine sx_skip 18 (by rfl) (by rfl) (by rfl) ?_
  refine sx_skip 19 (by rfl) (by rfl) (by rfl) ?_
  refine sx_rd 20 (.bool true) (by rfl) (by kernel_rfl) ?_
  refine sx_nil ?_
  refine ex_then_n ?_
  refine sx_then true (by rfl) rfl ?_
  refine wp_seq ?_
  refine sx_region ?_
  refine sx_rd 4 (.int .i64 0) (by rfl) (by kernel_rfl) ?_
  refine sx_rd 5 (.bool false) (by rfl) (by kernel_rfl) ?_
  refine sx_nil ?_
  refine ex_then_n ?_
  refine wp_ret ?_
  refine ex_then_r ?_
  refine sx_end (.tuple #[.int .i64 0, .bool false]) (res2 4 5 (by rfl)) ?_
  rw [if_neg (fun q => by simp only [Bool.and_eq_true] at q; have q1 := q.1.1; rw [(not_eq c_1)] at q1; cases q1)] at h
  simp only [Option.some.injEq, Prod.mk.injEq] at h; obtain ⟨rfl, rfl⟩ := h
  exact ⟨rfl, hc2 _ (hp)⟩
 ·
  rcases Bool.eq_false_or_eq_true (!(inB 1 30 a1)) with c_3 | c_3
  ·
   refine sx_region ?_
   refine sx_rd 7 (.int .i64 a0) (by rfl) (by kernel_rfl) ?_
   refine sx_call 8 (by rfl) (by kernel_rfl) ((spec_l1In.calls a0 1 30 _ _ (l1In_eq a0 1 30)).mono ?_)
   rintro _ W_4 ⟨rfl, hb⟩
   refine ⟨.bool true, congrArg (fun b => Ending.returned (.bool b)) (not_eq c_1), ?_⟩
   replace hp := hp.below hb.below
   clear hb
   refine sx_rd 9 (.bool false) (by rfl) (by kernel_rfl) ?_
   refine sx_rd 10 (.bool false) (by rfl) (by kernel_rfl) ?_
   refine sx_want (by rfl) ?_
   refine sx_rd 11 (.int .i64 a1) (by rfl) (by kernel_rfl) ?_
   refine sx_want (by rfl) ?_
   refine sx_call 12 (by rfl) (by kernel_rfl) ((spec_l1In.calls a1 1 30 _ _ (l1In_eq a1 1 30)).mono ?_)
   rintro _ W_5 ⟨rfl, hb⟩
   refine ⟨.bool false, congrArg (fun b => Ending.returned (.bool b)) (not_eq c_3), ?_⟩
   replace hp := hp.below hb.below
   clear hb
   refine sx_want (by rfl) ?_
   refine sx_rd 13 (.bool true) (by rfl) (by kernel_rfl) ?_
   refine sx_rd 14 (.bool true) (by rfl) (by kernel_rfl) ?_
   refine sx_rd 15 (.bool true) (by rfl) (by kernel_rfl) ?_
   refine sx_skip 16 (by rfl) (by rfl) (by rfl) ?_
   refine sx_skip 17 (by rfl) (by rfl) (by rfl) ?_
   refine sx_skip 18 (by rfl) (by rfl) (by rfl) ?_
   refine sx_skip 19 (by rfl) (by rfl) (by rfl) ?_
   refine sx_rd 20 (.bool true) (by rfl) (by kernel_rfl) ?_
   refine sx_nil ?_
   refine ex_then_n ?_
   refine sx_then true (by rfl) rfl ?_
   refine wp_seq ?_
   refine sx_region ?_
   refine sx_rd 4 (.int .i64 0) (by rfl) (by kernel_rfl) ?_
   refine sx_rd 5 (.bool false) (by rfl) (by kernel_rfl) ?_
   refine sx_nil ?_
   refine ex_then_n ?_
   refine wp_ret ?_
   refine ex_then_r ?_
   refine sx_end (.tuple #[.int .i64 0, .bool false]) (res2 4 5 (by rfl)) ?_
   rw [if_neg (fun q => by simp only [Bool.and_eq_true] at q; have q1 := q.1.2; rw [(not_eq c_3)] at q1; cases q1)] at h
   simp only [Option.some.injEq, Prod.mk.injEq] at h; obtain ⟨rfl, rfl⟩ := h
   exact ⟨rfl, hc2 _ (hp)⟩
  ·
   obtain ⟨hwh, hn9⟩ := hn (not_eq c_1) (not_eq c_3)
   have hb0 := inB_iffT.1 (not_eq c_1)
   have hb1 := inB_iffT.1 (not_eq c_3)
   refine sx_region ?_
   refine sx_rd 7 (.int .i64 a0) (by rfl) (by kernel_rfl) ?_
   refine sx_call 8 (by rfl) (by kernel_rfl) ((spec_l1In.calls a0 1 30 _ _ (l1In_eq a0 1 30)).mono ?_)
   rintro _ W_6 ⟨rfl, hb⟩
   refine ⟨.bool true, congrArg (fun b => Ending.returned (.bool b)) (not_eq c_1), ?_⟩
   replace hp := hp.below hb.below
   clear hb
   refine sx_rd 9 (.bool false) (by rfl) (by kernel_rfl) ?_
   refine sx_rd 10 (.bool false) (by rfl) (by kernel_rfl) ?_
   refine sx_want (by rfl) ?_
   refine sx_rd 11 (.int .i64 a1) (by rfl) (by kernel_rfl) ?_
   refine sx_want (by rfl) ?_
   refine sx_call 12 (by rfl) (by kernel_rfl) ((spec_l1In.calls a1 1 30 _ _ (l1In_eq a1 1 30)).mono ?_)
   rintro _ W_7 ⟨rfl, hb⟩
   refine ⟨.bool true, congrArg (fun b => Ending.returned (.bool b)) (not_eq c_3), ?_⟩
   replace hp := hp.below hb.below
   clear hb
   refine sx_want (by rfl) ?_
   refine sx_rd 13 (.bool false) (by rfl) (by kernel_rfl) ?_
   refine sx_rd 14 (.bool false) (by rfl) (by kernel_rfl) ?_
   refine sx_rd 15 (.bool false) (by rfl) (by kernel_rfl) ?_
   refine sx_want (by rfl) ?_
   refine sx_rd 16 (.int .i64 a0) (by rfl) (by kernel_rfl) ?_
   refine sx_want (by rfl) ?_
   refine sx_rd 17 (.int .i64 a1) (by rfl) (by kernel_rfl) ?_
   refine sx_want (by rfl) ?_
   refine sx_rd 18 (.int .i64 (n : Int)) (by rfl) (mul_run (by rfl) (by rfl) (by rfl) hwh (by omega)) ?_
   refine sx_want (by rfl) ?_
   refine sx_rd 19 (.bool (decide ((n : Int) > 30))) (by rfl) (by kernel_rfl) ?_
   refine sx_rd 20 (.bool (decide ((n : Int) > 30))) (by rfl) (by kernel_rfl) ?_
   refine sx_nil ?_
   refine ex_then_n ?_
   refine sx_cond (decide ((n : Int) > 30)) (by rfl) (fun c_8 => ?_) (fun c_8 => ?_)
   ·
    have c_8p := of_decide_eq_true c_8
    refine wp_seq ?_
    refine sx_region ?_
    refine sx_rd 4 (.int .i64 0) (by rfl) (by kernel_rfl) ?_
    refine sx_rd 5 (.bool false) (by rfl) (by kernel_rfl) ?_
    refine sx_nil ?_
    refine ex_then_n ?_
    refine wp_ret ?_
    refine ex_then_r ?_
    refine sx_end (.tuple #[.int .i64 0, .bool false]) (res2 4 5 (by rfl)) ?_
    rw [if_neg (fun q => by simp only [Bool.and_eq_true, decide_eq_true_eq] at q; omega)] at h
    simp only [Option.some.injEq, Prod.mk.injEq] at h; obtain ⟨rfl, rfl⟩ := h
    exact ⟨rfl, hc2 _ (hp)⟩
   ·
    have c_8p := of_decide_eq_false c_8
    refine wp_skip ?_
    refine ex_then_n ?_
    refine wp_seq ?_
    refine wp_seq ?_
    refine sx_region ?_
    refine sx_rd 21 (.int .i64 a0) (by rfl) (by kernel_rfl) ?_
    refine sx_rd 22 (.int .i64 a1) (by rfl) (by kernel_rfl) ?_
    refine sx_rd 23 (.int .i64 (n : Int)) (by rfl) (mul_run (by rfl) (by rfl) (by rfl) hwh (by omega)) ?_
    refine sx_rd 24 (.int .i64 ((n : Int) % 2)) (by rfl) (rem_ok (by omega) (by kernel_rfl)) ?_
    refine sx_rd 25 (.bool (((n : Int) % 2) == 1)) (by rfl) (by kernel_rfl) ?_
    refine sx_nil ?_
    refine ex_then_n ?_
    refine sx_cond (((n : Int) % 2) == 1) (by rfl) (fun c_9 => ?_) (fun c_9 => ?_)
    ·
     have c_9p := eq_of_beq_ c_9
     refine wp_seq ?_
     refine sx_region ?_
     refine sx_rd 4 (.int .i64 0) (by rfl) (by kernel_rfl) ?_
     refine sx_rd 5 (.bool true) (by rfl) (by kernel_rfl) ?_
     refine sx_nil ?_
     refine ex_then_n ?_
     refine wp_ret ?_
     refine ex_then_r ?_
     refine sx_end (.tuple #[.int .i64 0, .bool true]) (res2 4 5 (by rfl)) ?_
     rw [if_pos (by simp only [Bool.and_eq_true, decide_eq_true_eq]; exact ⟨⟨(not_eq c_1), (not_eq c_3)⟩, by omega⟩), hwh, Int.toNat_natCast] at h
     rw [if_pos c_9p] at h
     simp only [Option.some.injEq, Prod.mk.injEq] at h; obtain ⟨rfl, rfl⟩ := h
     exact ⟨rfl, hc2 _ (hp)⟩
    ·
     have c_9p := ne_of_beq_ c_9
     refine wp_skip ?_
     refine ex_then_n ?_
     refine wp_seq ?_
     refine sx_drawI (fun a_ W => ∃ (r_ : List (Nat × Value)) (gm_19 : Nat) (gm_20 : Nat) (gm_21 : Nat) (Fm_22 : Nat → Prop) (Fm_23 : Nat → Prop), a_ = fr 45 ([(6, .pointer (some ⟨gm_19, 0, none⟩))] ++ r_) ∧ Hp w (blk gm_19 #[.int .i64 a0, .int .i64 a1, .slice (some ⟨gm_20, 0, none⟩) ((List.replicate n (0 : Int)).length) ((List.replicate n (0 : Int)).length), .bool true, .slice none 0 0, .slice (some ⟨gm_21, 0, none⟩) ((List.replicate n (0 : Int)).length) ((List.replicate n (0 : Int)).length), .slice none 0 0, .int .i64 0, .int .i64 0] 63 :: row (Kd.int .i64) 3 w.heap.size (.slice (some ⟨gm_20, 0, none⟩) ((List.replicate n (0 : Int)).length) ((List.replicate n (0 : Int)).length)) (List.replicate n (0 : Int)) Fm_22 :: row (Kd.int .u8) 5 w.heap.size (.slice (some ⟨gm_21, 0, none⟩) ((List.replicate n (0 : Int)).length) ((List.replicate n (0 : Int)).length)) (List.replicate n (0 : Int)) Fm_23 :: cs) W) [0, 1, 2, 3, 4, 7, 8, 9] (.alt 5 (.rd 6 (.alt 10 (.rd 11 (.alt 12 (.rd 13 (.fin)) .non)) .non)) (.alt 10 (.alt 5 (.rd 6 (.rd 11 (.alt 12 (.rd 13 (.fin)) .non))) .non) (.non))) 14 (C := Hp w (cs)) (by kernel_rfl) (by kernel_rfl) (fun d _ _ _ _ h => by cases d <;> exact h) (fun W h => h.drew) hp ?_ ?_
     ·
      refine preI_read rfl ?_
      refine sxq_val 26 (.int .i64 a0) (by rfl) (fun W _ => (by kernel_rfl)) ?_
      refine sxq_nil ?_
      refine preI_read rfl ?_
      refine sxq_val 27 (.int .i64 a1) (by rfl) (fun W _ => (by kernel_rfl)) ?_
      refine sxq_nil ?_
      refine preI_read rfl ?_
      refine sxq_val 28 (.int .i64 a0) (by rfl) (fun W _ => (by kernel_rfl)) ?_
      refine sxq_nil ?_
      refine preI_read rfl ?_
      refine sxq_val 29 (.int .i64 a1) (by rfl) (fun W _ => (by kernel_rfl)) ?_
      refine sxq_nil ?_
      refine preI_read rfl ?_
      refine sxq_val 30 (.int .i64 (n : Int)) (by rfl) (fun W _ => (mul_run (by rfl) (by rfl) (by rfl) hwh (by omega))) ?_
      refine sxq_nil ?_
      refine preI_read rfl ?_
      refine sxq_val 33 (.int .i64 a0) (by rfl) (fun W _ => (by kernel_rfl)) ?_
      refine sxq_nil ?_
      refine preI_read rfl ?_
      refine sxq_val 34 (.int .i64 a1) (by rfl) (fun W _ => (by kernel_rfl)) ?_
      refine sxq_nil ?_
      refine preI_read rfl ?_
      refine sxq_val 35 (.int .i64 (n : Int)) (by rfl) (fun W _ => (mul_run (by rfl) (by rfl) (by rfl) hwh (by omega))) ?_
      refine sxq_nil ?_
      refine preI_nil ?_
      intro W_10 hp
      refine treeI_alt rfl ?_ ?_
      ·
       refine sx_make 31 (by rfl) (Kd.int .i64) w.heap.size 3 n (by rfl) (by rfl) (by rfl) (by omega) Try.underlying33 (.int .i64 0) 8 (by rfl) (by rfl) (by decide) (by decide) 0 rfl (by omega) hp.size hp ?_
       intro g_11 F_12 W_13 hp
       refine step_fin hp.tail ?_
       refine treeI_rd rfl ?_
       refine sxq_val 32 (.agg #[.int .i64 a0, .int .i64 a1, .slice (some ⟨g_11, 0, none⟩) ((List.replicate n (0 : Int)).length) ((List.replicate n (0 : Int)).length)]) (by rfl) (fun W hp => (by kernel_rfl)) ?_
       refine sxq_nil ?_
       refine treeI_ev rfl ?_
       refine sx_make 36 (by rfl) (Kd.int .u8) w.heap.size 5 n (by rfl) (by rfl) (by rfl) (by omega) Try.underlying60 (.int .u8 0) 1 (by rfl) (by rfl) (by decide) (by decide) 0 rfl (by omega) hp.size hp ?_
       intro g_14 F_15 W_16 hp
       refine step_fin hp.tail.tail ?_
       refine treeI_rd rfl ?_
       refine sxq_val 37 (.agg #[.int .i64 a0, .int .i64 a1, .slice (some ⟨g_11, 0, none⟩) ((List.replicate n (0 : Int)).length) ((List.replicate n (0 : Int)).length), .bool true, .slice none 0 0, .slice (some ⟨g_14, 0, none⟩) ((List.replicate n (0 : Int)).length) ((List.replicate n (0 : Int)).length), .slice none 0 0, .int .i64 0, .int .i64 0]) (by rfl) (fun W hp => (by kernel_rfl)) ?_
       refine sxq_nil ?_
       refine treeI_ev rfl ?_
       refine sx_box 38 hp #[.int .i64 a0, .int .i64 a1, .slice (some ⟨g_11, 0, none⟩) ((List.replicate n (0 : Int)).length) ((List.replicate n (0 : Int)).length), .bool true, .slice none 0 0, .slice (some ⟨g_14, 0, none⟩) ((List.replicate n (0 : Int)).length) ((List.replicate n (0 : Int)).length), .slice none 0 0, .int .i64 0, .int .i64 0] 63 (by rfl) (fun W => by kernel_rfl) ?_
       intro g_17 W_18 hp
       refine step_fin hp.tail.tail.tail ?_
       refine treeI_rd rfl ?_
       refine sxq_val 6 (.pointer (some ⟨g_17, 0, none⟩)) (by rfl) (fun W hp => (by kernel_rfl)) ?_
       refine sxq_nil ?_
       refine treeI_fin ?_
       exact ⟨_, g_17, g_11, g_14, F_12, F_15, fr_front [(6, .pointer (some ⟨g_17, 0, none⟩))] ⟨rfl, trivial⟩, (hp.take [0, 2, 1] 3 (by decide) (by simp))⟩
      refine treeI_alt rfl ?_ ?_
      ·
       refine sx_make 36 (by rfl) (Kd.int .u8) w.heap.size 5 n (by rfl) (by rfl) (by rfl) (by omega) Try.underlying60 (.int .u8 0) 1 (by rfl) (by rfl) (by decide) (by decide) 0 rfl (by omega) hp.size hp ?_
       intro g_24 F_25 W_26 hp
       refine step_fin hp.tail ?_
       refine treeI_ev rfl ?_
       refine sx_make 31 (by rfl) (Kd.int .i64) w.heap.size 3 n (by rfl) (by rfl) (by rfl) (by omega) Try.underlying33 (.int .i64 0) 8 (by rfl) (by rfl) (by decide) (by decide) 0 rfl (by omega) hp.size hp ?_
       intro g_27 F_28 W_29 hp
       refine step_fin hp.tail.tail ?_
       refine treeI_rd rfl ?_
       refine sxq_val 32 (.agg #[.int .i64 a0, .int .i64 a1, .slice (some ⟨g_27, 0, none⟩) ((List.replicate n (0 : Int)).length) ((List.replicate n (0 : Int)).length)]) (by rfl) (fun W hp => (by kernel_rfl)) ?_
       refine sxq_nil ?_
       refine treeI_rd rfl ?_
       refine sxq_val 37 (.agg #[.int .i64 a0, .int .i64 a1, .slice (some ⟨g_27, 0, none⟩) ((List.replicate n (0 : Int)).length) ((List.replicate n (0 : Int)).length), .bool true, .slice none 0 0, .slice (some ⟨g_24, 0, none⟩) ((List.replicate n (0 : Int)).length) ((List.replicate n (0 : Int)).length), .slice none 0 0, .int .i64 0, .int .i64 0]) (by rfl) (fun W hp => (by kernel_rfl)) ?_
       refine sxq_nil ?_
       refine treeI_ev rfl ?_
       refine sx_box 38 hp #[.int .i64 a0, .int .i64 a1, .slice (some ⟨g_27, 0, none⟩) ((List.replicate n (0 : Int)).length) ((List.replicate n (0 : Int)).length), .bool true, .slice none 0 0, .slice (some ⟨g_24, 0, none⟩) ((List.replicate n (0 : Int)).length) ((List.replicate n (0 : Int)).length), .slice none 0 0, .int .i64 0, .int .i64 0] 63 (by rfl) (fun W => by kernel_rfl) ?_
       intro g_30 W_31 hp
       refine step_fin hp.tail.tail.tail ?_
       refine treeI_rd rfl ?_
       refine sxq_val 6 (.pointer (some ⟨g_30, 0, none⟩)) (by rfl) (fun W hp => (by kernel_rfl)) ?_
       refine sxq_nil ?_
       refine treeI_fin ?_
       exact ⟨_, g_30, g_27, g_24, F_28, F_25, fr_front [(6, .pointer (some ⟨g_30, 0, none⟩))] ⟨rfl, trivial⟩, (hp.take [0, 1, 2] 3 (by decide) (by simp))⟩
      exact treeI_non
     ·
      rintro _ W_32 ⟨r_, gm_19, gm_20, gm_21, Fm_22, Fm_23, rfl, hp⟩
      refine sx_nil ?_
      refine ex_then_n ?_
      refine wp_seq ?_
      refine sx_region ?_
      refine sx_rd 39 (.pointer (some ⟨gm_19, 0, none⟩)) (by rfl) (by kernel_rfl) ?_
      have hzl : (List.replicate n (0 : Int)).length = n := List.length_replicate
      refine sx_call 40 (by rfl) (by kernel_rfl) ((look_all 31 w _ (row (Kd.int .i64) 3 w.heap.size (.slice (some ⟨gm_20, 0, none⟩) ((List.replicate n (0 : Int)).length) ((List.replicate n (0 : Int)).length)) (List.replicate n (0 : Int)) Fm_22 :: cs) gm_19 gm_21 a0 a1 (List.replicate n (0 : Int)).length (List.replicate n (0 : Int)) 0 0 (some ⟨gm_20, 0, none⟩) ((List.replicate n (0 : Int)).length) ((List.replicate n (0 : Int)).length) ((List.replicate n (0 : Int)).length) Fm_23 none 0 0 (by omega) (by omega) (by omega) (by omega) (by rw [hzl]; exact hwh) (by omega) rfl (Nat.zero_le _) (by omega) (by decide) (by rw [P2_31s]; decide) (fun _ => ⟨rfl, rfl⟩) (hp.take [0, 2, 1] 3 (by decide) (by simp))).mono ?_)
      rintro _ W_33 ⟨FL2, Af2, nf2, cf2, rfl, hfd2, hp⟩
      refine ⟨_, rfl, ?_⟩
      refine sx_nil ?_
      refine ex_then_n ?_
      refine wp_seq ?_
      refine sx_region ?_
      refine sx_rd 41 (.pointer (some ⟨gm_19, 0, none⟩)) (by rfl) (by kernel_rfl) ?_
      refine sx_rd 42 (.pointer (some ⟨gm_19, 0, none⟩)) (by rfl) (by kernel_rfl) ?_
      refine sx_rd 43 (.pointer (some ⟨gm_19, 7, none⟩)) (by rfl) (by kernel_rfl) ?_
      refine sx_rd 44 (.int .i64 (0 + cntT a0 ((List.replicate n (0 : Int)).length : Int) 31 (List.replicate n (0 : Int)) 0)) (by rfl) (ld1 (t := 3) (p := (.tmp 43)) (by rfl) (by rfl) (by kernel_rfl) (hp.cell 0 (by rfl) 7 _ (by rfl))) ?_
      refine sx_rd 4 (.int .i64 (0 + cntT a0 ((List.replicate n (0 : Int)).length : Int) 31 (List.replicate n (0 : Int)) 0)) (by rfl) (by kernel_rfl) ?_
      refine sx_rd 5 (.bool true) (by rfl) (by kernel_rfl) ?_
      refine sx_nil ?_
      refine ex_then_n ?_
      refine wp_ret ?_
      refine sx_end (.tuple #[.int .i64 (0 + cntT a0 ((List.replicate n (0 : Int)).length : Int) 31 (List.replicate n (0 : Int)) 0), .bool true]) (res2 4 5 (by rfl)) ?_
      rw [if_pos (by simp only [Bool.and_eq_true, decide_eq_true_eq]; exact ⟨⟨(not_eq c_1), (not_eq c_3)⟩, by omega⟩), hwh, Int.toNat_natCast] at h
      rw [if_neg c_9p] at h
      rw [Int.zero_add, hzl]
      simp only [Option.some.injEq, Prod.mk.injEq] at h; obtain ⟨rfl, rfl⟩ := h
      exact ⟨rfl, hc2 _ (hp.tail.tail.tail)⟩
end Go.Proofs.Ytkjaahmlnbgnjaa.Hd
