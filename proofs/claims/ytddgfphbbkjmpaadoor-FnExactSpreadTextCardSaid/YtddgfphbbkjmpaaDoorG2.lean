-- Printed by hprint.py and laid together by pack.py (this session's programs over the kit's print program). Lean checks it.
import Derived.Test.YtddgfphbbkjmpaaDoorMSx5
import Derived.Test.YtddgfphbbkjmpaaDoorMSxL
import Derived.Test.YtddgfphbbkjmpaaDoorG0
import Derived.Test.YtddgfphbbkjmpaaDoorMSpreadOf
import Derived.Test.YtddgfphbbkjmpaaDoorMItoa
import Derived.Test.YtddgfphbbkjmpaaDoorMStrJ
namespace Go.Proofs.YtddgfphbbkjmpaaDoor.Hd
section
open Go.RowKit Go.Proofs.YtddgfphbbkjmpaaDoorW.PrintWords Go.Proofs.YtddgfphbbkjmpaaDoorW.PrintLast Go.Proofs.YtddgfphbbkjmpaaDoorW.PrintMore
attribute [local go_sem] max2_int min2_int max_two min_two max_three min_three max_four min_four   -- for this text's walks alone
set_option linter.unusedVariables false
set_option linter.unusedSimpArgs false

def impl_IsSpread.f (l0 : List (S_Play)) : Option (Bool) := (impl_spreadOf.f l0).bind fun bt153 => (some bt153.2.2.2.2.2)
set_option maxRecDepth 100000 in
set_option maxHeartbeats 40000000 in
theorem impl_IsSpread.calls (A0 : Option Addr) (c0 : Nat) (l0 : List (S_Play)) (r : Bool) (w : World) (hr0 : Kd.C k36 w A0 l0.length l0) (hc0 : l0.length ≤ c0) (h : impl_IsSpread.f l0 = some r) :
    Calls Tryd.prog 12 #[.slice A0 l0.length c0] w fun e w' => e = .returned (.bool r) ∧ Below w.heap.size w w' := by
  obtain ⟨cs, hcs⟩ : ∃ cs, cs = [old w w.heap.size] := ⟨_, rfl⟩
  have hp : Hp w cs w := by rw [hcs]; exact Hp.old_start w
  have hc2 : ∀ W, Hp w cs W → Below w.heap.size w W := fun W h => by rw [hcs] at h; exact h.since 0 _ rfl
  have hC0 : ∀ W, Hp w cs W → Kd.C k36 W A0 l0.length l0 := fun W h => Kd.C_below hr0 (hc2 W h)
  clear hcs
  unfold impl_IsSpread.f at h
  obtain ⟨⟨t_2, t_3, t_4, t_5, t_6, t_7⟩, hv_1, h⟩ := Option.bind_eq_some_iff.mp h
  try dsimp only at h
  refine sx_enter (N := 11) (l := [.slice A0 l0.length c0]) Tryd.func12 rfl rfl rfl ?_
  refine wp_seq ?_
  refine sx_region ?_
  refine sx_rd 2 (.bool false) (by rfl) (by kernel_rfl) ?_
  refine sx_nil ?_
  refine ex_then_n ?_
  refine wp_seq ?_
  refine sx_region ?_
  refine sx_rd 6 (.slice A0 l0.length c0) (by rfl) (by kernel_rfl) ?_
  refine sx_call 7 (by rfl) (by kernel_rfl) ((impl_spreadOf.calls A0 c0 l0 _ _ _ _ _ _ _ (hC0 _ hp) hc0 hv_1).mono ?_)
  rintro _ W_18 ⟨v_10, v_11, rfl, hR_8, hR_9, hb⟩
  refine ⟨_, rfl, ?_⟩
  obtain ⟨A_12, c_13, rfl, hcc_c_13, _⟩ := Kd.R_reads hR_8
  obtain ⟨A_15, c_16, rfl, hcc_c_16, _⟩ := Kd.R_reads hR_9
  obtain ⟨F_14, F_17, hp⟩ : ∃ F_14 F_17, Hp w (row k72 72 w.heap.size (.slice A_12 t_2.length c_13) t_2 F_14 :: row k34 34 w.heap.size (.slice A_15 t_3.length c_16) t_3 F_17 :: cs) _ := ⟨_, _, Hp.made2 hp hb rfl rfl hR_8 hR_9 (typed_apart hR_8 hR_9 (by decide))⟩
  refine sx_rd 5 (.tuple #[.agg #[.slice A_12 t_2.length c_13, .slice A_15 t_3.length c_16, .int .i64 t_4, .bool t_5, .bool t_6], .bool t_7]) (by rfl) (by kernel_rfl) ?_
  refine sx_rd 8 (.agg #[.slice A_12 t_2.length c_13, .slice A_15 t_3.length c_16, .int .i64 t_4, .bool t_5, .bool t_6]) (by rfl) (by kernel_rfl) ?_
  refine sx_rd 9 (.bool t_7) (by rfl) (by kernel_rfl) ?_
  refine sx_box 3 hp #[.slice none 0 0, .slice none 0 0, .int .i64 0, .bool false, .bool false] 55 (by rfl) (fun W => by kernel_rfl) ?_
  intro g_19 W_20 hp
  refine sx_store (t := 55) (p := (.tmp 3)) (x := (.tmp 8)) (by rfl) (by rfl) 0 (by rfl) 0 [.slice A_12 t_2.length c_13, .slice A_15 t_3.length c_16, .int .i64 t_4, .bool t_5, .bool t_6] (by rfl) (by rfl) (by kernel_rfl) (by simp [Value.oneCell']) (by show 5 ≤ 5; omega) #[.slice A_12 t_2.length c_13, .slice A_15 t_3.length c_16, .int .i64 t_4, .bool t_5, .bool t_6] (by rfl) hp ?_
  intro W_21 hp; simp only [List.set_cons_succ, List.set_cons_zero] at hp
  refine sx_rd 4 (.bool t_7) (by rfl) (by kernel_rfl) ?_
  refine sx_nil ?_
  refine ex_then_n ?_
  refine wp_seq ?_
  refine sx_region ?_
  refine sx_rd 10 (.bool t_7) (by rfl) (by kernel_rfl) ?_
  refine sx_rd 2 (.bool t_7) (by rfl) (by kernel_rfl) ?_
  refine sx_nil ?_
  refine ex_then_n ?_
  refine wp_ret ?_
  refine sx_end (.bool t_7) (res1 2 (by rfl)) ?_
  obtain rfl := Option.some.inj h
  exact ⟨rfl, hc2 _ (hp.tail.tail.tail)⟩
end
section
open Go.RowKit Go.Proofs.YtddgfphbbkjmpaaDoorW.PrintWords Go.Proofs.YtddgfphbbkjmpaaDoorW.PrintLast Go.Proofs.YtddgfphbbkjmpaaDoorW.PrintMore
attribute [local go_sem] max2_int min2_int max_two min_two max_three min_three max_four min_four   -- for this text's walks alone
set_option linter.unusedVariables false
set_option linter.unusedSimpArgs false

def impl_SpreadText.l0 : Nat → List ByteArray → List (S_Play) → Int → Int → Option (ByteArray × Bool)
  | 0, _, _, _, _ => none
  | k + 1, x4, x14, x15, x16 => if x16 < x15 then (if 0 ≤ x16 then (if x16 < (x14.length : Int) then ((impl_Tile_digits.f ((rd_Play x14 x16).f0.f0) ((rd_Play x14 x16).f0.f1)).bind fun t193 => (if t193.size + 1 ≤ 9223372036854775807 then ((strconv_Itoa.f ((rd_Play x14 x16).f1)).bind fun t194 => (if (t193 ++ (⟨#[64]⟩ : ByteArray)).size + t194.size ≤ 9223372036854775807 then (if x4.length < 8796093022208 then (impl_SpreadText.l0 k (x4 ++ [(t193 ++ (⟨#[64]⟩ : ByteArray)) ++ t194]) x14 x15 (wrap64 (x16 + 1))) else (none)) else (none))) else (none))) else (none)) else (none)) else ((strings_Join.f x4 (⟨#[44]⟩ : ByteArray)).bind fun t198 => (some (t198, true)))
def impl_SpreadText.f (k : Nat) (l0 : List (S_Play)) : Option (ByteArray × Bool) := (impl_IsSpread.f l0).bind fun t187 => (if t187 = true then (if (l0.length : Int) = 0 then (some ((⟨#[45]⟩ : ByteArray), true)) else (impl_SpreadText.l0 k (([] : List ByteArray)) l0 (l0.length : Int) 0)) else (some ((⟨#[]⟩ : ByteArray), false)))
set_option maxRecDepth 100000 in
set_option maxHeartbeats 40000000 in
theorem impl_SpreadText.calls (k : Nat) (A0 : Option Addr) (c0 : Nat) (l0 : List (S_Play)) (r1 : ByteArray) (r2 : Bool) (w : World) (hr0 : Kd.C k36 w A0 l0.length l0) (hc0 : l0.length ≤ c0) (h : impl_SpreadText.f k l0 = some (r1, r2)) :
    Calls Tryd.prog 7 #[.slice A0 l0.length c0] w fun e w' => e = .returned (.tuple #[.string r1, .bool r2]) ∧ Below w.heap.size w w' := by
  obtain ⟨cs, hcs⟩ : ∃ cs, cs = [old w w.heap.size] := ⟨_, rfl⟩
  have hp : Hp w cs w := by rw [hcs]; exact Hp.old_start w
  have hc2 : ∀ W, Hp w cs W → Below w.heap.size w W := fun W h => by rw [hcs] at h; exact h.since 0 _ rfl
  have hC0 : ∀ W, Hp w cs W → Kd.C k36 W A0 l0.length l0 := fun W h => Kd.C_below hr0 (hc2 W h)
  clear hcs
  unfold impl_SpreadText.f at h
  obtain ⟨t_2, hv_1, h⟩ := Option.bind_eq_some_iff.mp h
  try dsimp only at h
  refine sx_enter (N := 34) (l := [.slice A0 l0.length c0]) Tryd.func7 rfl rfl rfl ?_
  refine wp_seq ?_
  refine sx_region ?_
  refine sx_rd 2 (.string (⟨#[]⟩ : ByteArray)) (by rfl) (by kernel_rfl) ?_
  refine sx_rd 3 (.bool false) (by rfl) (by kernel_rfl) ?_
  refine sx_nil ?_
  refine ex_then_n ?_
  refine wp_seq ?_
  refine wp_seq ?_
  refine sx_region ?_
  refine sx_rd 7 (.slice A0 l0.length c0) (by rfl) (by kernel_rfl) ?_
  refine sx_call 8 (by rfl) (by kernel_rfl) ((impl_IsSpread.calls A0 c0 l0 _ _ (hC0 _ hp) hc0 hv_1).mono ?_)
  rintro _ W_3 ⟨rfl, hb⟩
  refine ⟨_, rfl, ?_⟩
  replace hp := hp.below hb
  clear hb
  refine sx_rd 9 (.bool (!t_2)) (by rfl) (by kernel_rfl) ?_
  refine sx_nil ?_
  refine ex_then_n ?_
  by_cases hc_4 : t_2 = true
  ·
    rw [if_pos hc_4] at h
    refine sx_else (!t_2) (by rfl) (show (!t_2) = false from by rw [hc_4]; rfl) ?_
    refine wp_skip ?_
    refine ex_then_n ?_
    refine wp_seq ?_
    refine wp_seq ?_
    refine sx_region ?_
    refine sx_rd 10 (.slice A0 l0.length c0) (by rfl) (by kernel_rfl) ?_
    refine sx_rd 11 (.int .i64 (l0.length : Int)) (by rfl) (by kernel_rfl) ?_
    refine sx_rd 12 (.bool ((l0.length : Int) == 0)) (by rfl) (by kernel_rfl) ?_
    refine sx_nil ?_
    refine ex_then_n ?_
    by_cases hc_5 : (l0.length : Int) = 0
    ·
      rw [if_pos hc_5] at h
      refine sx_then ((l0.length : Int) == 0) (by rfl) (beq_iff_eq.mpr hc_5) ?_
      refine wp_seq ?_
      refine sx_region ?_
      refine sx_rd 2 (.string (⟨#[45]⟩ : ByteArray)) (by rfl) (by kernel_rfl) ?_
      refine sx_rd 3 (.bool true) (by rfl) (by kernel_rfl) ?_
      refine sx_nil ?_
      refine ex_then_n ?_
      refine wp_ret ?_
      refine ex_then_r ?_
      refine sx_end (.tuple #[.string (⟨#[45]⟩ : ByteArray), .bool true]) (res2 2 3 (by rfl)) ?_
      simp only [Option.some.injEq, Prod.mk.injEq] at h; obtain ⟨rfl, rfl⟩ := h
      exact ⟨rfl, hc2 _ (hp)⟩
    ·
      rw [if_neg hc_5] at h
      refine sx_else ((l0.length : Int) == 0) (by rfl) (beq_eq_false_iff_ne.mpr hc_5) ?_
      refine wp_skip ?_
      refine ex_then_n ?_
      refine wp_seq ?_
      refine sx_region ?_
      refine sx_lit 13 (by rfl) Kd.string w.heap.size 9 ([] : List ByteArray) [] (fun W => by kernel_rfl) (Reps.none _ _) (by simp) hp.size hp ?_
      intro g_6 F_7 W_8 hp hz; clear hz
      refine sx_rd 4 (.slice (some ⟨g_6, 0, none⟩) (([] : List ByteArray).length) (([] : List ByteArray).length)) (by rfl) (by kernel_rfl) ?_
      refine sx_nil ?_
      refine ex_then_n ?_
      refine wp_seq ?_
      refine wp_seq ?_
      refine sx_region ?_
      refine sx_rd 14 (.slice A0 l0.length c0) (by rfl) (by kernel_rfl) ?_
      refine sx_rd 15 (.int .i64 (l0.length : Int)) (by rfl) (by kernel_rfl) ?_
      refine sx_rd 16 (.int .i64 0) (by rfl) (by kernel_rfl) ?_
      refine sx_nil ?_
      refine ex_then_n ?_
      refine wp_block ?_
      refine wp_loop_ghost (fun n_ a_ W => ∃ (r_ : List (Nat × Value)) (k_11 : Nat) (x_10 : Int) (x_9 : List ByteArray) (A_12 : Option Addr) (n_13 c_14 : Nat) (F_15 : Nat → Prop), n_ = k_11 + 1 ∧ a_ = fr 34 ([(4, .slice A_12 n_13 c_14), (14, .slice A0 l0.length c0), (15, .int .i64 (l0.length : Int)), (16, .int .i64 x_10)] ++ r_) ∧ Hp w (row Kd.string 9 w.heap.size (.slice A_12 n_13 c_14) x_9 F_15 :: cs) W ∧ (impl_SpreadText.l0 k_11 x_9 l0 (l0.length : Int) x_10 = some (r1, r2)) ∧ (k_11 ≤ k)) _ ⟨_, k, 0, (([] : List ByteArray)), _, _, _, _, rfl, fr_front [(4, .slice (some ⟨g_6, 0, none⟩) (([] : List ByteArray).length) (([] : List ByteArray).length)), (14, .slice A0 l0.length c0), (15, .int .i64 (l0.length : Int)), (16, .int .i64 0)] ⟨rfl, rfl, rfl, rfl, trivial⟩, (hp.take [0] 1 (by decide) (by simp)), h, (Nat.le_refl _)⟩ ?_
      rintro _ _ W_17 ⟨r_, k_11, x_10, x_9, A_12, n_13, c_14, F_15, rfl, rfl, hp, h, hk_16⟩
      obtain ⟨rfl, -⟩ := row_len (hp.at_ 0 _ (by rfl))
      rcases k_11 with _ | k_11
      · simp [impl_SpreadText.l0] at h
      simp only [impl_SpreadText.l0] at h
      refine wp_seq ?_
      refine sx_region ?_
      refine sx_rd 17 (.bool (decide (x_10 < (l0.length : Int)))) (by rfl) (by kernel_rfl) ?_
      refine sx_nil ?_
      refine ex_then_n ?_
      refine wp_seq ?_
      by_cases hc_18 : x_10 < (l0.length : Int)
      ·
        rw [if_pos hc_18] at h
        by_cases hc_19 : 0 ≤ x_10
        case neg => rw [if_neg hc_19] at h; cases h
        rw [if_pos hc_19] at h
        by_cases hc_20 : x_10 < (l0.length : Int)
        case neg => rw [if_neg hc_20] at h; cases h
        rw [if_pos hc_20] at h
        obtain ⟨t_22, hv_21, h⟩ := Option.bind_eq_some_iff.mp h
        try dsimp only at h
        by_cases hc_23 : t_22.size + 1 ≤ 9223372036854775807
        case neg => rw [if_neg hc_23] at h; cases h
        rw [if_pos hc_23] at h
        obtain ⟨t_25, hv_24, h⟩ := Option.bind_eq_some_iff.mp h
        try dsimp only at h
        by_cases hc_26 : (t_22 ++ (⟨#[64]⟩ : ByteArray)).size + t_25.size ≤ 9223372036854775807
        case neg => rw [if_neg hc_26] at h; cases h
        rw [if_pos hc_26] at h
        by_cases hc_27 : x_9.length < 8796093022208
        case neg => rw [if_neg hc_27] at h; cases h
        rw [if_pos hc_27] at h
        refine sx_then (decide (x_10 < (l0.length : Int))) (by rfl) (decide_eq_true hc_18) ?_
        refine wp_skip ?_
        refine ex_then_n ?_
        refine wp_seq ?_
        refine wp_block ?_
        refine wp_seq ?_
        refine sx_region ?_
        refine sx_rd 18 (.pointer (some (adr A0 x_10 3))) (by rfl) (ix_run (d := k36) (hC0 _ hp.tail) (t := 26) (by rfl) (by rfl) (by rfl) Tryd.underlying26 (by kernel_rfl) (by omega) (by omega)) ?_
        refine sx_rd 19 (.agg #[.int .i64 ((rd_Play l0 x_10).f0.f0), .int .i64 ((rd_Play l0 x_10).f0.f1), .int .i64 ((rd_Play l0 x_10).f1)]) (by rfl) (el_run (d := k36) (hC0 _ hp.tail) z36 x_10 (by omega) (by omega) (cells := [.int .i64 ((rd_Play l0 x_10).f0.f0), .int .i64 ((rd_Play l0 x_10).f0.f1), .int .i64 ((rd_Play l0 x_10).f1)]) (fun cs h => k36_open h) 0 [.int .i64 ((rd_Play l0 x_10).f0.f0), .int .i64 ((rd_Play l0 x_10).f0.f1), .int .i64 ((rd_Play l0 x_10).f1)] (by rfl) (t := 36) (p := (.tmp 18)) (by rfl) (by rfl) (by kernel_rfl) (by kernel_rfl)) ?_
        refine sx_box 6 hp #[.int .i64 0, .int .i64 0, .int .i64 0] 36 (by rfl) (fun W => by kernel_rfl) ?_
        intro g_28 W_29 hp
        refine sx_store (t := 36) (p := (.tmp 6)) (x := (.tmp 19)) (by rfl) (by rfl) 0 (by rfl) 0 [.int .i64 ((rd_Play l0 x_10).f0.f0), .int .i64 ((rd_Play l0 x_10).f0.f1), .int .i64 ((rd_Play l0 x_10).f1)] (by rfl) (by rfl) (by kernel_rfl) (by simp [Value.oneCell']) (by show 3 ≤ 3; omega) #[.int .i64 ((rd_Play l0 x_10).f0.f0), .int .i64 ((rd_Play l0 x_10).f0.f1), .int .i64 ((rd_Play l0 x_10).f1)] (by rfl) hp ?_
        intro W_30 hp; simp only [List.set_cons_succ, List.set_cons_zero] at hp
        refine sx_nil ?_
        refine ex_then_n ?_
        refine sx_drawT [0, 1, 5] (.rd 2 (.rd 6 (.alt 3 (.rd 4 (.alt 7 (.rd 8 (.alt 9 (.fin) .non)) .non)) .non))) 10 (C := Hp w (blk g_28 #[.int .i64 ((rd_Play l0 x_10).f0.f0), .int .i64 ((rd_Play l0 x_10).f0.f1), .int .i64 ((rd_Play l0 x_10).f1)] 36 :: row Kd.string 9 w.heap.size (.slice A_12 x_9.length c_14) x_9 F_15 :: cs)) (by kernel_rfl) (by kernel_rfl) (fun d _ _ _ _ h => by cases d <;> exact h) (fun W h => h.drew) hp ?_
        refine preI_read rfl ?_
        refine sxq_val 20 (.slice A_12 x_9.length c_14) (by rfl) (fun W _ => (by kernel_rfl)) ?_
        refine sxq_nil ?_
        refine preI_read rfl ?_
        refine sxq_val 21 (.pointer (some ⟨g_28, 0, none⟩)) (by rfl) (fun W _ => (by kernel_rfl)) ?_
        refine sxq_nil ?_
        refine preI_read rfl ?_
        refine sxq_val 25 (.pointer (some ⟨g_28, 2, none⟩)) (by rfl) (fun W _ => (by kernel_rfl)) ?_
        refine sxq_nil ?_
        refine preI_nil ?_
        intro W_31 hp
        refine treeI_rd rfl ?_
        refine sxq_val 22 (.agg #[.int .i64 ((rd_Play l0 x_10).f0.f0), .int .i64 ((rd_Play l0 x_10).f0.f1)]) (by rfl) (fun W hp => (ldn (t := 34) (p := (.tmp 21)) (by rfl) (by rfl) (by kernel_rfl) (by kernel_rfl) (by kernel_rfl) (hp.at_ 0 _ (by rfl)))) ?_
        refine sxq_nil ?_
        refine treeI_rd rfl ?_
        refine sxq_val 26 (.int .i64 ((rd_Play l0 x_10).f1)) (by rfl) (fun W hp => (ld1 (t := 3) (p := (.tmp 25)) (by rfl) (by rfl) (by kernel_rfl) (hp.cell 0 (by rfl) 2 _ (by rfl)))) ?_
        refine sxq_nil ?_
        refine treeI_ev rfl ?_
        refine sx_call 23 (by rfl) (by kernel_rfl) ((impl_Tile_digits.calls ((rd_Play l0 x_10).f0.f0) ((rd_Play l0 x_10).f0.f1) _ _ hv_21).mono ?_)
        rintro _ W_32 ⟨rfl, hb⟩
        refine ⟨_, rfl, ?_⟩
        replace hp := hp.below hb
        clear hb
        refine step_fin hp ?_
        refine treeI_rd rfl ?_
        refine sxq_val 24 (.string (t_22 ++ (⟨#[64]⟩ : ByteArray))) (by rfl) (fun W hp => (sadd_run (by rfl) (by rfl) (by rfl) (by first | omega | (show _ + 1 ≤ _; omega) | (simp; omega)))) ?_
        refine sxq_nil ?_
        refine treeI_ev rfl ?_
        refine sx_call 27 (by rfl) (by kernel_rfl) ((strconv_Itoa.calls ((rd_Play l0 x_10).f1) _ _ hv_24).mono ?_)
        rintro _ W_33 ⟨rfl, hb⟩
        refine ⟨_, rfl, ?_⟩
        replace hp := hp.below hb
        clear hb
        refine step_fin hp ?_
        refine treeI_rd rfl ?_
        refine sxq_val 28 (.string ((t_22 ++ (⟨#[64]⟩ : ByteArray)) ++ t_25)) (by rfl) (fun W hp => (sadd_run (by rfl) (by rfl) (by rfl) (by first | omega | (show _ + 1 ≤ _; omega) | (simp; omega)))) ?_
        refine sxq_nil ?_
        refine treeI_ev rfl ?_
        refine sx_lit 29 (by rfl) Kd.string w.heap.size 9 ([((t_22 ++ (⟨#[64]⟩ : ByteArray)) ++ t_25)]) [.string ((t_22 ++ (⟨#[64]⟩ : ByteArray)) ++ t_25)] (fun W => by kernel_rfl) (Reps.snoc (cs := []) (Reps.none _ _) rfl rfl) (by simp) hp.size hp ?_
        intro g_34 F_35 W_36 hp hz; clear hz
        refine step_fin hp.tail ?_
        refine treeI_fin ?_
        refine tail_of [10, 11] (by rfl) ?_
        refine tailI_op rfl ?_
        refine sx_append 30 (by rfl) Kd.string 2 (by rfl) (.string ByteArray.empty) 16 (by rfl) Tryd.underlying43 (by kernel_rfl) rfl (by decide) (by decide) ([((t_22 ++ (⟨#[64]⟩ : ByteArray)) ++ t_25)]) (by rfl) (by rfl) (row_C (hp.at_ 0 _ (by rfl))) (fun x cs h => h) hp.size (by first | omega | (simp; omega)) hp ?_
        intro A_37 c_38 F_39 W_40 hp hz; clear hz; simp only [List.set_cons_succ, List.set_cons_zero] at hp
        refine tailI_next ?_
        refine tailI_op rfl ?_
        refine sx_rd 4 (.slice A_37 ((x_9 ++ [((t_22 ++ (⟨#[64]⟩ : ByteArray)) ++ t_25)]).length) c_38) (by rfl) (by kernel_rfl) ?_
        refine tailI_next ?_
        refine tailI_nil ?_
        refine ex_blk_n ?_
        refine ex_then_n ?_
        refine sx_region ?_
        refine sx_rd 31 (.int .i64 (wrap64 (x_10 + 1))) (by rfl) (wr_w (by kernel_rfl)) ?_
        refine sx_rd 16 (.int .i64 (wrap64 (x_10 + 1))) (by rfl) (by kernel_rfl) ?_
        refine sx_nil ?_
        refine ex_then_n ?_
        exact ⟨_, (by omega), _, k_11, (wrap64 (x_10 + 1)), (x_9 ++ [(t_22 ++ (⟨#[64]⟩ : ByteArray)) ++ t_25]), _, _, _, _, rfl, fr_front [(4, .slice A_37 ((x_9 ++ [((t_22 ++ (⟨#[64]⟩ : ByteArray)) ++ t_25)]).length) c_38), (14, .slice A0 l0.length c0), (15, .int .i64 (l0.length : Int)), (16, .int .i64 (wrap64 (x_10 + 1)))] ⟨rfl, rfl, rfl, rfl, trivial⟩, (hp.take [2] 3 (by decide) (by simp)), h, (by omega)⟩
      ·
        rw [if_neg hc_18] at h
        obtain ⟨t_42, hv_41, h⟩ := Option.bind_eq_some_iff.mp h
        try dsimp only at h
        refine sx_else (decide (x_10 < (l0.length : Int))) (by rfl) (decide_eq_false hc_18) ?_
        refine wp_exit ?_
        refine ex_then_e (ex_then_e (ex_blk_here ?_))
        refine ex_then_n ?_
        refine wp_seq ?_
        refine sx_region ?_
        refine sx_rd 32 (.slice A_12 x_9.length c_14) (by rfl) (by kernel_rfl) ?_
        refine sx_call 33 (by rfl) (by kernel_rfl) ((strings_Join.calls A_12 c_14 x_9 (⟨#[44]⟩ : ByteArray) _ _ (row_C (hp.at_ 0 _ (by rfl))) (row_len (hp.at_ 0 _ (by rfl))).2 hv_41).mono ?_)
        rintro _ W_43 ⟨rfl, hb⟩
        refine ⟨_, rfl, ?_⟩
        replace hp := hp.below hb
        clear hb
        refine sx_rd 2 (.string t_42) (by rfl) (by kernel_rfl) ?_
        refine sx_rd 3 (.bool true) (by rfl) (by kernel_rfl) ?_
        refine sx_nil ?_
        refine ex_then_n ?_
        refine wp_ret ?_
        refine sx_end (.tuple #[.string t_42, .bool true]) (res2 2 3 (by rfl)) ?_
        simp only [Option.some.injEq, Prod.mk.injEq] at h; obtain ⟨rfl, rfl⟩ := h
        exact ⟨rfl, hc2 _ (hp.tail)⟩
  ·
    rw [if_neg hc_4] at h
    refine sx_then (!t_2) (by rfl) (show (!t_2) = true from by rw [(Bool.eq_false_iff.mpr hc_4)]; rfl) ?_
    refine wp_seq ?_
    refine sx_region ?_
    refine sx_rd 2 (.string (⟨#[]⟩ : ByteArray)) (by rfl) (by kernel_rfl) ?_
    refine sx_rd 3 (.bool false) (by rfl) (by kernel_rfl) ?_
    refine sx_nil ?_
    refine ex_then_n ?_
    refine wp_ret ?_
    refine ex_then_r ?_
    refine sx_end (.tuple #[.string (⟨#[]⟩ : ByteArray), .bool false]) (res2 2 3 (by rfl)) ?_
    simp only [Option.some.injEq, Prod.mk.injEq] at h; obtain ⟨rfl, rfl⟩ := h
    exact ⟨rfl, hc2 _ (hp)⟩
end
end Go.Proofs.YtddgfphbbkjmpaaDoor.Hd
