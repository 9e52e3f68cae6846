-- Printed by hprint.py and laid together by pack.py (this session's programs over the kit's print program). Lean checks it.
import Derived.Test.YtokkiiepddhkiaaDoorMSx5
import Derived.Test.YtokkiiepddhkiaaDoorMSxL
import Derived.Test.YtokkiiepddhkiaaDoorMMx
import Derived.Test.YtokkiiepddhkiaaDoorG0
import Derived.Test.YtokkiiepddhkiaaDoorMStrs
import Derived.Test.YtokkiiepddhkiaaDoorG1
namespace Go.Proofs.YtokkiiepddhkiaaDoor.Hd
section
open Go.RowKit Go.Proofs.YtokkiiepddhkiaaDoorW.PrintWords Go.Proofs.YtokkiiepddhkiaaDoorW.PrintLast Go.Proofs.YtokkiiepddhkiaaDoorW.PrintMore
attribute [local go_sem] max2_int min2_int max_two min_two max_three min_three max_four min_four   -- for this text's walks alone
set_option linter.unusedVariables false
set_option linter.unusedSimpArgs false

mutual
def spec_taRead.l0 : Nat → List ByteArray → Int → Int → Int → Int → List Int → Option (Int × Int × List Int × Bool)
  | 0, _, _, _, _, _, _ => none
  | k + 1, x25, x26, x27, x120000, x120001, x120002 => if x27 < x26 then (if 0 ≤ x27 then (if x27 < (x25.length : Int) then (spec_taRead.l1 k (rdOf ByteArray.empty x25 x27) 0 x25 x26 x27 x120000 x120001 x120002) else (none)) else (none)) else (some (x120000, x120001, x120002, true))
def spec_taRead.l1 : Nat → ByteArray → Int → List ByteArray → Int → Int → Int → Int → List Int → Option (Int × Int × List Int × Bool)
  | 0, _, _, _, _, _, _, _, _ => none
  | k + 1, x8, x9, x25, x26, x27, x120000, x120001, x120002 => if x9 < (x8.size : Int) then (if 0 ≤ x9 then (if (bt x8 x9) < 48 then (some (0, 0, ([] : List Int), false)) else (if (bt x8 x9) > 57 then (some (0, 0, ([] : List Int), false)) else (if x120002.length < 17592186044416 then (spec_taRead.l1 k x8 (wrap64 (x9 + 1)) x25 x26 x27 x120000 x120001 (x120002 ++ [((bt x8 x9) - 48) % 256])) else (none)))) else (none)) else (spec_taRead.l0 k x25 x26 (wrap64 (x27 + 1)) x120000 x120001 x120002)
end
def spec_taRead.f (k : Nat) (a0 : ByteArray) : Option (Int × Int × List Int × Bool) := (spec_taRows.f k a0).bind fun bt114 => (if bt114.2 = true then (if 0 < (bt114.1.length : Int) then (spec_taRead.l0 k bt114.1 (bt114.1.length : Int) 0 ((rdOf ByteArray.empty bt114.1 0).size : Int) (bt114.1.length : Int) ([] : List Int)) else (none)) else (some (0, 0, ([] : List Int), false)))
set_option maxRecDepth 100000 in
set_option maxHeartbeats 40000000 in
theorem spec_taRead.calls (k : Nat) (a0 : ByteArray) (r1 : Int) (r2 : Int) (r3 : List Int) (r4 : Bool) (w : World) (h : spec_taRead.f k a0 = some (r1, r2, r3, r4)) :
    Calls Tryd.prog 15 #[.string a0] w fun e w' => ∃ v2_ : Value, e = .returned (.tuple #[.agg #[.int .i64 r1, .int .i64 r2, v2_], .bool r4]) ∧ Kd.R (Kd.int .i64) 3 w' w.heap.size (fun _ => True) v2_ r3 ∧ Below w.heap.size w w' := by
  obtain ⟨cs, hcs⟩ : ∃ cs, cs = [old w w.heap.size] := ⟨_, rfl⟩
  have hp : Hp w cs w := by rw [hcs]; exact Hp.old_start w
  have hc2 : ∀ W, Hp w cs W → Below w.heap.size w W := fun W h => by rw [hcs] at h; exact h.since 0 _ rfl
  clear hcs
  unfold spec_taRead.f at h
  obtain ⟨⟨t_2, t_3⟩, hv_1, h⟩ := Option.bind_eq_some_iff.mp h
  try dsimp only at h
  refine sx_enter (N := 60) (l := [.string a0]) Tryd.func15 rfl rfl rfl ?_
  refine wp_seq ?_
  refine sx_region ?_
  refine sx_box 2 hp #[.int .i64 0, .int .i64 0, .slice none 0 0] 36 (by rfl) (fun W => by kernel_rfl) ?_
  intro g_4 W_5 hp
  refine sx_rd 3 (.bool false) (by rfl) (by kernel_rfl) ?_
  refine sx_nil ?_
  refine ex_then_n ?_
  refine wp_seq ?_
  refine sx_region ?_
  refine sx_rd 11 (.string a0) (by rfl) (by kernel_rfl) ?_
  refine sx_call 12 (by rfl) (by kernel_rfl) ((spec_taRows.calls _ a0 _ _ _ hv_1).mono ?_)
  rintro _ W_11 ⟨v_7, rfl, hR_6, hb⟩
  refine ⟨_, rfl, ?_⟩
  obtain ⟨A_8, c_9, rfl, hcc_c_9, _⟩ := Kd.R_reads hR_6
  obtain ⟨F_10, hp⟩ : ∃ F, Hp w (row Kd.string 9 w.heap.size (.slice A_8 t_2.length c_9) t_2 F :: blk g_4 #[.int .i64 0, .int .i64 0, .slice none 0 0] 36 :: cs) _ := ⟨_, Hp.made hp hb hR_6⟩
  refine sx_rd 10 (.tuple #[.slice A_8 t_2.length c_9, .bool t_3]) (by rfl) (by kernel_rfl) ?_
  refine sx_rd 13 (.slice A_8 t_2.length c_9) (by rfl) (by kernel_rfl) ?_
  refine sx_rd 14 (.bool t_3) (by rfl) (by kernel_rfl) ?_
  refine sx_rd 4 (.slice A_8 t_2.length c_9) (by rfl) (by kernel_rfl) ?_
  refine sx_rd 5 (.bool t_3) (by rfl) (by kernel_rfl) ?_
  refine sx_nil ?_
  refine ex_then_n ?_
  refine wp_seq ?_
  refine wp_seq ?_
  refine sx_region ?_
  refine sx_rd 15 (.bool t_3) (by rfl) (by kernel_rfl) ?_
  refine sx_rd 16 (.bool (!t_3)) (by rfl) (by kernel_rfl) ?_
  refine sx_nil ?_
  refine ex_then_n ?_
  by_cases hc_12 : t_3 = true
  ·
    rw [if_pos hc_12] at h
    by_cases hc_13 : 0 < (t_2.length : Int)
    case neg => rw [if_neg hc_13] at h; cases h
    rw [if_pos hc_13] at h
    refine sx_else (!t_3) (by rfl) (show (!t_3) = false from by rw [hc_12]; rfl) ?_
    refine wp_skip ?_
    refine ex_then_n ?_
    refine wp_seq ?_
    refine sx_region ?_
    refine sx_rd 18 (.slice A_8 t_2.length c_9) (by rfl) (by kernel_rfl) ?_
    refine sx_rd 19 (.pointer (some (adr A_8 0 1))) (by rfl) (ix_run (d := Kd.string) (row_C (hp.at_ 0 _ (by rfl))) (t := 40) (by rfl) (by rfl) (by rfl) Tryd.underlying40 (by kernel_rfl) (by omega) (by omega)) ?_
    refine sx_rd 20 (.string (rdOf ByteArray.empty t_2 0)) (by rfl) (ld1 (t := 9) (p := (.tmp 19)) (by rfl) (by rfl) (by kernel_rfl) (el_cell (d := Kd.string) (row_C (hp.at_ 0 _ (by rfl))) ByteArray.empty 0 (by omega) (by omega) (cells := [.string (rdOf ByteArray.empty t_2 0)]) (fun cs h => h) 0 _ (by rfl))) ?_
    refine sx_rd 21 (.int .i64 ((rdOf ByteArray.empty t_2 0).size : Int)) (by rfl) (by kernel_rfl) ?_
    refine sx_rd 22 (.slice A_8 t_2.length c_9) (by rfl) (by kernel_rfl) ?_
    refine sx_rd 23 (.int .i64 (t_2.length : Int)) (by rfl) (by kernel_rfl) ?_
    refine sx_rd 24 (.agg #[.int .i64 ((rdOf ByteArray.empty t_2 0).size : Int), .int .i64 (t_2.length : Int), .slice none 0 0]) (by rfl) (by kernel_rfl) ?_
    refine sx_box 6 hp #[.int .i64 0, .int .i64 0, .slice none 0 0] 36 (by rfl) (fun W => by kernel_rfl) ?_
    intro g_14 W_15 hp
    refine sx_store (t := 36) (p := (.tmp 6)) (x := (.tmp 24)) (by rfl) (by rfl) 0 (by rfl) 0 [.int .i64 ((rdOf ByteArray.empty t_2 0).size : Int), .int .i64 (t_2.length : Int), .slice none 0 0] (by rfl) (by rfl) (by kernel_rfl) (by simp [Value.oneCell']) (by show 3 ≤ 3; omega) #[.int .i64 ((rdOf ByteArray.empty t_2 0).size : Int), .int .i64 (t_2.length : Int), .slice none 0 0] (by rfl) hp ?_
    intro W_16 hp; simp only [List.set_cons_succ, List.set_cons_zero] at hp
    refine sx_nil ?_
    refine ex_then_n ?_
    refine wp_seq ?_
    refine wp_seq ?_
    refine sx_region ?_
    refine sx_rd 25 (.slice A_8 t_2.length c_9) (by rfl) (by kernel_rfl) ?_
    refine sx_rd 26 (.int .i64 (t_2.length : Int)) (by rfl) (by kernel_rfl) ?_
    refine sx_rd 27 (.int .i64 0) (by rfl) (by kernel_rfl) ?_
    refine sx_nil ?_
    refine ex_then_n ?_
    refine wp_block ?_
    have hp := hp.nilrow (Kd.int .i64) 3 w.heap.size
    refine wp_loop_ghost (fun n_ a_ W => ∃ (r_ : List (Nat × Value)) (k_19 : Nat) (x_17 : Int) (x_18 : List Int) (A_20 : Option Addr) (n_21 c_22 : Nat) (F_23 : Nat → Prop), n_ = k_19 + 1 ∧ a_ = fr 60 ([(2, .pointer (some ⟨g_4, 0, none⟩)), (6, .pointer (some ⟨g_14, 0, none⟩)), (25, .slice A_8 t_2.length c_9), (26, .int .i64 (t_2.length : Int)), (27, .int .i64 x_17)] ++ r_) ∧ Hp w (row (Kd.int .i64) 3 w.heap.size (.slice A_20 n_21 c_22) x_18 F_23 :: blk g_14 #[.int .i64 ((rdOf ByteArray.empty t_2 0).size : Int), .int .i64 (t_2.length : Int), .slice A_20 n_21 c_22] 36 :: row Kd.string 9 w.heap.size (.slice A_8 t_2.length c_9) t_2 F_10 :: blk g_4 #[.int .i64 0, .int .i64 0, .slice none 0 0] 36 :: cs) W ∧ (spec_taRead.l0 k_19 t_2 (t_2.length : Int) x_17 ((rdOf ByteArray.empty t_2 0).size : Int) (t_2.length : Int) x_18 = some (r1, r2, r3, r4)) ∧ (k_19 ≤ k)) _ ⟨_, k, 0, ([] : List Int), _, _, _, _, rfl, fr_front [(2, .pointer (some ⟨g_4, 0, none⟩)), (6, .pointer (some ⟨g_14, 0, none⟩)), (25, .slice A_8 t_2.length c_9), (26, .int .i64 (t_2.length : Int)), (27, .int .i64 0)] ⟨rfl, rfl, rfl, rfl, rfl, trivial⟩, (hp.take [0, 1, 2, 3] 4 (by decide) (by simp)), h, (Nat.le_refl _)⟩ ?_
    rintro _ _ W_25 ⟨r_, k_19, x_17, x_18, A_20, n_21, c_22, F_23, rfl, rfl, hp, h, hk_24⟩
    obtain ⟨rfl, -⟩ := row_len (hp.at_ 0 _ (by rfl))
    rcases k_19 with _ | k_19
    · simp [spec_taRead.l0] at h
    simp only [spec_taRead.l0] at h
    refine wp_seq ?_
    refine sx_region ?_
    refine sx_rd 28 (.bool (decide (x_17 < (t_2.length : Int)))) (by rfl) (by kernel_rfl) ?_
    refine sx_nil ?_
    refine ex_then_n ?_
    refine wp_seq ?_
    by_cases hc_26 : x_17 < (t_2.length : Int)
    ·
      rw [if_pos hc_26] at h
      by_cases hc_27 : 0 ≤ x_17
      case neg => rw [if_neg hc_27] at h; cases h
      rw [if_pos hc_27] at h
      by_cases hc_28 : x_17 < (t_2.length : Int)
      case neg => rw [if_neg hc_28] at h; cases h
      rw [if_pos hc_28] at h
      refine sx_then (decide (x_17 < (t_2.length : Int))) (by rfl) (decide_eq_true hc_26) ?_
      refine wp_skip ?_
      refine ex_then_n ?_
      refine wp_seq ?_
      refine wp_block ?_
      refine wp_seq ?_
      refine sx_region ?_
      refine sx_rd 29 (.pointer (some (adr A_8 x_17 1))) (by rfl) (ix_run (d := Kd.string) (row_C (hp.at_ 2 _ (by rfl))) (t := 40) (by rfl) (by rfl) (by rfl) Tryd.underlying40 (by kernel_rfl) (by omega) (by omega)) ?_
      refine sx_rd 30 (.string (rdOf ByteArray.empty t_2 x_17)) (by rfl) (ld1 (t := 9) (p := (.tmp 29)) (by rfl) (by rfl) (by kernel_rfl) (el_cell (d := Kd.string) (row_C (hp.at_ 2 _ (by rfl))) ByteArray.empty x_17 (by omega) (by omega) (cells := [.string (rdOf ByteArray.empty t_2 x_17)]) (fun cs h => h) 0 _ (by rfl))) ?_
      refine sx_rd 8 (.string (rdOf ByteArray.empty t_2 x_17)) (by rfl) (by kernel_rfl) ?_
      refine sx_nil ?_
      refine ex_then_n ?_
      refine wp_seq ?_
      refine sx_region ?_
      refine sx_rd 9 (.int .i64 0) (by rfl) (by kernel_rfl) ?_
      refine sx_nil ?_
      refine ex_then_n ?_
      refine wp_block ?_
      refine wp_loop_ghost (fun n_ a_ W => ∃ (r_ : List (Nat × Value)) (k_31 : Nat) (x_29 : Int) (x_30 : List Int) (A_32 : Option Addr) (n_33 c_34 : Nat) (F_35 : Nat → Prop), n_ = k_31 + 1 ∧ a_ = fr 60 ([(2, .pointer (some ⟨g_4, 0, none⟩)), (6, .pointer (some ⟨g_14, 0, none⟩)), (8, .string (rdOf ByteArray.empty t_2 x_17)), (9, .int .i64 x_29), (25, .slice A_8 t_2.length c_9), (26, .int .i64 (t_2.length : Int)), (27, .int .i64 x_17)] ++ r_) ∧ Hp w (row (Kd.int .i64) 3 w.heap.size (.slice A_32 n_33 c_34) x_30 F_35 :: blk g_14 #[.int .i64 ((rdOf ByteArray.empty t_2 0).size : Int), .int .i64 (t_2.length : Int), .slice A_32 n_33 c_34] 36 :: row Kd.string 9 w.heap.size (.slice A_8 t_2.length c_9) t_2 F_10 :: blk g_4 #[.int .i64 0, .int .i64 0, .slice none 0 0] 36 :: cs) W ∧ (spec_taRead.l1 k_31 (rdOf ByteArray.empty t_2 x_17) x_29 t_2 (t_2.length : Int) x_17 ((rdOf ByteArray.empty t_2 0).size : Int) (t_2.length : Int) x_30 = some (r1, r2, r3, r4)) ∧ (k_31 ≤ k_19)) _ ⟨_, k_19, 0, x_18, _, _, _, _, rfl, fr_front [(2, .pointer (some ⟨g_4, 0, none⟩)), (6, .pointer (some ⟨g_14, 0, none⟩)), (8, .string (rdOf ByteArray.empty t_2 x_17)), (9, .int .i64 0), (25, .slice A_8 t_2.length c_9), (26, .int .i64 (t_2.length : Int)), (27, .int .i64 x_17)] ⟨rfl, rfl, rfl, rfl, rfl, rfl, rfl, trivial⟩, (hp.take [0, 1, 2, 3] 4 (by decide) (by simp)), h, (Nat.le_refl _)⟩ ?_
      rintro _ _ W_37 ⟨r_, k_31, x_29, x_30, A_32, n_33, c_34, F_35, rfl, rfl, hp, h, hk_36⟩
      obtain ⟨rfl, -⟩ := row_len (hp.at_ 0 _ (by rfl))
      rcases k_31 with _ | k_31
      · simp [spec_taRead.l1] at h
      simp only [spec_taRead.l1] at h
      refine wp_seq ?_
      refine wp_seq ?_
      refine sx_region ?_
      refine sx_rd 31 (.int .i64 x_29) (by rfl) (by kernel_rfl) ?_
      refine sx_rd 32 (.string (rdOf ByteArray.empty t_2 x_17)) (by rfl) (by kernel_rfl) ?_
      refine sx_rd 33 (.int .i64 ((rdOf ByteArray.empty t_2 x_17).size : Int)) (by rfl) (by kernel_rfl) ?_
      refine sx_rd 34 (.bool (decide (x_29 < ((rdOf ByteArray.empty t_2 x_17).size : Int)))) (by rfl) (by kernel_rfl) ?_
      refine sx_nil ?_
      refine ex_then_n ?_
      by_cases hc_38 : x_29 < ((rdOf ByteArray.empty t_2 x_17).size : Int)
      ·
        rw [if_pos hc_38] at h
        by_cases hc_39 : 0 ≤ x_29
        case neg => rw [if_neg hc_39] at h; cases h
        rw [if_pos hc_39] at h
        refine sx_then (decide (x_29 < ((rdOf ByteArray.empty t_2 x_17).size : Int))) (by rfl) (decide_eq_true hc_38) ?_
        refine wp_skip ?_
        refine ex_then_n ?_
        refine wp_seq ?_
        refine wp_block ?_
        refine wp_seq ?_
        refine wp_seq ?_
        by_cases hc_40 : (bt (rdOf ByteArray.empty t_2 x_17) x_29) < 48
        ·
          rw [if_pos hc_40] at h
          refine sx_region ?_
          refine sx_rd 37 (.string (rdOf ByteArray.empty t_2 x_17)) (by rfl) (by kernel_rfl) ?_
          refine sx_rd 38 (.int .i64 x_29) (by rfl) (by kernel_rfl) ?_
          refine sx_rd 39 (.int .u8 (bt (rdOf ByteArray.empty t_2 x_17) x_29)) (by rfl) (stri_run (by rfl) (by rfl) (by rfl) Tryd.underlying9 (by omega) (by omega)) ?_
          refine sx_rd 40 (.bool true) (by rfl) (bv (decide_eq_true hc_40) (by kernel_rfl)) ?_
          refine sx_rd 41 (.bool true) (by rfl) (by kernel_rfl) ?_
          refine sx_skip 42 (by rfl) (by rfl) (by rfl) ?_
          refine sx_skip 43 (by rfl) (by rfl) (by rfl) ?_
          refine sx_skip 44 (by rfl) (by rfl) (by rfl) ?_
          refine sx_skip 45 (by rfl) (by rfl) (by rfl) ?_
          refine sx_rd 46 (.bool true) (by rfl) (by kernel_rfl) ?_
          refine sx_nil ?_
          refine ex_then_n ?_
          refine sx_then true (by rfl) rfl ?_
          refine wp_seq ?_
          refine sx_region ?_
          refine sx_rd 47 (.agg #[.int .i64 0, .int .i64 0, .slice none 0 0]) (by rfl) (by kernel_rfl) ?_
          refine sx_store (t := 36) (p := (.tmp 2)) (x := (.tmp 47)) (by rfl) (by rfl) 3 (by rfl) 0 [.int .i64 0, .int .i64 0, .slice none 0 0] (by rfl) (by rfl) (by kernel_rfl) (by simp [Value.oneCell']) (by show 3 ≤ 3; omega) #[.int .i64 0, .int .i64 0, .slice none 0 0] (by rfl) hp ?_
          intro W_41 hp; simp only [List.set_cons_succ, List.set_cons_zero] at hp
          refine sx_rd 3 (.bool false) (by rfl) (by kernel_rfl) ?_
          refine sx_nil ?_
          refine ex_then_n ?_
          refine wp_ret ?_
          refine ex_then_r (ex_blk_r (ex_then_r (ex_then_r (ex_blk_r (ex_blk_r (ex_then_r (ex_then_r (ex_blk_r (ex_then_r ?_)))))))))
          refine sx_end (.tuple #[.agg #[.int .i64 0, .int .i64 0, .slice none 0 0], .bool false]) (rescT (p := 2) (u := 3) (by rfl) (by rfl) (by kernel_rfl) (by kernel_rfl) (hp.at_ 3 _ (by rfl))) ?_
          simp only [Option.some.injEq, Prod.mk.injEq] at h; obtain ⟨rfl, rfl, rfl, rfl⟩ := h
          exact ⟨_, rfl, Kd.R_nil _ _ _ _ _, hc2 _ (hp.tail.tail.tail.tail)⟩
        ·
          rw [if_neg hc_40] at h
          refine sx_region ?_
          refine sx_rd 37 (.string (rdOf ByteArray.empty t_2 x_17)) (by rfl) (by kernel_rfl) ?_
          refine sx_rd 38 (.int .i64 x_29) (by rfl) (by kernel_rfl) ?_
          refine sx_rd 39 (.int .u8 (bt (rdOf ByteArray.empty t_2 x_17) x_29)) (by rfl) (stri_run (by rfl) (by rfl) (by rfl) Tryd.underlying9 (by omega) (by omega)) ?_
          refine sx_rd 40 (.bool false) (by rfl) (bv (decide_eq_false hc_40) (by kernel_rfl)) ?_
          refine sx_rd 41 (.bool false) (by rfl) (by kernel_rfl) ?_
          refine sx_want (by rfl) ?_
          refine sx_rd 42 (.string (rdOf ByteArray.empty t_2 x_17)) (by rfl) (by kernel_rfl) ?_
          refine sx_want (by rfl) ?_
          refine sx_rd 43 (.int .i64 x_29) (by rfl) (by kernel_rfl) ?_
          refine sx_want (by rfl) ?_
          refine sx_rd 44 (.int .u8 (bt (rdOf ByteArray.empty t_2 x_17) x_29)) (by rfl) (stri_run (by rfl) (by rfl) (by rfl) Tryd.underlying9 (by omega) (by omega)) ?_
          refine sx_want (by rfl) ?_
          refine sx_rd 45 (.bool (decide ((bt (rdOf ByteArray.empty t_2 x_17) x_29) > 57))) (by rfl) (by kernel_rfl) ?_
          refine sx_rd 46 (.bool (decide ((bt (rdOf ByteArray.empty t_2 x_17) x_29) > 57))) (by rfl) (by kernel_rfl) ?_
          refine sx_nil ?_
          refine ex_then_n ?_
          by_cases hc_42 : (bt (rdOf ByteArray.empty t_2 x_17) x_29) > 57
          ·
            rw [if_pos hc_42] at h
            refine sx_then (decide ((bt (rdOf ByteArray.empty t_2 x_17) x_29) > 57)) (by rfl) (decide_eq_true hc_42) ?_
            refine wp_seq ?_
            refine sx_region ?_
            refine sx_rd 47 (.agg #[.int .i64 0, .int .i64 0, .slice none 0 0]) (by rfl) (by kernel_rfl) ?_
            refine sx_store (t := 36) (p := (.tmp 2)) (x := (.tmp 47)) (by rfl) (by rfl) 3 (by rfl) 0 [.int .i64 0, .int .i64 0, .slice none 0 0] (by rfl) (by rfl) (by kernel_rfl) (by simp [Value.oneCell']) (by show 3 ≤ 3; omega) #[.int .i64 0, .int .i64 0, .slice none 0 0] (by rfl) hp ?_
            intro W_43 hp; simp only [List.set_cons_succ, List.set_cons_zero] at hp
            refine sx_rd 3 (.bool false) (by rfl) (by kernel_rfl) ?_
            refine sx_nil ?_
            refine ex_then_n ?_
            refine wp_ret ?_
            refine ex_then_r (ex_blk_r (ex_then_r (ex_then_r (ex_blk_r (ex_blk_r (ex_then_r (ex_then_r (ex_blk_r (ex_then_r ?_)))))))))
            refine sx_end (.tuple #[.agg #[.int .i64 0, .int .i64 0, .slice none 0 0], .bool false]) (rescT (p := 2) (u := 3) (by rfl) (by rfl) (by kernel_rfl) (by kernel_rfl) (hp.at_ 3 _ (by rfl))) ?_
            simp only [Option.some.injEq, Prod.mk.injEq] at h; obtain ⟨rfl, rfl, rfl, rfl⟩ := h
            exact ⟨_, rfl, Kd.R_nil _ _ _ _ _, hc2 _ (hp.tail.tail.tail.tail)⟩
          ·
            rw [if_neg hc_42] at h
            by_cases hc_44 : x_30.length < 17592186044416
            case neg => rw [if_neg hc_44] at h; cases h
            rw [if_pos hc_44] at h
            refine sx_else (decide ((bt (rdOf ByteArray.empty t_2 x_17) x_29) > 57)) (by rfl) (decide_eq_false hc_42) ?_
            refine wp_skip ?_
            refine ex_then_n ?_
            refine sx_drawT [0, 2, 3, 4, 5, 6] (.rd 1 (.alt 7 (.fin) .non)) 8 (C := Hp w (row (Kd.int .i64) 3 w.heap.size (.slice A_32 x_30.length c_34) x_30 F_35 :: blk g_14 #[.int .i64 ((rdOf ByteArray.empty t_2 0).size : Int), .int .i64 (t_2.length : Int), .slice A_32 x_30.length c_34] 36 :: row Kd.string 9 w.heap.size (.slice A_8 t_2.length c_9) t_2 F_10 :: blk g_4 #[.int .i64 0, .int .i64 0, .slice none 0 0] 36 :: cs)) (by kernel_rfl) (by kernel_rfl) (fun d _ _ _ _ h => by cases d <;> exact h) (fun W h => h.drew) hp ?_
            refine preI_read rfl ?_
            refine sxq_val 48 (.pointer (some ⟨g_14, 2, none⟩)) (by rfl) (fun W _ => (by kernel_rfl)) ?_
            refine sxq_nil ?_
            refine preI_read rfl ?_
            refine sxq_val 50 (.string (rdOf ByteArray.empty t_2 x_17)) (by rfl) (fun W _ => (by kernel_rfl)) ?_
            refine sxq_nil ?_
            refine preI_read rfl ?_
            refine sxq_val 51 (.int .i64 x_29) (by rfl) (fun W _ => (by kernel_rfl)) ?_
            refine sxq_nil ?_
            refine preI_read rfl ?_
            refine sxq_val 52 (.int .u8 (bt (rdOf ByteArray.empty t_2 x_17) x_29)) (by rfl) (fun W _ => (stri_run (by rfl) (by rfl) (by rfl) Tryd.underlying9 (by omega) (by omega))) ?_
            refine sxq_nil ?_
            refine preI_read rfl ?_
            refine sxq_val 53 (.int .u8 (((bt (rdOf ByteArray.empty t_2 x_17) x_29) - 48) % 256)) (by rfl) (fun W _ => (u8_w (by kernel_rfl))) ?_
            refine sxq_nil ?_
            refine preI_read rfl ?_
            refine sxq_val 54 (.int .i64 (((bt (rdOf ByteArray.empty t_2 x_17) x_29) - 48) % 256)) (by rfl) (fun W _ => (wr_ok (by omega) (cvt_run (by rfl) (by rfl) Tryd.underlying5 Tryd.underlying3))) ?_
            refine sxq_nil ?_
            refine preI_nil ?_
            intro W_45 hp
            refine treeI_rd rfl ?_
            refine sxq_val 49 (.slice A_32 x_30.length c_34) (by rfl) (fun W hp => (ld1 (t := 34) (p := (.tmp 48)) (by rfl) (by rfl) (by kernel_rfl) (hp.cell 1 (by rfl) 2 _ (by rfl)))) ?_
            refine sxq_nil ?_
            refine treeI_ev rfl ?_
            refine sx_lit 55 (by rfl) (Kd.int .i64) w.heap.size 3 ([(((bt (rdOf ByteArray.empty t_2 x_17) x_29) - 48) % 256)]) [.int .i64 (((bt (rdOf ByteArray.empty t_2 x_17) x_29) - 48) % 256)] (fun W => by kernel_rfl) (Reps.snoc (cs := []) (Reps.none _ _) rfl rfl) (by simp) hp.size hp ?_
            intro g_46 F_47 W_48 hp hz; clear hz
            refine step_fin hp.tail ?_
            refine treeI_fin ?_
            refine tail_of [8, 9, 10] (by rfl) ?_
            refine tailI_op rfl ?_
            refine sx_append 56 (by rfl) (Kd.int .i64) 1 (by rfl) (.int .i64 0) 8 (by rfl) Tryd.underlying34 (by kernel_rfl) rfl (by decide) (by decide) ([(((bt (rdOf ByteArray.empty t_2 x_17) x_29) - 48) % 256)]) (by rfl) (by rfl) (row_C (hp.at_ 0 _ (by rfl))) (fun x cs h => h) hp.size (by first | omega | (simp; omega)) hp ?_
            intro A_49 c_50 F_51 W_52 hp hz; clear hz; simp only [List.set_cons_succ, List.set_cons_zero] at hp
            refine tailI_next ?_
            refine tailI_op rfl ?_
            refine sx_rd 57 (.pointer (some ⟨g_14, 2, none⟩)) (by rfl) (by kernel_rfl) ?_
            refine tailI_next ?_
            refine tailI_op rfl ?_
            refine sx_store (t := 34) (p := (.tmp 57)) (x := (.tmp 56)) (by rfl) (by rfl) 2 (by rfl) 2 [.slice A_49 ((x_30 ++ [(((bt (rdOf ByteArray.empty t_2 x_17) x_29) - 48) % 256)]).length) c_50] (by rfl) (by rfl) (by kernel_rfl) (by simp [Value.oneCell']) (by show 3 ≤ 3; omega) #[.int .i64 ((rdOf ByteArray.empty t_2 0).size : Int), .int .i64 (t_2.length : Int), .slice A_49 ((x_30 ++ [(((bt (rdOf ByteArray.empty t_2 x_17) x_29) - 48) % 256)]).length) c_50] (by rfl) hp ?_
            intro W_53 hp; simp only [List.set_cons_succ, List.set_cons_zero] at hp
            refine tailI_next ?_
            refine tailI_nil ?_
            refine ex_blk_n ?_
            refine ex_then_n ?_
            refine sx_region ?_
            refine sx_rd 35 (.int .i64 x_29) (by rfl) (by kernel_rfl) ?_
            refine sx_rd 36 (.int .i64 (wrap64 (x_29 + 1))) (by rfl) (wr_w (by kernel_rfl)) ?_
            refine sx_rd 9 (.int .i64 (wrap64 (x_29 + 1))) (by rfl) (by kernel_rfl) ?_
            refine sx_nil ?_
            refine ex_then_n ?_
            exact ⟨_, (by omega), _, k_31, (wrap64 (x_29 + 1)), (x_30 ++ [((bt (rdOf ByteArray.empty t_2 x_17) x_29) - 48) % 256]), _, _, _, _, rfl, fr_front [(2, .pointer (some ⟨g_4, 0, none⟩)), (6, .pointer (some ⟨g_14, 0, none⟩)), (8, .string (rdOf ByteArray.empty t_2 x_17)), (9, .int .i64 (wrap64 (x_29 + 1))), (25, .slice A_8 t_2.length c_9), (26, .int .i64 (t_2.length : Int)), (27, .int .i64 x_17)] ⟨rfl, rfl, rfl, rfl, rfl, rfl, rfl, trivial⟩, (hp.take [1, 2, 3, 4] 5 (by decide) (by simp)), h, (by omega)⟩
      ·
        rw [if_neg hc_38] at h
        refine sx_else (decide (x_29 < ((rdOf ByteArray.empty t_2 x_17).size : Int))) (by rfl) (decide_eq_false hc_38) ?_
        refine wp_exit ?_
        refine ex_then_e (ex_then_e (ex_blk_here ?_))
        refine ex_blk_n ?_
        refine ex_then_n ?_
        refine sx_region ?_
        refine sx_rd 58 (.int .i64 (wrap64 (x_17 + 1))) (by rfl) (wr_w (by kernel_rfl)) ?_
        refine sx_rd 27 (.int .i64 (wrap64 (x_17 + 1))) (by rfl) (by kernel_rfl) ?_
        refine sx_nil ?_
        refine ex_then_n ?_
        exact ⟨_, (by omega), _, k_31, (wrap64 (x_17 + 1)), x_30, _, _, _, _, rfl, fr_front [(2, .pointer (some ⟨g_4, 0, none⟩)), (6, .pointer (some ⟨g_14, 0, none⟩)), (25, .slice A_8 t_2.length c_9), (26, .int .i64 (t_2.length : Int)), (27, .int .i64 (wrap64 (x_17 + 1)))] ⟨rfl, rfl, rfl, rfl, rfl, trivial⟩, (hp.take [0, 1, 2, 3] 4 (by decide) (by simp)), h, (by omega)⟩
    ·
      rw [if_neg hc_26] at h
      refine sx_else (decide (x_17 < (t_2.length : Int))) (by rfl) (decide_eq_false hc_26) ?_
      refine wp_exit ?_
      refine ex_then_e (ex_then_e (ex_blk_here ?_))
      refine ex_then_n ?_
      refine wp_seq ?_
      refine sx_region ?_
      refine sx_rd 59 (.agg #[.int .i64 ((rdOf ByteArray.empty t_2 0).size : Int), .int .i64 (t_2.length : Int), .slice A_20 x_18.length c_22]) (by rfl) (ldn (t := 36) (p := (.tmp 6)) (by rfl) (by rfl) (by kernel_rfl) (by kernel_rfl) (by kernel_rfl) (hp.at_ 1 _ (by rfl))) ?_
      refine sx_store (t := 36) (p := (.tmp 2)) (x := (.tmp 59)) (by rfl) (by rfl) 3 (by rfl) 0 [.int .i64 ((rdOf ByteArray.empty t_2 0).size : Int), .int .i64 (t_2.length : Int), .slice A_20 x_18.length c_22] (by rfl) (by rfl) (by kernel_rfl) (by simp [Value.oneCell']) (by show 3 ≤ 3; omega) #[.int .i64 ((rdOf ByteArray.empty t_2 0).size : Int), .int .i64 (t_2.length : Int), .slice A_20 x_18.length c_22] (by rfl) hp ?_
      intro W_54 hp; simp only [List.set_cons_succ, List.set_cons_zero] at hp
      refine sx_rd 3 (.bool true) (by rfl) (by kernel_rfl) ?_
      refine sx_nil ?_
      refine ex_then_n ?_
      refine wp_ret ?_
      refine sx_end (.tuple #[.agg #[.int .i64 ((rdOf ByteArray.empty t_2 0).size : Int), .int .i64 (t_2.length : Int), .slice A_20 x_18.length c_22], .bool true]) (rescT (p := 2) (u := 3) (by rfl) (by rfl) (by kernel_rfl) (by kernel_rfl) (hp.at_ 3 _ (by rfl))) ?_
      simp only [Option.some.injEq, Prod.mk.injEq] at h; obtain ⟨rfl, rfl, rfl, rfl⟩ := h
      exact ⟨_, rfl, Kd.R_mono (row_R (hp.at_ 0 _ (by rfl))) (fun _ _ => trivial), hc2 _ (hp.tail.tail.tail.tail)⟩
  ·
    rw [if_neg hc_12] at h
    refine sx_then (!t_3) (by rfl) (show (!t_3) = true from by rw [(Bool.eq_false_iff.mpr hc_12)]; rfl) ?_
    refine wp_seq ?_
    refine sx_region ?_
    refine sx_rd 17 (.agg #[.int .i64 0, .int .i64 0, .slice none 0 0]) (by rfl) (by kernel_rfl) ?_
    refine sx_store (t := 36) (p := (.tmp 2)) (x := (.tmp 17)) (by rfl) (by rfl) 1 (by rfl) 0 [.int .i64 0, .int .i64 0, .slice none 0 0] (by rfl) (by rfl) (by kernel_rfl) (by simp [Value.oneCell']) (by show 3 ≤ 3; omega) #[.int .i64 0, .int .i64 0, .slice none 0 0] (by rfl) hp ?_
    intro W_55 hp; simp only [List.set_cons_succ, List.set_cons_zero] at hp
    refine sx_rd 3 (.bool false) (by rfl) (by kernel_rfl) ?_
    refine sx_nil ?_
    refine ex_then_n ?_
    refine wp_ret ?_
    refine ex_then_r ?_
    refine sx_end (.tuple #[.agg #[.int .i64 0, .int .i64 0, .slice none 0 0], .bool false]) (rescT (p := 2) (u := 3) (by rfl) (by rfl) (by kernel_rfl) (by kernel_rfl) (hp.at_ 1 _ (by rfl))) ?_
    simp only [Option.some.injEq, Prod.mk.injEq] at h; obtain ⟨rfl, rfl, rfl, rfl⟩ := h
    exact ⟨_, rfl, Kd.R_nil _ _ _ _ _, hc2 _ (hp.tail.tail)⟩
end
section
open Go.RowKit Go.Proofs.YtokkiiepddhkiaaDoorW.PrintWords Go.Proofs.YtokkiiepddhkiaaDoorW.PrintLast Go.Proofs.YtokkiiepddhkiaaDoorW.PrintMore
attribute [local go_sem] max2_int min2_int max_two min_two max_three min_three max_four min_four   -- for this text's walks alone
set_option linter.unusedVariables false
set_option linter.unusedSimpArgs false

def spec_taDigits.l0 : Nat → ByteArray → List Int → Int → Int → Int → Int → List Int → Option (ByteArray)
  | 0, _, _, _, _, _, _, _ => none
  | k + 1, x3, x7, x8, x9, x132000, x132001, x132002 => if x9 < x8 then (if 0 ≤ x9 then (if x9 < (x7.length : Int) then (if x9 > 0 then (if x132000 = 0 then (none) else (if (Int.tmod x9 x132000) = 0 then (if x3.size + 1 ≤ 9223372036854775807 then ((spec_l1Num.f k (rd x7 x9)).bind fun t133 => (if (x3 ++ (⟨#[47]⟩ : ByteArray)).size + t133.size ≤ 9223372036854775807 then (spec_taDigits.l0 k ((x3 ++ (⟨#[47]⟩ : ByteArray)) ++ t133) x7 x8 (wrap64 (x9 + 1)) x132000 x132001 x132002) else (none))) else (none)) else ((spec_l1Num.f k (rd x7 x9)).bind fun t134 => (if x3.size + t134.size ≤ 9223372036854775807 then (spec_taDigits.l0 k (x3 ++ t134) x7 x8 (wrap64 (x9 + 1)) x132000 x132001 x132002) else (none))))) else ((spec_l1Num.f k (rd x7 x9)).bind fun t135 => (if x3.size + t135.size ≤ 9223372036854775807 then (spec_taDigits.l0 k (x3 ++ t135) x7 x8 (wrap64 (x9 + 1)) x132000 x132001 x132002) else (none)))) else (none)) else (none)) else (some x3)
def spec_taDigits.f (k : Nat) (a0_0 : Int) (a0_1 : Int) (l0_2 : List Int) : Option (ByteArray) := spec_taDigits.l0 k (⟨#[]⟩ : ByteArray) l0_2 (l0_2.length : Int) 0 a0_0 a0_1 l0_2
set_option maxRecDepth 100000 in
set_option maxHeartbeats 40000000 in
theorem spec_taDigits.calls (k : Nat) (a0_0 : Int) (a0_1 : Int) (A0_2 : Option Addr) (c0_2 : Nat) (l0_2 : List Int) (r : ByteArray) (w : World) (hr0_2 : Kd.C (Kd.int .i64) w A0_2 l0_2.length l0_2) (hc0_2 : l0_2.length ≤ c0_2) (h : spec_taDigits.f k a0_0 a0_1 l0_2 = some r) :
    Calls Tryd.prog 16 #[.agg #[.int .i64 a0_0, .int .i64 a0_1, .slice A0_2 l0_2.length c0_2]] w fun e w' => e = .returned (.string r) ∧ Below w.heap.size w w' := by
  obtain ⟨cs, hcs⟩ : ∃ cs, cs = [old w w.heap.size] := ⟨_, rfl⟩
  have hp : Hp w cs w := by rw [hcs]; exact Hp.old_start w
  have hc2 : ∀ W, Hp w cs W → Below w.heap.size w W := fun W h => by rw [hcs] at h; exact h.since 0 _ rfl
  have hC0_2 : ∀ W, Hp w cs W → Kd.C (Kd.int .i64) W A0_2 l0_2.length l0_2 := fun W h => Kd.C_below hr0_2 (hc2 W h)
  clear hcs
  unfold spec_taDigits.f at h
  refine sx_enter (N := 31) (l := [.agg #[.int .i64 a0_0, .int .i64 a0_1, .slice A0_2 l0_2.length c0_2]]) Tryd.func16 rfl rfl rfl ?_
  refine wp_seq ?_
  refine sx_region ?_
  refine sx_box 1 hp #[.int .i64 a0_0, .int .i64 a0_1, .slice A0_2 l0_2.length c0_2] 36 (by rfl) (fun W => by kernel_rfl) ?_
  intro g_1 W_2 hp
  refine sx_rd 2 (.string (⟨#[]⟩ : ByteArray)) (by rfl) (by kernel_rfl) ?_
  refine sx_nil ?_
  refine ex_then_n ?_
  refine wp_seq ?_
  refine sx_region ?_
  refine sx_rd 3 (.string (⟨#[]⟩ : ByteArray)) (by rfl) (by kernel_rfl) ?_
  refine sx_nil ?_
  refine ex_then_n ?_
  refine wp_seq ?_
  refine wp_seq ?_
  refine sx_region ?_
  refine sx_rd 6 (.pointer (some ⟨g_1, 2, none⟩)) (by rfl) (by kernel_rfl) ?_
  refine sx_rd 7 (.slice A0_2 l0_2.length c0_2) (by rfl) (ld1 (t := 34) (p := (.tmp 6)) (by rfl) (by rfl) (by kernel_rfl) (hp.cell 0 (by rfl) 2 _ (by rfl))) ?_
  refine sx_rd 8 (.int .i64 (l0_2.length : Int)) (by rfl) (by kernel_rfl) ?_
  refine sx_rd 9 (.int .i64 0) (by rfl) (by kernel_rfl) ?_
  refine sx_nil ?_
  refine ex_then_n ?_
  refine wp_block ?_
  refine wp_loop_ghost (fun n_ a_ W => ∃ (r_ : List (Nat × Value)) (k_5 : Nat) (x_3 : ByteArray) (x_4 : Int)  , n_ = k_5 + 1 ∧ a_ = fr 31 ([(1, .pointer (some ⟨g_1, 0, none⟩)), (3, .string x_3), (7, .slice A0_2 l0_2.length c0_2), (8, .int .i64 (l0_2.length : Int)), (9, .int .i64 x_4)] ++ r_) ∧ Hp w (blk g_1 #[.int .i64 a0_0, .int .i64 a0_1, .slice A0_2 l0_2.length c0_2] 36 :: cs) W ∧ (spec_taDigits.l0 k_5 x_3 l0_2 (l0_2.length : Int) x_4 a0_0 a0_1 l0_2 = some r) ∧ (k_5 ≤ k)) _ ⟨_, k, (⟨#[]⟩ : ByteArray), 0, rfl, fr_front [(1, .pointer (some ⟨g_1, 0, none⟩)), (3, .string (⟨#[]⟩ : ByteArray)), (7, .slice A0_2 l0_2.length c0_2), (8, .int .i64 (l0_2.length : Int)), (9, .int .i64 0)] ⟨rfl, rfl, rfl, rfl, rfl, trivial⟩, (hp.take [0] 1 (by decide) (by simp)), h, (Nat.le_refl _)⟩ ?_
  rintro _ _ W_7 ⟨r_, k_5, x_3, x_4, rfl, rfl, hp, h, hk_6⟩
  rcases k_5 with _ | k_5
  · simp [spec_taDigits.l0] at h
  simp only [spec_taDigits.l0] at h
  refine wp_seq ?_
  refine sx_region ?_
  refine sx_rd 10 (.bool (decide (x_4 < (l0_2.length : Int)))) (by rfl) (by kernel_rfl) ?_
  refine sx_nil ?_
  refine ex_then_n ?_
  refine wp_seq ?_
  by_cases hc_8 : x_4 < (l0_2.length : Int)
  ·
    rw [if_pos hc_8] at h
    by_cases hc_9 : 0 ≤ x_4
    case neg => rw [if_neg hc_9] at h; cases h
    rw [if_pos hc_9] at h
    by_cases hc_10 : x_4 < (l0_2.length : Int)
    case neg => rw [if_neg hc_10] at h; cases h
    rw [if_pos hc_10] at h
    refine sx_then (decide (x_4 < (l0_2.length : Int))) (by rfl) (decide_eq_true hc_8) ?_
    refine wp_skip ?_
    refine ex_then_n ?_
    refine wp_seq ?_
    refine wp_block ?_
    refine wp_seq ?_
    refine sx_region ?_
    refine sx_rd 11 (.int .i64 x_4) (by rfl) (by kernel_rfl) ?_
    refine sx_rd 12 (.pointer (some (adr A0_2 x_4 1))) (by rfl) (ix_run (d := (Kd.int .i64)) (hC0_2 _ hp.tail) (t := 34) (by rfl) (by rfl) (by rfl) Tryd.underlying34 (by kernel_rfl) (by omega) (by omega)) ?_
    refine sx_rd 13 (.int .i64 (rd l0_2 x_4)) (by rfl) (ld1 (t := 3) (p := (.tmp 12)) (by rfl) (by rfl) (by kernel_rfl) (el_cell (d := (Kd.int .i64)) (hC0_2 _ hp.tail) 0 x_4 (by omega) (by omega) (cells := [.int .i64 (rd l0_2 x_4)]) (fun cs h => h) 0 _ (by rfl))) ?_
    refine sx_rd 4 (.int .i64 x_4) (by rfl) (by kernel_rfl) ?_
    refine sx_rd 5 (.int .i64 (rd l0_2 x_4)) (by rfl) (by kernel_rfl) ?_
    refine sx_nil ?_
    refine ex_then_n ?_
    refine wp_seq ?_
    refine wp_seq ?_
    by_cases hc_11 : x_4 > 0
    ·
      rw [if_pos hc_11] at h
      by_cases hc_12 : a0_0 = 0
      case pos => rw [if_pos hc_12] at h; cases h
      rw [if_neg hc_12] at h
      refine sx_region ?_
      refine sx_rd 14 (.int .i64 x_4) (by rfl) (by kernel_rfl) ?_
      refine sx_rd 15 (.bool true) (by rfl) (bv (decide_eq_true hc_11) (by kernel_rfl)) ?_
      refine sx_rd 16 (.bool true) (by rfl) (by kernel_rfl) ?_
      refine sx_want (by rfl) ?_
      refine sx_rd 17 (.int .i64 x_4) (by rfl) (by kernel_rfl) ?_
      refine sx_want (by rfl) ?_
      refine sx_rd 18 (.pointer (some ⟨g_1, 0, none⟩)) (by rfl) (by kernel_rfl) ?_
      refine sx_want (by rfl) ?_
      refine sx_rd 19 (.int .i64 a0_0) (by rfl) (ld1 (t := 3) (p := (.tmp 18)) (by rfl) (by rfl) (by kernel_rfl) (hp.cell 0 (by rfl) 0 _ (by rfl))) ?_
      refine sx_want (by rfl) ?_
      refine sx_rd 20 (.int .i64 (Int.tmod x_4 a0_0)) (by rfl) (remv_run (by rfl) (by rfl) (by rfl) (by omega)) ?_
      refine sx_want (by rfl) ?_
      refine sx_rd 21 (.bool ((Int.tmod x_4 a0_0) == 0)) (by rfl) (by kernel_rfl) ?_
      refine sx_rd 22 (.bool ((Int.tmod x_4 a0_0) == 0)) (by rfl) (by kernel_rfl) ?_
      refine sx_nil ?_
      refine ex_then_n ?_
      by_cases hc_13 : (Int.tmod x_4 a0_0) = 0
      ·
        rw [if_pos hc_13] at h
        by_cases hc_14 : x_3.size + 1 ≤ 9223372036854775807
        case neg => rw [if_neg hc_14] at h; cases h
        rw [if_pos hc_14] at h
        obtain ⟨t_16, hv_15, h⟩ := Option.bind_eq_some_iff.mp h
        try dsimp only at h
        by_cases hc_17 : (x_3 ++ (⟨#[47]⟩ : ByteArray)).size + t_16.size ≤ 9223372036854775807
        case neg => rw [if_neg hc_17] at h; cases h
        rw [if_pos hc_17] at h
        refine sx_then ((Int.tmod x_4 a0_0) == 0) (by rfl) (beq_iff_eq.mpr hc_13) ?_
        refine sx_region ?_
        refine sx_rd 23 (.string x_3) (by rfl) (by kernel_rfl) ?_
        refine sx_rd 24 (.string (x_3 ++ (⟨#[47]⟩ : ByteArray))) (by rfl) (sadd_run (by rfl) (by rfl) (by rfl) (by first | omega | (show _ + 1 ≤ _; omega) | (simp; omega))) ?_
        refine sx_rd 3 (.string (x_3 ++ (⟨#[47]⟩ : ByteArray))) (by rfl) (by kernel_rfl) ?_
        refine sx_nil ?_
        refine ex_then_n ?_
        refine sx_region ?_
        refine sx_rd 25 (.string (x_3 ++ (⟨#[47]⟩ : ByteArray))) (by rfl) (by kernel_rfl) ?_
        refine sx_rd 26 (.int .i64 (rd l0_2 x_4)) (by rfl) (by kernel_rfl) ?_
        refine sx_call 27 (by rfl) (by kernel_rfl) ((spec_l1Num.calls _ (rd l0_2 x_4) _ _ hv_15).mono ?_)
        rintro _ W_18 ⟨rfl, hb⟩
        refine ⟨_, rfl, ?_⟩
        replace hp := hp.below hb
        clear hb
        refine sx_rd 28 (.string ((x_3 ++ (⟨#[47]⟩ : ByteArray)) ++ t_16)) (by rfl) (sadd_run (by rfl) (by rfl) (by rfl) (by first | omega | (show _ + 1 ≤ _; omega) | (simp; omega))) ?_
        refine sx_rd 3 (.string ((x_3 ++ (⟨#[47]⟩ : ByteArray)) ++ t_16)) (by rfl) (by kernel_rfl) ?_
        refine sx_nil ?_
        refine ex_blk_n ?_
        refine ex_then_n ?_
        refine sx_region ?_
        refine sx_rd 29 (.int .i64 (wrap64 (x_4 + 1))) (by rfl) (wr_w (by kernel_rfl)) ?_
        refine sx_rd 9 (.int .i64 (wrap64 (x_4 + 1))) (by rfl) (by kernel_rfl) ?_
        refine sx_nil ?_
        refine ex_then_n ?_
        exact ⟨_, (by omega), _, k_5, ((x_3 ++ (⟨#[47]⟩ : ByteArray)) ++ t_16), (wrap64 (x_4 + 1)), rfl, fr_front [(1, .pointer (some ⟨g_1, 0, none⟩)), (3, .string ((x_3 ++ (⟨#[47]⟩ : ByteArray)) ++ t_16)), (7, .slice A0_2 l0_2.length c0_2), (8, .int .i64 (l0_2.length : Int)), (9, .int .i64 (wrap64 (x_4 + 1)))] ⟨rfl, rfl, rfl, rfl, rfl, trivial⟩, (hp.take [0] 1 (by decide) (by simp)), h, (by omega)⟩
      ·
        rw [if_neg hc_13] at h
        obtain ⟨t_20, hv_19, h⟩ := Option.bind_eq_some_iff.mp h
        try dsimp only at h
        by_cases hc_21 : x_3.size + t_20.size ≤ 9223372036854775807
        case neg => rw [if_neg hc_21] at h; cases h
        rw [if_pos hc_21] at h
        refine sx_else ((Int.tmod x_4 a0_0) == 0) (by rfl) (beq_eq_false_iff_ne.mpr hc_13) ?_
        refine wp_skip ?_
        refine ex_then_n ?_
        refine sx_region ?_
        refine sx_rd 25 (.string x_3) (by rfl) (by kernel_rfl) ?_
        refine sx_rd 26 (.int .i64 (rd l0_2 x_4)) (by rfl) (by kernel_rfl) ?_
        refine sx_call 27 (by rfl) (by kernel_rfl) ((spec_l1Num.calls _ (rd l0_2 x_4) _ _ hv_19).mono ?_)
        rintro _ W_22 ⟨rfl, hb⟩
        refine ⟨_, rfl, ?_⟩
        replace hp := hp.below hb
        clear hb
        refine sx_rd 28 (.string (x_3 ++ t_20)) (by rfl) (sadd_run (by rfl) (by rfl) (by rfl) (by first | omega | (show _ + 1 ≤ _; omega) | (simp; omega))) ?_
        refine sx_rd 3 (.string (x_3 ++ t_20)) (by rfl) (by kernel_rfl) ?_
        refine sx_nil ?_
        refine ex_blk_n ?_
        refine ex_then_n ?_
        refine sx_region ?_
        refine sx_rd 29 (.int .i64 (wrap64 (x_4 + 1))) (by rfl) (wr_w (by kernel_rfl)) ?_
        refine sx_rd 9 (.int .i64 (wrap64 (x_4 + 1))) (by rfl) (by kernel_rfl) ?_
        refine sx_nil ?_
        refine ex_then_n ?_
        exact ⟨_, (by omega), _, k_5, (x_3 ++ t_20), (wrap64 (x_4 + 1)), rfl, fr_front [(1, .pointer (some ⟨g_1, 0, none⟩)), (3, .string (x_3 ++ t_20)), (7, .slice A0_2 l0_2.length c0_2), (8, .int .i64 (l0_2.length : Int)), (9, .int .i64 (wrap64 (x_4 + 1)))] ⟨rfl, rfl, rfl, rfl, rfl, trivial⟩, (hp.take [0] 1 (by decide) (by simp)), h, (by omega)⟩
    ·
      rw [if_neg hc_11] at h
      obtain ⟨t_24, hv_23, h⟩ := Option.bind_eq_some_iff.mp h
      try dsimp only at h
      by_cases hc_25 : x_3.size + t_24.size ≤ 9223372036854775807
      case neg => rw [if_neg hc_25] at h; cases h
      rw [if_pos hc_25] at h
      refine sx_region ?_
      refine sx_rd 14 (.int .i64 x_4) (by rfl) (by kernel_rfl) ?_
      refine sx_rd 15 (.bool false) (by rfl) (bv (decide_eq_false hc_11) (by kernel_rfl)) ?_
      refine sx_rd 16 (.bool false) (by rfl) (by kernel_rfl) ?_
      refine sx_skip 17 (by rfl) (by rfl) (by rfl) ?_
      refine sx_skip 18 (by rfl) (by rfl) (by rfl) ?_
      refine sx_skip 19 (by rfl) (by rfl) (by rfl) ?_
      refine sx_skip 20 (by rfl) (by rfl) (by rfl) ?_
      refine sx_skip 21 (by rfl) (by rfl) (by rfl) ?_
      refine sx_rd 22 (.bool false) (by rfl) (by kernel_rfl) ?_
      refine sx_nil ?_
      refine ex_then_n ?_
      refine sx_else false (by rfl) rfl ?_
      refine wp_skip ?_
      refine ex_then_n ?_
      refine sx_region ?_
      refine sx_rd 25 (.string x_3) (by rfl) (by kernel_rfl) ?_
      refine sx_rd 26 (.int .i64 (rd l0_2 x_4)) (by rfl) (by kernel_rfl) ?_
      refine sx_call 27 (by rfl) (by kernel_rfl) ((spec_l1Num.calls _ (rd l0_2 x_4) _ _ hv_23).mono ?_)
      rintro _ W_26 ⟨rfl, hb⟩
      refine ⟨_, rfl, ?_⟩
      replace hp := hp.below hb
      clear hb
      refine sx_rd 28 (.string (x_3 ++ t_24)) (by rfl) (sadd_run (by rfl) (by rfl) (by rfl) (by first | omega | (show _ + 1 ≤ _; omega) | (simp; omega))) ?_
      refine sx_rd 3 (.string (x_3 ++ t_24)) (by rfl) (by kernel_rfl) ?_
      refine sx_nil ?_
      refine ex_blk_n ?_
      refine ex_then_n ?_
      refine sx_region ?_
      refine sx_rd 29 (.int .i64 (wrap64 (x_4 + 1))) (by rfl) (wr_w (by kernel_rfl)) ?_
      refine sx_rd 9 (.int .i64 (wrap64 (x_4 + 1))) (by rfl) (by kernel_rfl) ?_
      refine sx_nil ?_
      refine ex_then_n ?_
      exact ⟨_, (by omega), _, k_5, (x_3 ++ t_24), (wrap64 (x_4 + 1)), rfl, fr_front [(1, .pointer (some ⟨g_1, 0, none⟩)), (3, .string (x_3 ++ t_24)), (7, .slice A0_2 l0_2.length c0_2), (8, .int .i64 (l0_2.length : Int)), (9, .int .i64 (wrap64 (x_4 + 1)))] ⟨rfl, rfl, rfl, rfl, rfl, trivial⟩, (hp.take [0] 1 (by decide) (by simp)), h, (by omega)⟩
  ·
    rw [if_neg hc_8] at h
    refine sx_else (decide (x_4 < (l0_2.length : Int))) (by rfl) (decide_eq_false hc_8) ?_
    refine wp_exit ?_
    refine ex_then_e (ex_then_e (ex_blk_here ?_))
    refine ex_then_n ?_
    refine wp_seq ?_
    refine sx_region ?_
    refine sx_rd 30 (.string x_3) (by rfl) (by kernel_rfl) ?_
    refine sx_rd 2 (.string x_3) (by rfl) (by kernel_rfl) ?_
    refine sx_nil ?_
    refine ex_then_n ?_
    refine wp_ret ?_
    refine sx_end (.string x_3) (res1 2 (by rfl)) ?_
    obtain rfl := Option.some.inj h
    exact ⟨rfl, hc2 _ (hp.tail)⟩
end
section
open Go.RowKit Go.Proofs.YtokkiiepddhkiaaDoorW.PrintWords Go.Proofs.YtokkiiepddhkiaaDoorW.PrintLast Go.Proofs.YtokkiiepddhkiaaDoorW.PrintMore
attribute [local go_sem] max2_int min2_int max_two min_two max_three min_three max_four min_four   -- for this text's walks alone
set_option linter.unusedVariables false
set_option linter.unusedSimpArgs false

mutual
def spec_TurnTable.l0 : Nat → Int → Int → Int → List Int → Int → Int → List Int → Option (ByteArray × Bool)
  | 0, _, _, _, _, _, _, _ => none
  | k + 1, x7, x143000, x143001, x143002, x144000, x144001, x144002 => if x7 < x144001 then (spec_TurnTable.l1 k x7 0 x143000 x143001 x143002 x144000 x144001 x144002) else ((spec_taDigits.f k x144000 x144001 x144002).bind fun t144 => (some (t144, true)))
def spec_TurnTable.l1 : Nat → Int → Int → Int → Int → List Int → Int → Int → List Int → Option (ByteArray × Bool)
  | 0, _, _, _, _, _, _, _, _ => none
  | k + 1, x7, x8, x143000, x143001, x143002, x144000, x144001, x144002 => if x8 < x144000 then (if 0 ≤ (wrap64 ((wrap64 ((wrap64 ((wrap64 (x143001 - 1)) - x8)) * x143000)) + x7)) then (if (wrap64 ((wrap64 ((wrap64 ((wrap64 (x143001 - 1)) - x8)) * x143000)) + x7)) < (x143002.length : Int) then (if x144002.length < 17592186044416 then (spec_TurnTable.l1 k x7 (wrap64 (x8 + 1)) x143000 x143001 x143002 x144000 x144001 (x144002 ++ [rd x143002 (wrap64 ((wrap64 ((wrap64 ((wrap64 (x143001 - 1)) - x8)) * x143000)) + x7))])) else (none)) else (none)) else (none)) else (spec_TurnTable.l0 k (wrap64 (x7 + 1)) x143000 x143001 x143002 x144000 x144001 x144002)
end
def spec_TurnTable.f (k : Nat) (a0 : ByteArray) : Option (ByteArray × Bool) := (spec_taRead.f k a0).bind fun bt136 => (if bt136.2.2.2 = true then (spec_TurnTable.l0 k 0 bt136.1 bt136.2.1 bt136.2.2.1 bt136.2.1 bt136.1 ([] : List Int)) else (some ((⟨#[]⟩ : ByteArray), false)))
set_option maxRecDepth 100000 in
set_option maxHeartbeats 40000000 in
theorem spec_TurnTable.calls (k : Nat) (a0 : ByteArray) (r1 : ByteArray) (r2 : Bool) (w : World) (h : spec_TurnTable.f k a0 = some (r1, r2)) :
    Calls Tryd.prog 6 #[.string a0] w fun e w' => e = .returned (.tuple #[.string r1, .bool r2]) ∧ Below w.heap.size w w' := by
  obtain ⟨cs, hcs⟩ : ∃ cs, cs = [old w w.heap.size] := ⟨_, rfl⟩
  have hp : Hp w cs w := by rw [hcs]; exact Hp.old_start w
  have hc2 : ∀ W, Hp w cs W → Below w.heap.size w W := fun W h => by rw [hcs] at h; exact h.since 0 _ rfl
  clear hcs
  unfold spec_TurnTable.f at h
  obtain ⟨⟨t_2, t_3, t_4, t_5⟩, hv_1, h⟩ := Option.bind_eq_some_iff.mp h
  try dsimp only at h
  refine sx_enter (N := 54) (l := [.string a0]) Tryd.func6 rfl rfl rfl ?_
  refine wp_seq ?_
  refine sx_region ?_
  refine sx_rd 2 (.string (⟨#[]⟩ : ByteArray)) (by rfl) (by kernel_rfl) ?_
  refine sx_rd 3 (.bool false) (by rfl) (by kernel_rfl) ?_
  refine sx_nil ?_
  refine ex_then_n ?_
  refine wp_seq ?_
  refine sx_region ?_
  refine sx_rd 10 (.string a0) (by rfl) (by kernel_rfl) ?_
  refine sx_call 11 (by rfl) (by kernel_rfl) ((spec_taRead.calls _ a0 _ _ _ _ _ hv_1).mono ?_)
  rintro _ W_11 ⟨v_7, rfl, hR_6, hb⟩
  refine ⟨_, rfl, ?_⟩
  obtain ⟨A_8, c_9, rfl, hcc_c_9, _⟩ := Kd.R_reads hR_6
  obtain ⟨F_10, hp⟩ : ∃ F, Hp w (row (Kd.int .i64) 3 w.heap.size (.slice A_8 t_4.length c_9) t_4 F :: cs) _ := ⟨_, Hp.made hp hb hR_6⟩
  refine sx_rd 9 (.tuple #[.agg #[.int .i64 t_2, .int .i64 t_3, .slice A_8 t_4.length c_9], .bool t_5]) (by rfl) (by kernel_rfl) ?_
  refine sx_rd 12 (.agg #[.int .i64 t_2, .int .i64 t_3, .slice A_8 t_4.length c_9]) (by rfl) (by kernel_rfl) ?_
  refine sx_rd 13 (.bool t_5) (by rfl) (by kernel_rfl) ?_
  refine sx_box 4 hp #[.int .i64 0, .int .i64 0, .slice none 0 0] 36 (by rfl) (fun W => by kernel_rfl) ?_
  intro g_12 W_13 hp
  refine sx_store (t := 36) (p := (.tmp 4)) (x := (.tmp 12)) (by rfl) (by rfl) 0 (by rfl) 0 [.int .i64 t_2, .int .i64 t_3, .slice A_8 t_4.length c_9] (by rfl) (by rfl) (by kernel_rfl) (by simp [Value.oneCell']) (by show 3 ≤ 3; omega) #[.int .i64 t_2, .int .i64 t_3, .slice A_8 t_4.length c_9] (by rfl) hp ?_
  intro W_14 hp; simp only [List.set_cons_succ, List.set_cons_zero] at hp
  refine sx_rd 5 (.bool t_5) (by rfl) (by kernel_rfl) ?_
  refine sx_nil ?_
  refine ex_then_n ?_
  refine wp_seq ?_
  refine wp_seq ?_
  refine sx_region ?_
  refine sx_rd 14 (.bool t_5) (by rfl) (by kernel_rfl) ?_
  refine sx_rd 15 (.bool (!t_5)) (by rfl) (by kernel_rfl) ?_
  refine sx_nil ?_
  refine ex_then_n ?_
  by_cases hc_15 : t_5 = true
  ·
    rw [if_pos hc_15] at h
    refine sx_else (!t_5) (by rfl) (show (!t_5) = false from by rw [hc_15]; rfl) ?_
    refine wp_skip ?_
    refine ex_then_n ?_
    refine wp_seq ?_
    refine sx_region ?_
    refine sx_rd 16 (.pointer (some ⟨g_12, 1, none⟩)) (by rfl) (by kernel_rfl) ?_
    refine sx_rd 17 (.int .i64 t_3) (by rfl) (ld1 (t := 3) (p := (.tmp 16)) (by rfl) (by rfl) (by kernel_rfl) (hp.cell 0 (by rfl) 1 _ (by rfl))) ?_
    refine sx_rd 18 (.pointer (some ⟨g_12, 0, none⟩)) (by rfl) (by kernel_rfl) ?_
    refine sx_rd 19 (.int .i64 t_2) (by rfl) (ld1 (t := 3) (p := (.tmp 18)) (by rfl) (by rfl) (by kernel_rfl) (hp.cell 0 (by rfl) 0 _ (by rfl))) ?_
    refine sx_rd 20 (.agg #[.int .i64 t_3, .int .i64 t_2, .slice none 0 0]) (by rfl) (by kernel_rfl) ?_
    refine sx_box 6 hp #[.int .i64 0, .int .i64 0, .slice none 0 0] 36 (by rfl) (fun W => by kernel_rfl) ?_
    intro g_16 W_17 hp
    refine sx_store (t := 36) (p := (.tmp 6)) (x := (.tmp 20)) (by rfl) (by rfl) 0 (by rfl) 0 [.int .i64 t_3, .int .i64 t_2, .slice none 0 0] (by rfl) (by rfl) (by kernel_rfl) (by simp [Value.oneCell']) (by show 3 ≤ 3; omega) #[.int .i64 t_3, .int .i64 t_2, .slice none 0 0] (by rfl) hp ?_
    intro W_18 hp; simp only [List.set_cons_succ, List.set_cons_zero] at hp
    refine sx_nil ?_
    refine ex_then_n ?_
    refine wp_seq ?_
    refine wp_seq ?_
    refine sx_region ?_
    refine sx_rd 7 (.int .i64 0) (by rfl) (by kernel_rfl) ?_
    refine sx_nil ?_
    refine ex_then_n ?_
    refine wp_block ?_
    have hp := hp.nilrow (Kd.int .i64) 3 w.heap.size
    refine wp_loop_ghost (fun n_ a_ W => ∃ (r_ : List (Nat × Value)) (k_21 : Nat) (x_19 : Int) (x_20 : List Int) (A_22 : Option Addr) (n_23 c_24 : Nat) (F_25 : Nat → Prop), n_ = k_21 + 1 ∧ a_ = fr 54 ([(4, .pointer (some ⟨g_12, 0, none⟩)), (6, .pointer (some ⟨g_16, 0, none⟩)), (7, .int .i64 x_19)] ++ r_) ∧ Hp w (row (Kd.int .i64) 3 w.heap.size (.slice A_22 n_23 c_24) x_20 F_25 :: blk g_16 #[.int .i64 t_3, .int .i64 t_2, .slice A_22 n_23 c_24] 36 :: blk g_12 #[.int .i64 t_2, .int .i64 t_3, .slice A_8 t_4.length c_9] 36 :: row (Kd.int .i64) 3 w.heap.size (.slice A_8 t_4.length c_9) t_4 F_10 :: cs) W ∧ (spec_TurnTable.l0 k_21 x_19 t_2 t_3 t_4 t_3 t_2 x_20 = some (r1, r2)) ∧ (k_21 ≤ k)) _ ⟨_, k, 0, ([] : List Int), _, _, _, _, rfl, fr_front [(4, .pointer (some ⟨g_12, 0, none⟩)), (6, .pointer (some ⟨g_16, 0, none⟩)), (7, .int .i64 0)] ⟨rfl, rfl, rfl, trivial⟩, (hp.take [0, 1, 2, 3] 4 (by decide) (by simp)), h, (Nat.le_refl _)⟩ ?_
    rintro _ _ W_27 ⟨r_, k_21, x_19, x_20, A_22, n_23, c_24, F_25, rfl, rfl, hp, h, hk_26⟩
    obtain ⟨rfl, -⟩ := row_len (hp.at_ 0 _ (by rfl))
    rcases k_21 with _ | k_21
    · simp [spec_TurnTable.l0] at h
    simp only [spec_TurnTable.l0] at h
    refine wp_seq ?_
    refine wp_seq ?_
    refine sx_region ?_
    refine sx_rd 21 (.int .i64 x_19) (by rfl) (by kernel_rfl) ?_
    refine sx_rd 22 (.pointer (some ⟨g_16, 1, none⟩)) (by rfl) (by kernel_rfl) ?_
    refine sx_rd 23 (.int .i64 t_2) (by rfl) (ld1 (t := 3) (p := (.tmp 22)) (by rfl) (by rfl) (by kernel_rfl) (hp.cell 1 (by rfl) 1 _ (by rfl))) ?_
    refine sx_rd 24 (.bool (decide (x_19 < t_2))) (by rfl) (by kernel_rfl) ?_
    refine sx_nil ?_
    refine ex_then_n ?_
    by_cases hc_28 : x_19 < t_2
    ·
      rw [if_pos hc_28] at h
      refine sx_then (decide (x_19 < t_2)) (by rfl) (decide_eq_true hc_28) ?_
      refine wp_skip ?_
      refine ex_then_n ?_
      refine wp_seq ?_
      refine wp_block ?_
      refine wp_seq ?_
      refine sx_region ?_
      refine sx_rd 8 (.int .i64 0) (by rfl) (by kernel_rfl) ?_
      refine sx_nil ?_
      refine ex_then_n ?_
      refine wp_block ?_
      refine wp_loop_ghost (fun n_ a_ W => ∃ (r_ : List (Nat × Value)) (k_31 : Nat) (x_29 : Int) (x_30 : List Int) (A_32 : Option Addr) (n_33 c_34 : Nat) (F_35 : Nat → Prop), n_ = k_31 + 1 ∧ a_ = fr 54 ([(4, .pointer (some ⟨g_12, 0, none⟩)), (6, .pointer (some ⟨g_16, 0, none⟩)), (7, .int .i64 x_19), (8, .int .i64 x_29)] ++ r_) ∧ Hp w (row (Kd.int .i64) 3 w.heap.size (.slice A_32 n_33 c_34) x_30 F_35 :: blk g_16 #[.int .i64 t_3, .int .i64 t_2, .slice A_32 n_33 c_34] 36 :: blk g_12 #[.int .i64 t_2, .int .i64 t_3, .slice A_8 t_4.length c_9] 36 :: row (Kd.int .i64) 3 w.heap.size (.slice A_8 t_4.length c_9) t_4 F_10 :: cs) W ∧ (spec_TurnTable.l1 k_31 x_19 x_29 t_2 t_3 t_4 t_3 t_2 x_30 = some (r1, r2)) ∧ (k_31 ≤ k_21)) _ ⟨_, k_21, 0, x_20, _, _, _, _, rfl, fr_front [(4, .pointer (some ⟨g_12, 0, none⟩)), (6, .pointer (some ⟨g_16, 0, none⟩)), (7, .int .i64 x_19), (8, .int .i64 0)] ⟨rfl, rfl, rfl, rfl, trivial⟩, (hp.take [0, 1, 2, 3] 4 (by decide) (by simp)), h, (Nat.le_refl _)⟩ ?_
      rintro _ _ W_37 ⟨r_, k_31, x_29, x_30, A_32, n_33, c_34, F_35, rfl, rfl, hp, h, hk_36⟩
      obtain ⟨rfl, -⟩ := row_len (hp.at_ 0 _ (by rfl))
      rcases k_31 with _ | k_31
      · simp [spec_TurnTable.l1] at h
      simp only [spec_TurnTable.l1] at h
      refine wp_seq ?_
      refine wp_seq ?_
      refine sx_region ?_
      refine sx_rd 27 (.int .i64 x_29) (by rfl) (by kernel_rfl) ?_
      refine sx_rd 28 (.pointer (some ⟨g_16, 0, none⟩)) (by rfl) (by kernel_rfl) ?_
      refine sx_rd 29 (.int .i64 t_3) (by rfl) (ld1 (t := 3) (p := (.tmp 28)) (by rfl) (by rfl) (by kernel_rfl) (hp.cell 1 (by rfl) 0 _ (by rfl))) ?_
      refine sx_rd 30 (.bool (decide (x_29 < t_3))) (by rfl) (by kernel_rfl) ?_
      refine sx_nil ?_
      refine ex_then_n ?_
      by_cases hc_38 : x_29 < t_3
      ·
        rw [if_pos hc_38] at h
        by_cases hc_39 : 0 ≤ (wrap64 ((wrap64 ((wrap64 ((wrap64 (t_3 - 1)) - x_29)) * t_2)) + x_19))
        case neg => rw [if_neg hc_39] at h; cases h
        rw [if_pos hc_39] at h
        by_cases hc_40 : (wrap64 ((wrap64 ((wrap64 ((wrap64 (t_3 - 1)) - x_29)) * t_2)) + x_19)) < (t_4.length : Int)
        case neg => rw [if_neg hc_40] at h; cases h
        rw [if_pos hc_40] at h
        by_cases hc_41 : x_30.length < 17592186044416
        case neg => rw [if_neg hc_41] at h; cases h
        rw [if_pos hc_41] at h
        refine sx_then (decide (x_29 < t_3)) (by rfl) (decide_eq_true hc_38) ?_
        refine wp_skip ?_
        refine ex_then_n ?_
        refine wp_seq ?_
        refine wp_block ?_
        refine sx_drawT [0, 2, 4, 7, 9, 12] (.rd 1 (.rd 3 (.rd 5 (.rd 6 (.rd 8 (.rd 10 (.rd 11 (.rd 13 (.rd 14 (.rd 15 (.alt 16 (.fin) .non))))))))))) 17 (C := Hp w (row (Kd.int .i64) 3 w.heap.size (.slice A_32 x_30.length c_34) x_30 F_35 :: blk g_16 #[.int .i64 t_3, .int .i64 t_2, .slice A_32 x_30.length c_34] 36 :: blk g_12 #[.int .i64 t_2, .int .i64 t_3, .slice A_8 t_4.length c_9] 36 :: row (Kd.int .i64) 3 w.heap.size (.slice A_8 t_4.length c_9) t_4 F_10 :: cs)) (by kernel_rfl) (by kernel_rfl) (fun d _ _ _ _ h => by cases d <;> exact h) (fun W h => h.drew) hp ?_
        refine preI_read rfl ?_
        refine sxq_val 33 (.pointer (some ⟨g_16, 2, none⟩)) (by rfl) (fun W _ => (by kernel_rfl)) ?_
        refine sxq_nil ?_
        refine preI_read rfl ?_
        refine sxq_val 35 (.pointer (some ⟨g_12, 2, none⟩)) (by rfl) (fun W _ => (by kernel_rfl)) ?_
        refine sxq_nil ?_
        refine preI_read rfl ?_
        refine sxq_val 37 (.pointer (some ⟨g_12, 1, none⟩)) (by rfl) (fun W _ => (by kernel_rfl)) ?_
        refine sxq_nil ?_
        refine preI_read rfl ?_
        refine sxq_val 40 (.int .i64 x_29) (by rfl) (fun W _ => (by kernel_rfl)) ?_
        refine sxq_nil ?_
        refine preI_read rfl ?_
        refine sxq_val 42 (.pointer (some ⟨g_12, 0, none⟩)) (by rfl) (fun W _ => (by kernel_rfl)) ?_
        refine sxq_nil ?_
        refine preI_read rfl ?_
        refine sxq_val 45 (.int .i64 x_19) (by rfl) (fun W _ => (by kernel_rfl)) ?_
        refine sxq_nil ?_
        refine preI_nil ?_
        intro W_42 hp
        refine treeI_rd rfl ?_
        refine sxq_val 34 (.slice A_32 x_30.length c_34) (by rfl) (fun W hp => (ld1 (t := 34) (p := (.tmp 33)) (by rfl) (by rfl) (by kernel_rfl) (hp.cell 1 (by rfl) 2 _ (by rfl)))) ?_
        refine sxq_nil ?_
        refine treeI_rd rfl ?_
        refine sxq_val 36 (.slice A_8 t_4.length c_9) (by rfl) (fun W hp => (ld1 (t := 34) (p := (.tmp 35)) (by rfl) (by rfl) (by kernel_rfl) (hp.cell 2 (by rfl) 2 _ (by rfl)))) ?_
        refine sxq_nil ?_
        refine treeI_rd rfl ?_
        refine sxq_val 38 (.int .i64 t_3) (by rfl) (fun W hp => (ld1 (t := 3) (p := (.tmp 37)) (by rfl) (by rfl) (by kernel_rfl) (hp.cell 2 (by rfl) 1 _ (by rfl)))) ?_
        refine sxq_nil ?_
        refine treeI_rd rfl ?_
        refine sxq_val 39 (.int .i64 (wrap64 (t_3 - 1))) (by rfl) (fun W hp => (wr_w (by kernel_rfl))) ?_
        refine sxq_nil ?_
        refine treeI_rd rfl ?_
        refine sxq_val 41 (.int .i64 (wrap64 ((wrap64 (t_3 - 1)) - x_29))) (by rfl) (fun W hp => (wr_w (by kernel_rfl))) ?_
        refine sxq_nil ?_
        refine treeI_rd rfl ?_
        refine sxq_val 43 (.int .i64 t_2) (by rfl) (fun W hp => (ld1 (t := 3) (p := (.tmp 42)) (by rfl) (by rfl) (by kernel_rfl) (hp.cell 2 (by rfl) 0 _ (by rfl)))) ?_
        refine sxq_nil ?_
        refine treeI_rd rfl ?_
        refine sxq_val 44 (.int .i64 (wrap64 ((wrap64 ((wrap64 (t_3 - 1)) - x_29)) * t_2))) (by rfl) (fun W hp => (wr_w (by kernel_rfl))) ?_
        refine sxq_nil ?_
        refine treeI_rd rfl ?_
        refine sxq_val 46 (.int .i64 (wrap64 ((wrap64 ((wrap64 ((wrap64 (t_3 - 1)) - x_29)) * t_2)) + x_19))) (by rfl) (fun W hp => (wr_w (by kernel_rfl))) ?_
        refine sxq_nil ?_
        refine treeI_rd rfl ?_
        refine sxq_val 47 (.pointer (some (adr A_8 (wrap64 ((wrap64 ((wrap64 ((wrap64 (t_3 - 1)) - x_29)) * t_2)) + x_19)) 1))) (by rfl) (fun W hp => (ix_run (d := (Kd.int .i64)) (row_C (hp.at_ 3 _ (by rfl))) (t := 34) (by rfl) (by rfl) (by rfl) Tryd.underlying34 (by kernel_rfl) (by omega) (by omega))) ?_
        refine sxq_nil ?_
        refine treeI_rd rfl ?_
        refine sxq_val 48 (.int .i64 (rd t_4 (wrap64 ((wrap64 ((wrap64 ((wrap64 (t_3 - 1)) - x_29)) * t_2)) + x_19)))) (by rfl) (fun W hp => (ld1 (t := 3) (p := (.tmp 47)) (by rfl) (by rfl) (by kernel_rfl) (el_cell (d := (Kd.int .i64)) (row_C (hp.at_ 3 _ (by rfl))) 0 (wrap64 ((wrap64 ((wrap64 ((wrap64 (t_3 - 1)) - x_29)) * t_2)) + x_19)) (by omega) (by omega) (cells := [.int .i64 (rd t_4 (wrap64 ((wrap64 ((wrap64 ((wrap64 (t_3 - 1)) - x_29)) * t_2)) + x_19)))]) (fun cs h => h) 0 _ (by rfl)))) ?_
        refine sxq_nil ?_
        refine treeI_ev rfl ?_
        refine sx_lit 49 (by rfl) (Kd.int .i64) w.heap.size 3 ([(rd t_4 (wrap64 ((wrap64 ((wrap64 ((wrap64 (t_3 - 1)) - x_29)) * t_2)) + x_19)))]) [.int .i64 (rd t_4 (wrap64 ((wrap64 ((wrap64 ((wrap64 (t_3 - 1)) - x_29)) * t_2)) + x_19)))] (fun W => by kernel_rfl) (Reps.snoc (cs := []) (Reps.none _ _) rfl rfl) (by simp) hp.size hp ?_
        intro g_43 F_44 W_45 hp hz; clear hz
        refine step_fin hp.tail ?_
        refine treeI_fin ?_
        refine tail_of [17, 18, 19] (by rfl) ?_
        refine tailI_op rfl ?_
        refine sx_append 50 (by rfl) (Kd.int .i64) 1 (by rfl) (.int .i64 0) 8 (by rfl) Tryd.underlying34 (by kernel_rfl) rfl (by decide) (by decide) ([(rd t_4 (wrap64 ((wrap64 ((wrap64 ((wrap64 (t_3 - 1)) - x_29)) * t_2)) + x_19)))]) (by rfl) (by rfl) (row_C (hp.at_ 0 _ (by rfl))) (fun x cs h => h) hp.size (by first | omega | (simp; omega)) hp ?_
        intro A_46 c_47 F_48 W_49 hp hz; clear hz; simp only [List.set_cons_succ, List.set_cons_zero] at hp
        refine tailI_next ?_
        refine tailI_op rfl ?_
        refine sx_rd 51 (.pointer (some ⟨g_16, 2, none⟩)) (by rfl) (by kernel_rfl) ?_
        refine tailI_next ?_
        refine tailI_op rfl ?_
        refine sx_store (t := 34) (p := (.tmp 51)) (x := (.tmp 50)) (by rfl) (by rfl) 2 (by rfl) 2 [.slice A_46 ((x_30 ++ [(rd t_4 (wrap64 ((wrap64 ((wrap64 ((wrap64 (t_3 - 1)) - x_29)) * t_2)) + x_19)))]).length) c_47] (by rfl) (by rfl) (by kernel_rfl) (by simp [Value.oneCell']) (by show 3 ≤ 3; omega) #[.int .i64 t_3, .int .i64 t_2, .slice A_46 ((x_30 ++ [(rd t_4 (wrap64 ((wrap64 ((wrap64 ((wrap64 (t_3 - 1)) - x_29)) * t_2)) + x_19)))]).length) c_47] (by rfl) hp ?_
        intro W_50 hp; simp only [List.set_cons_succ, List.set_cons_zero] at hp
        refine tailI_next ?_
        refine tailI_nil ?_
        refine ex_blk_n ?_
        refine ex_then_n ?_
        refine sx_region ?_
        refine sx_rd 31 (.int .i64 x_29) (by rfl) (by kernel_rfl) ?_
        refine sx_rd 32 (.int .i64 (wrap64 (x_29 + 1))) (by rfl) (wr_w (by kernel_rfl)) ?_
        refine sx_rd 8 (.int .i64 (wrap64 (x_29 + 1))) (by rfl) (by kernel_rfl) ?_
        refine sx_nil ?_
        refine ex_then_n ?_
        exact ⟨_, (by omega), _, k_31, (wrap64 (x_29 + 1)), (x_30 ++ [rd t_4 (wrap64 ((wrap64 ((wrap64 ((wrap64 (t_3 - 1)) - x_29)) * t_2)) + x_19))]), _, _, _, _, rfl, fr_front [(4, .pointer (some ⟨g_12, 0, none⟩)), (6, .pointer (some ⟨g_16, 0, none⟩)), (7, .int .i64 x_19), (8, .int .i64 (wrap64 (x_29 + 1)))] ⟨rfl, rfl, rfl, rfl, trivial⟩, (hp.take [1, 2, 3, 4] 5 (by decide) (by simp)), h, (by omega)⟩
      ·
        rw [if_neg hc_38] at h
        refine sx_else (decide (x_29 < t_3)) (by rfl) (decide_eq_false hc_38) ?_
        refine wp_exit ?_
        refine ex_then_e (ex_then_e (ex_blk_here ?_))
        refine ex_blk_n ?_
        refine ex_then_n ?_
        refine sx_region ?_
        refine sx_rd 25 (.int .i64 x_19) (by rfl) (by kernel_rfl) ?_
        refine sx_rd 26 (.int .i64 (wrap64 (x_19 + 1))) (by rfl) (wr_w (by kernel_rfl)) ?_
        refine sx_rd 7 (.int .i64 (wrap64 (x_19 + 1))) (by rfl) (by kernel_rfl) ?_
        refine sx_nil ?_
        refine ex_then_n ?_
        exact ⟨_, (by omega), _, k_31, (wrap64 (x_19 + 1)), x_30, _, _, _, _, rfl, fr_front [(4, .pointer (some ⟨g_12, 0, none⟩)), (6, .pointer (some ⟨g_16, 0, none⟩)), (7, .int .i64 (wrap64 (x_19 + 1)))] ⟨rfl, rfl, rfl, trivial⟩, (hp.take [0, 1, 2, 3] 4 (by decide) (by simp)), h, (by omega)⟩
    ·
      rw [if_neg hc_28] at h
      obtain ⟨t_52, hv_51, h⟩ := Option.bind_eq_some_iff.mp h
      try dsimp only at h
      refine sx_else (decide (x_19 < t_2)) (by rfl) (decide_eq_false hc_28) ?_
      refine wp_exit ?_
      refine ex_then_e (ex_then_e (ex_blk_here ?_))
      refine ex_then_n ?_
      refine wp_seq ?_
      refine sx_region ?_
      refine sx_rd 52 (.agg #[.int .i64 t_3, .int .i64 t_2, .slice A_22 x_20.length c_24]) (by rfl) (ldn (t := 36) (p := (.tmp 6)) (by rfl) (by rfl) (by kernel_rfl) (by kernel_rfl) (by kernel_rfl) (hp.at_ 1 _ (by rfl))) ?_
      refine sx_call 53 (by rfl) (by kernel_rfl) ((spec_taDigits.calls _ t_3 t_2 A_22 c_24 x_20 _ _ (row_C (hp.at_ 0 _ (by rfl))) (row_len (hp.at_ 0 _ (by rfl))).2 hv_51).mono ?_)
      rintro _ W_53 ⟨rfl, hb⟩
      refine ⟨_, rfl, ?_⟩
      replace hp := hp.below hb
      clear hb
      refine sx_rd 2 (.string t_52) (by rfl) (by kernel_rfl) ?_
      refine sx_rd 3 (.bool true) (by rfl) (by kernel_rfl) ?_
      refine sx_nil ?_
      refine ex_then_n ?_
      refine wp_ret ?_
      refine sx_end (.tuple #[.string t_52, .bool true]) (res2 2 3 (by rfl)) ?_
      simp only [Option.some.injEq, Prod.mk.injEq] at h; obtain ⟨rfl, rfl⟩ := h
      exact ⟨rfl, hc2 _ (hp.tail.tail.tail.tail)⟩
  ·
    rw [if_neg hc_15] at h
    refine sx_then (!t_5) (by rfl) (show (!t_5) = true from by rw [(Bool.eq_false_iff.mpr hc_15)]; rfl) ?_
    refine wp_seq ?_
    refine sx_region ?_
    refine sx_rd 2 (.string (⟨#[]⟩ : ByteArray)) (by rfl) (by kernel_rfl) ?_
    refine sx_rd 3 (.bool false) (by rfl) (by kernel_rfl) ?_
    refine sx_nil ?_
    refine ex_then_n ?_
    refine wp_ret ?_
    refine ex_then_r ?_
    refine sx_end (.tuple #[.string (⟨#[]⟩ : ByteArray), .bool false]) (res2 2 3 (by rfl)) ?_
    simp only [Option.some.injEq, Prod.mk.injEq] at h; obtain ⟨rfl, rfl⟩ := h
    exact ⟨rfl, hc2 _ (hp.tail.tail)⟩
end
section
open Go.RowKit Go.Proofs.YtokkiiepddhkiaaDoorW.PrintWords Go.Proofs.YtokkiiepddhkiaaDoorW.PrintLast Go.Proofs.YtokkiiepddhkiaaDoorW.PrintMore
attribute [local go_sem] max2_int min2_int max_two min_two max_three min_three max_four min_four   -- for this text's walks alone
set_option linter.unusedVariables false
set_option linter.unusedSimpArgs false

def impl_isForm.l0 : Nat → ByteArray → List ByteArray → List ByteArray → Int → Int → Option (Bool)
  | 0, _, _, _, _, _ => none
  | k + 1, x1, x5, x11, x12, x13 => if x13 < x12 then (if 0 ≤ x13 then (if x13 < (x11.length : Int) then (if 0 < (x5.length : Int) then (if ((rdOf ByteArray.empty x11 x13).size : Int) = ((rdOf ByteArray.empty x5 0).size : Int) then (if ((rdOf ByteArray.empty x11 x13).size : Int) = 0 then (some false) else ((strings_Trim.f (rdOf ByteArray.empty x11 x13) x1).bind fun t157 => (if t157.toList = ([] : List UInt8) then (impl_isForm.l0 k x1 x5 x11 x12 (wrap64 (x13 + 1))) else (some false)))) else (some false)) else (none)) else (none)) else (none)) else (if 0 < (x5.length : Int) then (if (wrap64 ((x5.length : Int) * ((rdOf ByteArray.empty x5 0).size : Int))) ≤ 30 then (some ((Int.tmod (wrap64 ((x5.length : Int) * ((rdOf ByteArray.empty x5 0).size : Int))) 2) == 0)) else (some false)) else (none))
def impl_isForm.f (k : Nat) (a0 : ByteArray) (a1 : ByteArray) : Option (Bool) := (strings_Split.f a0 (⟨#[47]⟩ : ByteArray)).bind fun t152 => (impl_isForm.l0 k a1 t152 t152 (t152.length : Int) 0)
set_option maxRecDepth 100000 in
set_option maxHeartbeats 40000000 in
theorem impl_isForm.calls (k : Nat) (a0 : ByteArray) (a1 : ByteArray) (r : Bool) (w : World) (hmx : ∃ m, w.cell? ⟨0, 0, none⟩ = some (.int .i64 m)) (h : impl_isForm.f k a0 a1 = some r) :
    Calls Tryd.prog 32 #[.string a0, .string a1] w fun e w' => e = .returned (.bool r) ∧ Below w.heap.size w w' := by
  obtain ⟨cs, hcs⟩ : ∃ cs, cs = [old w w.heap.size] := ⟨_, rfl⟩
  have hp : Hp w cs w := by rw [hcs]; exact Hp.old_start w
  have hc2 : ∀ W, Hp w cs W → Below w.heap.size w W := fun W h => by rw [hcs] at h; exact h.since 0 _ rfl
  have hM : ∀ W, Hp w cs W → ∃ m, W.cell? ⟨0, 0, none⟩ = some (.int .i64 m) := fun W h => hmx.imp fun m q => ((hc2 W h).cell (World.block_lt_of_cell? _ _ q)).trans q
  clear hcs
  unfold impl_isForm.f at h
  obtain ⟨t_2, hv_1, h⟩ := Option.bind_eq_some_iff.mp h
  try dsimp only at h
  refine sx_enter (N := 50) (l := [.string a0, .string a1]) Tryd.func32 rfl rfl rfl ?_
  refine wp_seq ?_
  refine sx_region ?_
  refine sx_rd 4 (.bool false) (by rfl) (by kernel_rfl) ?_
  refine sx_nil ?_
  refine ex_then_n ?_
  refine wp_seq ?_
  refine sx_region ?_
  refine sx_rd 9 (.string a0) (by rfl) (by kernel_rfl) ?_
  refine sx_call 10 (by rfl) (by kernel_rfl) ((strings_Split.calls a0 (⟨#[47]⟩ : ByteArray) _ _ (hM _ (hp)) hv_1).mono ?_)
  rintro _ W_8 ⟨v_4, rfl, hR_3, hb⟩
  refine ⟨_, rfl, ?_⟩
  obtain ⟨A_5, c_6, rfl, hcc_c_6, _⟩ := Kd.R_reads hR_3
  obtain ⟨F_7, hp⟩ : ∃ F, Hp w (row Kd.string 9 w.heap.size (.slice A_5 t_2.length c_6) t_2 F :: cs) _ := ⟨_, Hp.made hp hb hR_3⟩
  refine sx_rd 5 (.slice A_5 t_2.length c_6) (by rfl) (by kernel_rfl) ?_
  refine sx_nil ?_
  refine ex_then_n ?_
  refine wp_seq ?_
  refine wp_seq ?_
  refine sx_region ?_
  refine sx_rd 11 (.slice A_5 t_2.length c_6) (by rfl) (by kernel_rfl) ?_
  refine sx_rd 12 (.int .i64 (t_2.length : Int)) (by rfl) (by kernel_rfl) ?_
  refine sx_rd 13 (.int .i64 0) (by rfl) (by kernel_rfl) ?_
  refine sx_nil ?_
  refine ex_then_n ?_
  refine wp_block ?_
  refine wp_loop_ghost (fun n_ a_ W => ∃ (r_ : List (Nat × Value)) (k_10 : Nat) (x_9 : Int)  , n_ = k_10 + 1 ∧ a_ = fr 50 ([(1, .string a1), (5, .slice A_5 t_2.length c_6), (11, .slice A_5 t_2.length c_6), (12, .int .i64 (t_2.length : Int)), (13, .int .i64 x_9)] ++ r_) ∧ Hp w (row Kd.string 9 w.heap.size (.slice A_5 t_2.length c_6) t_2 F_7 :: cs) W ∧ (impl_isForm.l0 k_10 a1 t_2 t_2 (t_2.length : Int) x_9 = some r) ∧ (k_10 ≤ k)) _ ⟨_, k, 0, rfl, fr_front [(1, .string a1), (5, .slice A_5 t_2.length c_6), (11, .slice A_5 t_2.length c_6), (12, .int .i64 (t_2.length : Int)), (13, .int .i64 0)] ⟨rfl, rfl, rfl, rfl, rfl, trivial⟩, (hp.take [0] 1 (by decide) (by simp)), h, (Nat.le_refl _)⟩ ?_
  rintro _ _ W_12 ⟨r_, k_10, x_9, rfl, rfl, hp, h, hk_11⟩
  rcases k_10 with _ | k_10
  · simp [impl_isForm.l0] at h
  simp only [impl_isForm.l0] at h
  refine wp_seq ?_
  refine sx_region ?_
  refine sx_rd 14 (.bool (decide (x_9 < (t_2.length : Int)))) (by rfl) (by kernel_rfl) ?_
  refine sx_nil ?_
  refine ex_then_n ?_
  refine wp_seq ?_
  by_cases hc_13 : x_9 < (t_2.length : Int)
  ·
    rw [if_pos hc_13] at h
    by_cases hc_14 : 0 ≤ x_9
    case neg => rw [if_neg hc_14] at h; cases h
    rw [if_pos hc_14] at h
    by_cases hc_15 : x_9 < (t_2.length : Int)
    case neg => rw [if_neg hc_15] at h; cases h
    rw [if_pos hc_15] at h
    by_cases hc_16 : 0 < (t_2.length : Int)
    case neg => rw [if_neg hc_16] at h; cases h
    rw [if_pos hc_16] at h
    refine sx_then (decide (x_9 < (t_2.length : Int))) (by rfl) (decide_eq_true hc_13) ?_
    refine wp_skip ?_
    refine ex_then_n ?_
    refine wp_seq ?_
    refine wp_block ?_
    refine wp_seq ?_
    refine sx_region ?_
    refine sx_rd 15 (.pointer (some (adr A_5 x_9 1))) (by rfl) (ix_run (d := Kd.string) (row_C (hp.at_ 0 _ (by rfl))) (t := 40) (by rfl) (by rfl) (by rfl) Tryd.underlying40 (by kernel_rfl) (by omega) (by omega)) ?_
    refine sx_rd 16 (.string (rdOf ByteArray.empty t_2 x_9)) (by rfl) (ld1 (t := 9) (p := (.tmp 15)) (by rfl) (by rfl) (by kernel_rfl) (el_cell (d := Kd.string) (row_C (hp.at_ 0 _ (by rfl))) ByteArray.empty x_9 (by omega) (by omega) (cells := [.string (rdOf ByteArray.empty t_2 x_9)]) (fun cs h => h) 0 _ (by rfl))) ?_
    refine sx_rd 7 (.string (rdOf ByteArray.empty t_2 x_9)) (by rfl) (by kernel_rfl) ?_
    refine sx_nil ?_
    refine ex_then_n ?_
    refine wp_seq ?_
    by_cases hc_17 : ((rdOf ByteArray.empty t_2 x_9).size : Int) = ((rdOf ByteArray.empty t_2 0).size : Int)
    ·
      rw [if_pos hc_17] at h
      by_cases hc_18 : ((rdOf ByteArray.empty t_2 x_9).size : Int) = 0
      ·
        rw [if_pos hc_18] at h
        refine sx_region ?_
        refine sx_rd 17 (.string (rdOf ByteArray.empty t_2 x_9)) (by rfl) (by kernel_rfl) ?_
        refine sx_rd 18 (.int .i64 ((rdOf ByteArray.empty t_2 x_9).size : Int)) (by rfl) (by kernel_rfl) ?_
        refine sx_rd 19 (.slice A_5 t_2.length c_6) (by rfl) (by kernel_rfl) ?_
        refine sx_rd 20 (.pointer (some (adr A_5 0 1))) (by rfl) (ix_run (d := Kd.string) (row_C (hp.at_ 0 _ (by rfl))) (t := 40) (by rfl) (by rfl) (by rfl) Tryd.underlying40 (by kernel_rfl) (by omega) (by omega)) ?_
        refine sx_rd 21 (.string (rdOf ByteArray.empty t_2 0)) (by rfl) (ld1 (t := 9) (p := (.tmp 20)) (by rfl) (by rfl) (by kernel_rfl) (el_cell (d := Kd.string) (row_C (hp.at_ 0 _ (by rfl))) ByteArray.empty 0 (by omega) (by omega) (cells := [.string (rdOf ByteArray.empty t_2 0)]) (fun cs h => h) 0 _ (by rfl))) ?_
        refine sx_rd 22 (.int .i64 ((rdOf ByteArray.empty t_2 0).size : Int)) (by rfl) (by kernel_rfl) ?_
        refine sx_rd 23 (.bool false) (by rfl) (bv (bne_eq_false_iff_eq.mpr hc_17) (by kernel_rfl)) ?_
        refine sx_rd 24 (.bool false) (by rfl) (by kernel_rfl) ?_
        refine sx_want (by rfl) ?_
        refine sx_rd 25 (.string (rdOf ByteArray.empty t_2 x_9)) (by rfl) (by kernel_rfl) ?_
        refine sx_want (by rfl) ?_
        refine sx_rd 26 (.int .i64 ((rdOf ByteArray.empty t_2 x_9).size : Int)) (by rfl) (by kernel_rfl) ?_
        refine sx_want (by rfl) ?_
        refine sx_rd 27 (.bool true) (by rfl) (bv (beq_iff_eq.mpr hc_18) (by kernel_rfl)) ?_
        refine sx_rd 28 (.bool true) (by rfl) (by kernel_rfl) ?_
        refine sx_rd 29 (.bool true) (by rfl) (by kernel_rfl) ?_
        refine sx_skip 30 (by rfl) (by rfl) (by rfl) ?_
        refine sx_skip 31 (by rfl) (by rfl) (by rfl) ?_
        refine sx_skip 32 (by rfl) (by rfl) (by rfl) ?_
        refine sx_skip 33 (by rfl) (by rfl) (by rfl) ?_
        refine sx_rd 34 (.bool true) (by rfl) (by kernel_rfl) ?_
        refine sx_nil ?_
        refine ex_then_n ?_
        refine sx_then true (by rfl) rfl ?_
        refine wp_seq ?_
        refine sx_region ?_
        refine sx_rd 4 (.bool false) (by rfl) (by kernel_rfl) ?_
        refine sx_nil ?_
        refine ex_then_n ?_
        refine wp_ret ?_
        refine ex_blk_r (ex_then_r (ex_then_r (ex_blk_r (ex_then_r ?_))))
        refine sx_end (.bool false) (res1 4 (by rfl)) ?_
        obtain rfl := Option.some.inj h
        exact ⟨rfl, hc2 _ (hp.tail)⟩
      ·
        rw [if_neg hc_18] at h
        obtain ⟨t_20, hv_19, h⟩ := Option.bind_eq_some_iff.mp h
        try dsimp only at h
        refine sx_region ?_
        refine sx_rd 17 (.string (rdOf ByteArray.empty t_2 x_9)) (by rfl) (by kernel_rfl) ?_
        refine sx_rd 18 (.int .i64 ((rdOf ByteArray.empty t_2 x_9).size : Int)) (by rfl) (by kernel_rfl) ?_
        refine sx_rd 19 (.slice A_5 t_2.length c_6) (by rfl) (by kernel_rfl) ?_
        refine sx_rd 20 (.pointer (some (adr A_5 0 1))) (by rfl) (ix_run (d := Kd.string) (row_C (hp.at_ 0 _ (by rfl))) (t := 40) (by rfl) (by rfl) (by rfl) Tryd.underlying40 (by kernel_rfl) (by omega) (by omega)) ?_
        refine sx_rd 21 (.string (rdOf ByteArray.empty t_2 0)) (by rfl) (ld1 (t := 9) (p := (.tmp 20)) (by rfl) (by rfl) (by kernel_rfl) (el_cell (d := Kd.string) (row_C (hp.at_ 0 _ (by rfl))) ByteArray.empty 0 (by omega) (by omega) (cells := [.string (rdOf ByteArray.empty t_2 0)]) (fun cs h => h) 0 _ (by rfl))) ?_
        refine sx_rd 22 (.int .i64 ((rdOf ByteArray.empty t_2 0).size : Int)) (by rfl) (by kernel_rfl) ?_
        refine sx_rd 23 (.bool false) (by rfl) (bv (bne_eq_false_iff_eq.mpr hc_17) (by kernel_rfl)) ?_
        refine sx_rd 24 (.bool false) (by rfl) (by kernel_rfl) ?_
        refine sx_want (by rfl) ?_
        refine sx_rd 25 (.string (rdOf ByteArray.empty t_2 x_9)) (by rfl) (by kernel_rfl) ?_
        refine sx_want (by rfl) ?_
        refine sx_rd 26 (.int .i64 ((rdOf ByteArray.empty t_2 x_9).size : Int)) (by rfl) (by kernel_rfl) ?_
        refine sx_want (by rfl) ?_
        refine sx_rd 27 (.bool false) (by rfl) (bv (beq_eq_false_iff_ne.mpr hc_18) (by kernel_rfl)) ?_
        refine sx_rd 28 (.bool false) (by rfl) (by kernel_rfl) ?_
        refine sx_rd 29 (.bool false) (by rfl) (by kernel_rfl) ?_
        refine sx_want (by rfl) ?_
        refine sx_rd 30 (.string (rdOf ByteArray.empty t_2 x_9)) (by rfl) (by kernel_rfl) ?_
        refine sx_want (by rfl) ?_
        refine sx_rd 31 (.string a1) (by rfl) (by kernel_rfl) ?_
        refine sx_want (by rfl) ?_
        refine sx_call 32 (by rfl) (by kernel_rfl) ((strings_Trim.calls (rdOf ByteArray.empty t_2 x_9) a1 _ _ hv_19).mono ?_)
        rintro _ W_21 ⟨rfl, hb⟩
        refine ⟨_, rfl, ?_⟩
        replace hp := hp.below hb
        clear hb
        refine sx_want (by rfl) ?_
        refine sx_rd 33 (.bool (t_20.toList != (⟨#[]⟩ : ByteArray).toList)) (by rfl) (by kernel_rfl) ?_
        refine sx_rd 34 (.bool (t_20.toList != (⟨#[]⟩ : ByteArray).toList)) (by rfl) (by kernel_rfl) ?_
        refine sx_nil ?_
        refine ex_then_n ?_
        by_cases hc_22 : t_20.toList = ([] : List UInt8)
        ·
          rw [if_pos hc_22] at h
          refine sx_else (t_20.toList != (⟨#[]⟩ : ByteArray).toList) (by rfl) (show (t_20.toList != (⟨#[]⟩ : ByteArray).toList) = false from by rw [hc_22, tnil]; rfl) ?_
          refine wp_skip ?_
          refine ex_blk_n ?_
          refine ex_then_n ?_
          refine sx_region ?_
          refine sx_rd 35 (.int .i64 (wrap64 (x_9 + 1))) (by rfl) (wr_w (by kernel_rfl)) ?_
          refine sx_rd 13 (.int .i64 (wrap64 (x_9 + 1))) (by rfl) (by kernel_rfl) ?_
          refine sx_nil ?_
          refine ex_then_n ?_
          exact ⟨_, (by omega), _, k_10, (wrap64 (x_9 + 1)), rfl, fr_front [(1, .string a1), (5, .slice A_5 t_2.length c_6), (11, .slice A_5 t_2.length c_6), (12, .int .i64 (t_2.length : Int)), (13, .int .i64 (wrap64 (x_9 + 1)))] ⟨rfl, rfl, rfl, rfl, rfl, trivial⟩, (hp.take [0] 1 (by decide) (by simp)), h, (by omega)⟩
        ·
          rw [if_neg hc_22] at h
          refine sx_then (t_20.toList != (⟨#[]⟩ : ByteArray).toList) (by rfl) (show (t_20.toList != (⟨#[]⟩ : ByteArray).toList) = true from by exact bne_iff_ne.mpr (by rw [tnil]; exact hc_22)) ?_
          refine wp_seq ?_
          refine sx_region ?_
          refine sx_rd 4 (.bool false) (by rfl) (by kernel_rfl) ?_
          refine sx_nil ?_
          refine ex_then_n ?_
          refine wp_ret ?_
          refine ex_blk_r (ex_then_r (ex_then_r (ex_blk_r (ex_then_r ?_))))
          refine sx_end (.bool false) (res1 4 (by rfl)) ?_
          obtain rfl := Option.some.inj h
          exact ⟨rfl, hc2 _ (hp.tail)⟩
    ·
      rw [if_neg hc_17] at h
      refine sx_region ?_
      refine sx_rd 17 (.string (rdOf ByteArray.empty t_2 x_9)) (by rfl) (by kernel_rfl) ?_
      refine sx_rd 18 (.int .i64 ((rdOf ByteArray.empty t_2 x_9).size : Int)) (by rfl) (by kernel_rfl) ?_
      refine sx_rd 19 (.slice A_5 t_2.length c_6) (by rfl) (by kernel_rfl) ?_
      refine sx_rd 20 (.pointer (some (adr A_5 0 1))) (by rfl) (ix_run (d := Kd.string) (row_C (hp.at_ 0 _ (by rfl))) (t := 40) (by rfl) (by rfl) (by rfl) Tryd.underlying40 (by kernel_rfl) (by omega) (by omega)) ?_
      refine sx_rd 21 (.string (rdOf ByteArray.empty t_2 0)) (by rfl) (ld1 (t := 9) (p := (.tmp 20)) (by rfl) (by rfl) (by kernel_rfl) (el_cell (d := Kd.string) (row_C (hp.at_ 0 _ (by rfl))) ByteArray.empty 0 (by omega) (by omega) (cells := [.string (rdOf ByteArray.empty t_2 0)]) (fun cs h => h) 0 _ (by rfl))) ?_
      refine sx_rd 22 (.int .i64 ((rdOf ByteArray.empty t_2 0).size : Int)) (by rfl) (by kernel_rfl) ?_
      refine sx_rd 23 (.bool true) (by rfl) (bv (bne_iff_ne.mpr hc_17) (by kernel_rfl)) ?_
      refine sx_rd 24 (.bool true) (by rfl) (by kernel_rfl) ?_
      refine sx_skip 25 (by rfl) (by rfl) (by rfl) ?_
      refine sx_skip 26 (by rfl) (by rfl) (by rfl) ?_
      refine sx_skip 27 (by rfl) (by rfl) (by rfl) ?_
      refine sx_rd 28 (.bool true) (by rfl) (by kernel_rfl) ?_
      refine sx_rd 29 (.bool true) (by rfl) (by kernel_rfl) ?_
      refine sx_skip 30 (by rfl) (by rfl) (by rfl) ?_
      refine sx_skip 31 (by rfl) (by rfl) (by rfl) ?_
      refine sx_skip 32 (by rfl) (by rfl) (by rfl) ?_
      refine sx_skip 33 (by rfl) (by rfl) (by rfl) ?_
      refine sx_rd 34 (.bool true) (by rfl) (by kernel_rfl) ?_
      refine sx_nil ?_
      refine ex_then_n ?_
      refine sx_then true (by rfl) rfl ?_
      refine wp_seq ?_
      refine sx_region ?_
      refine sx_rd 4 (.bool false) (by rfl) (by kernel_rfl) ?_
      refine sx_nil ?_
      refine ex_then_n ?_
      refine wp_ret ?_
      refine ex_blk_r (ex_then_r (ex_then_r (ex_blk_r (ex_then_r ?_))))
      refine sx_end (.bool false) (res1 4 (by rfl)) ?_
      obtain rfl := Option.some.inj h
      exact ⟨rfl, hc2 _ (hp.tail)⟩
  ·
    rw [if_neg hc_13] at h
    by_cases hc_23 : 0 < (t_2.length : Int)
    case neg => rw [if_neg hc_23] at h; cases h
    rw [if_pos hc_23] at h
    refine sx_else (decide (x_9 < (t_2.length : Int))) (by rfl) (decide_eq_false hc_13) ?_
    refine wp_exit ?_
    refine ex_then_e (ex_then_e (ex_blk_here ?_))
    refine ex_then_n ?_
    refine wp_seq ?_
    refine sx_region ?_
    refine sx_rd 36 (.slice A_5 t_2.length c_6) (by rfl) (by kernel_rfl) ?_
    refine sx_rd 37 (.int .i64 (t_2.length : Int)) (by rfl) (by kernel_rfl) ?_
    refine sx_rd 38 (.slice A_5 t_2.length c_6) (by rfl) (by kernel_rfl) ?_
    refine sx_rd 39 (.pointer (some (adr A_5 0 1))) (by rfl) (ix_run (d := Kd.string) (row_C (hp.at_ 0 _ (by rfl))) (t := 40) (by rfl) (by rfl) (by rfl) Tryd.underlying40 (by kernel_rfl) (by omega) (by omega)) ?_
    refine sx_rd 40 (.string (rdOf ByteArray.empty t_2 0)) (by rfl) (ld1 (t := 9) (p := (.tmp 39)) (by rfl) (by rfl) (by kernel_rfl) (el_cell (d := Kd.string) (row_C (hp.at_ 0 _ (by rfl))) ByteArray.empty 0 (by omega) (by omega) (cells := [.string (rdOf ByteArray.empty t_2 0)]) (fun cs h => h) 0 _ (by rfl))) ?_
    refine sx_rd 41 (.int .i64 ((rdOf ByteArray.empty t_2 0).size : Int)) (by rfl) (by kernel_rfl) ?_
    refine sx_rd 42 (.int .i64 (wrap64 ((t_2.length : Int) * ((rdOf ByteArray.empty t_2 0).size : Int)))) (by rfl) (wr_w (by kernel_rfl)) ?_
    refine sx_rd 8 (.int .i64 (wrap64 ((t_2.length : Int) * ((rdOf ByteArray.empty t_2 0).size : Int)))) (by rfl) (by kernel_rfl) ?_
    refine sx_nil ?_
    refine ex_then_n ?_
    refine wp_seq ?_
    by_cases hc_24 : (wrap64 ((t_2.length : Int) * ((rdOf ByteArray.empty t_2 0).size : Int))) ≤ 30
    ·
      rw [if_pos hc_24] at h
      refine sx_region ?_
      refine sx_rd 43 (.int .i64 (wrap64 ((t_2.length : Int) * ((rdOf ByteArray.empty t_2 0).size : Int)))) (by rfl) (by kernel_rfl) ?_
      refine sx_rd 44 (.bool true) (by rfl) (bv (decide_eq_true hc_24) (by kernel_rfl)) ?_
      refine sx_rd 45 (.bool true) (by rfl) (by kernel_rfl) ?_
      refine sx_want (by rfl) ?_
      refine sx_rd 46 (.int .i64 (wrap64 ((t_2.length : Int) * ((rdOf ByteArray.empty t_2 0).size : Int)))) (by rfl) (by kernel_rfl) ?_
      refine sx_want (by rfl) ?_
      refine sx_rd 47 (.int .i64 (Int.tmod (wrap64 ((t_2.length : Int) * ((rdOf ByteArray.empty t_2 0).size : Int))) 2)) (by rfl) (by kernel_rfl) ?_
      refine sx_want (by rfl) ?_
      refine sx_rd 48 (.bool ((Int.tmod (wrap64 ((t_2.length : Int) * ((rdOf ByteArray.empty t_2 0).size : Int))) 2) == 0)) (by rfl) (by kernel_rfl) ?_
      refine sx_rd 49 (.bool ((Int.tmod (wrap64 ((t_2.length : Int) * ((rdOf ByteArray.empty t_2 0).size : Int))) 2) == 0)) (by rfl) (by kernel_rfl) ?_
      refine sx_rd 4 (.bool ((Int.tmod (wrap64 ((t_2.length : Int) * ((rdOf ByteArray.empty t_2 0).size : Int))) 2) == 0)) (by rfl) (by kernel_rfl) ?_
      refine sx_nil ?_
      refine ex_then_n ?_
      refine wp_ret ?_
      refine sx_end (.bool ((Int.tmod (wrap64 ((t_2.length : Int) * ((rdOf ByteArray.empty t_2 0).size : Int))) 2) == 0)) (res1 4 (by rfl)) ?_
      obtain rfl := Option.some.inj h
      exact ⟨rfl, hc2 _ (hp.tail)⟩
    ·
      rw [if_neg hc_24] at h
      refine sx_region ?_
      refine sx_rd 43 (.int .i64 (wrap64 ((t_2.length : Int) * ((rdOf ByteArray.empty t_2 0).size : Int)))) (by rfl) (by kernel_rfl) ?_
      refine sx_rd 44 (.bool false) (by rfl) (bv (decide_eq_false hc_24) (by kernel_rfl)) ?_
      refine sx_rd 45 (.bool false) (by rfl) (by kernel_rfl) ?_
      refine sx_skip 46 (by rfl) (by rfl) (by rfl) ?_
      refine sx_skip 47 (by rfl) (by rfl) (by rfl) ?_
      refine sx_skip 48 (by rfl) (by rfl) (by rfl) ?_
      refine sx_rd 49 (.bool false) (by rfl) (by kernel_rfl) ?_
      refine sx_rd 4 (.bool false) (by rfl) (by kernel_rfl) ?_
      refine sx_nil ?_
      refine ex_then_n ?_
      refine wp_ret ?_
      refine sx_end (.bool false) (res1 4 (by rfl)) ?_
      obtain rfl := Option.some.inj h
      exact ⟨rfl, hc2 _ (hp.tail)⟩
end
section
open Go.RowKit Go.Proofs.YtokkiiepddhkiaaDoorW.PrintWords Go.Proofs.YtokkiiepddhkiaaDoorW.PrintLast Go.Proofs.YtokkiiepddhkiaaDoorW.PrintMore
attribute [local go_sem] max2_int min2_int max_two min_two max_three min_three max_four min_four   -- for this text's walks alone
set_option linter.unusedVariables false
set_option linter.unusedSimpArgs false

def impl_IsTable.f (k : Nat) (a0 : ByteArray) : Option (Bool) := (impl_isForm.f k a0 (⟨#[48, 49, 50, 51, 52, 53, 54, 55, 56, 57]⟩ : ByteArray)).bind fun t159 => (some t159)
set_option maxRecDepth 100000 in
set_option maxHeartbeats 40000000 in
theorem impl_IsTable.calls (k : Nat) (a0 : ByteArray) (r : Bool) (w : World) (hmx : ∃ m, w.cell? ⟨0, 0, none⟩ = some (.int .i64 m)) (h : impl_IsTable.f k a0 = some r) :
    Calls Tryd.prog 17 #[.string a0] w fun e w' => e = .returned (.bool r) ∧ Below w.heap.size w w' := by
  obtain ⟨cs, hcs⟩ : ∃ cs, cs = [old w w.heap.size] := ⟨_, rfl⟩
  have hp : Hp w cs w := by rw [hcs]; exact Hp.old_start w
  have hc2 : ∀ W, Hp w cs W → Below w.heap.size w W := fun W h => by rw [hcs] at h; exact h.since 0 _ rfl
  have hM : ∀ W, Hp w cs W → ∃ m, W.cell? ⟨0, 0, none⟩ = some (.int .i64 m) := fun W h => hmx.imp fun m q => ((hc2 W h).cell (World.block_lt_of_cell? _ _ q)).trans q
  clear hcs
  unfold impl_IsTable.f at h
  obtain ⟨t_2, hv_1, h⟩ := Option.bind_eq_some_iff.mp h
  try dsimp only at h
  refine sx_enter (N := 5) (l := [.string a0]) Tryd.func17 rfl rfl rfl ?_
  refine wp_seq ?_
  refine sx_region ?_
  refine sx_rd 2 (.bool false) (by rfl) (by kernel_rfl) ?_
  refine sx_nil ?_
  refine ex_then_n ?_
  refine wp_seq ?_
  refine sx_region ?_
  refine sx_rd 3 (.string a0) (by rfl) (by kernel_rfl) ?_
  refine sx_call 4 (by rfl) (by kernel_rfl) ((impl_isForm.calls _ a0 (⟨#[48, 49, 50, 51, 52, 53, 54, 55, 56, 57]⟩ : ByteArray) _ _ (hM _ (hp)) hv_1).mono ?_)
  rintro _ W_3 ⟨rfl, hb⟩
  refine ⟨_, rfl, ?_⟩
  replace hp := hp.below hb
  clear hb
  refine sx_rd 2 (.bool t_2) (by rfl) (by kernel_rfl) ?_
  refine sx_nil ?_
  refine ex_then_n ?_
  refine wp_ret ?_
  refine sx_end (.bool t_2) (res1 2 (by rfl)) ?_
  obtain rfl := Option.some.inj h
  exact ⟨rfl, hc2 _ (hp)⟩
end
section
open Go.RowKit Go.Proofs.YtokkiiepddhkiaaDoorW.PrintWords Go.Proofs.YtokkiiepddhkiaaDoorW.PrintLast Go.Proofs.YtokkiiepddhkiaaDoorW.PrintMore
attribute [local go_sem] max2_int min2_int max_two min_two max_three min_three max_four min_four   -- for this text's walks alone
set_option linter.unusedVariables false
set_option linter.unusedSimpArgs false

end
section
open Go.RowKit Go.Proofs.YtokkiiepddhkiaaDoorW.PrintWords Go.Proofs.YtokkiiepddhkiaaDoorW.PrintLast Go.Proofs.YtokkiiepddhkiaaDoorW.PrintMore
attribute [local go_sem] max2_int min2_int max_two min_two max_three min_three max_four min_four   -- for this text's walks alone
set_option linter.unusedVariables false
set_option linter.unusedSimpArgs false

end
section
open Go.RowKit Go.Proofs.YtokkiiepddhkiaaDoorW.PrintWords Go.Proofs.YtokkiiepddhkiaaDoorW.PrintLast Go.Proofs.YtokkiiepddhkiaaDoorW.PrintMore
attribute [local go_sem] max2_int min2_int max_two min_two max_three min_three max_four min_four   -- for this text's walks alone
set_option linter.unusedVariables false
set_option linter.unusedSimpArgs false

end
end Go.Proofs.YtokkiiepddhkiaaDoor.Hd
