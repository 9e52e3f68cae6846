-- Printed by hprint.py and laid together by pack.py (this session's programs over the kit's print program). Lean checks it.
import Derived.Test.YtokkiiepddhkiaaGreatDoorMSx5
import Derived.Test.YtokkiiepddhkiaaGreatDoorMSxL
import Derived.Test.YtokkiiepddhkiaaGreatDoorMMx
import Derived.Test.YtokkiiepddhkiaaGreatDoorG0
import Derived.Test.YtokkiiepddhkiaaGreatDoorG1
import Derived.Test.YtokkiiepddhkiaaGreatDoorMStrs
import Derived.Test.YtokkiiepddhkiaaGreatDoorMHand
import Derived.Test.YtokkiiepddhkiaaGreatDoorMStrJ
namespace Go.Proofs.YtokkiiepddhkiaaGreatDoor.Hd
section
open Go.RowKit Go.Proofs.YtokkiiepddhkiaaGreatDoorW.PrintWords Go.Proofs.YtokkiiepddhkiaaGreatDoorW.PrintLast Go.Proofs.YtokkiiepddhkiaaGreatDoorW.PrintMore
attribute [local go_sem] max2_int min2_int max_two min_two max_three min_three max_four min_four   -- for this text's walks alone
set_option linter.unusedVariables false
set_option linter.unusedSimpArgs false

mutual
def spec_taRead.l0 : Nat → List ByteArray → Int → Int → Int → Int → List Int → Option (Int × Int × List Int × Bool)
  | 0, _, _, _, _, _, _ => none
  | k + 1, x25, x26, x27, x120000, x120001, x120002 => if x27 < x26 then (if 0 ≤ x27 then (if x27 < (x25.length : Int) then (spec_taRead.l1 k (rdOf ByteArray.empty x25 x27) 0 x25 x26 x27 x120000 x120001 x120002) else (none)) else (none)) else (some (x120000, x120001, x120002, true))
def spec_taRead.l1 : Nat → ByteArray → Int → List ByteArray → Int → Int → Int → Int → List Int → Option (Int × Int × List Int × Bool)
  | 0, _, _, _, _, _, _, _, _ => none
  | k + 1, x8, x9, x25, x26, x27, x120000, x120001, x120002 => if x9 < (x8.size : Int) then (if 0 ≤ x9 then (if (bt x8 x9) < 48 then (some (0, 0, ([] : List Int), false)) else (if (bt x8 x9) > 57 then (some (0, 0, ([] : List Int), false)) else (if x120002.length < 17592186044416 then (spec_taRead.l1 k x8 (wrap64 (x9 + 1)) x25 x26 x27 x120000 x120001 (x120002 ++ [((bt x8 x9) - 48) % 256])) else (none)))) else (none)) else (spec_taRead.l0 k x25 x26 (wrap64 (x27 + 1)) x120000 x120001 x120002)
end
def spec_taRead.f (k : Nat) (a0 : ByteArray) : Option (Int × Int × List Int × Bool) := (spec_taRows.f k a0).bind fun bt114 => (if bt114.2 = true then (if 0 < (bt114.1.length : Int) then (spec_taRead.l0 k bt114.1 (bt114.1.length : Int) 0 ((rdOf ByteArray.empty bt114.1 0).size : Int) (bt114.1.length : Int) ([] : List Int)) else (none)) else (some (0, 0, ([] : List Int), false)))
set_option maxRecDepth 100000 in
set_option maxHeartbeats 40000000 in
theorem spec_taRead.calls (k : Nat) (a0 : ByteArray) (r1 : Int) (r2 : Int) (r3 : List Int) (r4 : Bool) (w : World) (h : spec_taRead.f k a0 = some (r1, r2, r3, r4)) :
    Calls Tryz.prog 43 #[.string a0] w fun e w' => ∃ v2_ : Value, e = .returned (.tuple #[.agg #[.int .i64 r1, .int .i64 r2, v2_], .bool r4]) ∧ Kd.R (Kd.int .i64) 3 w' w.heap.size (fun _ => True) v2_ r3 ∧ Below w.heap.size w w' := by
  obtain ⟨cs, hcs⟩ : ∃ cs, cs = [old w w.heap.size] := ⟨_, rfl⟩
  have hp : Hp w cs w := by rw [hcs]; exact Hp.old_start w
  have hc2 : ∀ W, Hp w cs W → Below w.heap.size w W := fun W h => by rw [hcs] at h; exact h.since 0 _ rfl
  clear hcs
  unfold spec_taRead.f at h
  obtain ⟨⟨t_2, t_3⟩, hv_1, h⟩ := Option.bind_eq_some_iff.mp h
  try dsimp only at h
  refine sx_enter (N := 60) (l := [.string a0]) Tryz.func43 rfl rfl rfl ?_
  refine wp_seq ?_
  refine sx_region ?_
  refine sx_box 2 hp #[.int .i64 0, .int .i64 0, .slice none 0 0] 44 (by rfl) (fun W => by kernel_rfl) ?_
  intro g_4 W_5 hp
  refine sx_rd 3 (.bool false) (by rfl) (by kernel_rfl) ?_
  refine sx_nil ?_
  refine ex_then_n ?_
  refine wp_seq ?_
  refine sx_region ?_
  refine sx_rd 11 (.string a0) (by rfl) (by kernel_rfl) ?_
  refine sx_call 12 (by rfl) (by kernel_rfl) ((spec_taRows.calls _ a0 _ _ _ hv_1).mono ?_)
  rintro _ W_11 ⟨v_7, rfl, hR_6, hb⟩
  refine ⟨_, rfl, ?_⟩
  obtain ⟨A_8, c_9, rfl, hcc_c_9, _⟩ := Kd.R_reads hR_6
  obtain ⟨F_10, hp⟩ : ∃ F, Hp w (row Kd.string 9 w.heap.size (.slice A_8 t_2.length c_9) t_2 F :: blk g_4 #[.int .i64 0, .int .i64 0, .slice none 0 0] 44 :: cs) _ := ⟨_, Hp.made hp hb hR_6⟩
  refine sx_rd 10 (.tuple #[.slice A_8 t_2.length c_9, .bool t_3]) (by rfl) (by kernel_rfl) ?_
  refine sx_rd 13 (.slice A_8 t_2.length c_9) (by rfl) (by kernel_rfl) ?_
  refine sx_rd 14 (.bool t_3) (by rfl) (by kernel_rfl) ?_
  refine sx_rd 4 (.slice A_8 t_2.length c_9) (by rfl) (by kernel_rfl) ?_
  refine sx_rd 5 (.bool t_3) (by rfl) (by kernel_rfl) ?_
  refine sx_nil ?_
  refine ex_then_n ?_
  refine wp_seq ?_
  refine wp_seq ?_
  refine sx_region ?_
  refine sx_rd 15 (.bool t_3) (by rfl) (by kernel_rfl) ?_
  refine sx_rd 16 (.bool (!t_3)) (by rfl) (by kernel_rfl) ?_
  refine sx_nil ?_
  refine ex_then_n ?_
  by_cases hc_12 : t_3 = true
  ·
    rw [if_pos hc_12] at h
    by_cases hc_13 : 0 < (t_2.length : Int)
    case neg => rw [if_neg hc_13] at h; cases h
    rw [if_pos hc_13] at h
    refine sx_else (!t_3) (by rfl) (show (!t_3) = false from by rw [hc_12]; rfl) ?_
    refine wp_skip ?_
    refine ex_then_n ?_
    refine wp_seq ?_
    refine sx_region ?_
    refine sx_rd 18 (.slice A_8 t_2.length c_9) (by rfl) (by kernel_rfl) ?_
    refine sx_rd 19 (.pointer (some (adr A_8 0 1))) (by rfl) (ix_run (d := Kd.string) (row_C (hp.at_ 0 _ (by rfl))) (t := 24) (by rfl) (by rfl) (by rfl) Tryz.underlying24 (by kernel_rfl) (by omega) (by omega)) ?_
    refine sx_rd 20 (.string (rdOf ByteArray.empty t_2 0)) (by rfl) (ld1 (t := 9) (p := (.tmp 19)) (by rfl) (by rfl) (by kernel_rfl) (el_cell (d := Kd.string) (row_C (hp.at_ 0 _ (by rfl))) ByteArray.empty 0 (by omega) (by omega) (cells := [.string (rdOf ByteArray.empty t_2 0)]) (fun cs h => h) 0 _ (by rfl))) ?_
    refine sx_rd 21 (.int .i64 ((rdOf ByteArray.empty t_2 0).size : Int)) (by rfl) (by kernel_rfl) ?_
    refine sx_rd 22 (.slice A_8 t_2.length c_9) (by rfl) (by kernel_rfl) ?_
    refine sx_rd 23 (.int .i64 (t_2.length : Int)) (by rfl) (by kernel_rfl) ?_
    refine sx_rd 24 (.agg #[.int .i64 ((rdOf ByteArray.empty t_2 0).size : Int), .int .i64 (t_2.length : Int), .slice none 0 0]) (by rfl) (by kernel_rfl) ?_
    refine sx_box 6 hp #[.int .i64 0, .int .i64 0, .slice none 0 0] 44 (by rfl) (fun W => by kernel_rfl) ?_
    intro g_14 W_15 hp
    refine sx_store (t := 44) (p := (.tmp 6)) (x := (.tmp 24)) (by rfl) (by rfl) 0 (by rfl) 0 [.int .i64 ((rdOf ByteArray.empty t_2 0).size : Int), .int .i64 (t_2.length : Int), .slice none 0 0] (by rfl) (by rfl) (by kernel_rfl) (by simp [Value.oneCell']) (by show 3 ≤ 3; omega) #[.int .i64 ((rdOf ByteArray.empty t_2 0).size : Int), .int .i64 (t_2.length : Int), .slice none 0 0] (by rfl) hp ?_
    intro W_16 hp; simp only [List.set_cons_succ, List.set_cons_zero] at hp
    refine sx_nil ?_
    refine ex_then_n ?_
    refine wp_seq ?_
    refine wp_seq ?_
    refine sx_region ?_
    refine sx_rd 25 (.slice A_8 t_2.length c_9) (by rfl) (by kernel_rfl) ?_
    refine sx_rd 26 (.int .i64 (t_2.length : Int)) (by rfl) (by kernel_rfl) ?_
    refine sx_rd 27 (.int .i64 0) (by rfl) (by kernel_rfl) ?_
    refine sx_nil ?_
    refine ex_then_n ?_
    refine wp_block ?_
    have hp := hp.nilrow (Kd.int .i64) 3 w.heap.size
    refine wp_loop_ghost (fun n_ a_ W => ∃ (r_ : List (Nat × Value)) (k_19 : Nat) (x_17 : Int) (x_18 : List Int) (A_20 : Option Addr) (n_21 c_22 : Nat) (F_23 : Nat → Prop), n_ = k_19 + 1 ∧ a_ = fr 60 ([(2, .pointer (some ⟨g_4, 0, none⟩)), (6, .pointer (some ⟨g_14, 0, none⟩)), (25, .slice A_8 t_2.length c_9), (26, .int .i64 (t_2.length : Int)), (27, .int .i64 x_17)] ++ r_) ∧ Hp w (row (Kd.int .i64) 3 w.heap.size (.slice A_20 n_21 c_22) x_18 F_23 :: blk g_14 #[.int .i64 ((rdOf ByteArray.empty t_2 0).size : Int), .int .i64 (t_2.length : Int), .slice A_20 n_21 c_22] 44 :: row Kd.string 9 w.heap.size (.slice A_8 t_2.length c_9) t_2 F_10 :: blk g_4 #[.int .i64 0, .int .i64 0, .slice none 0 0] 44 :: cs) W ∧ (spec_taRead.l0 k_19 t_2 (t_2.length : Int) x_17 ((rdOf ByteArray.empty t_2 0).size : Int) (t_2.length : Int) x_18 = some (r1, r2, r3, r4)) ∧ (k_19 ≤ k)) _ ⟨_, k, 0, ([] : List Int), _, _, _, _, rfl, fr_front [(2, .pointer (some ⟨g_4, 0, none⟩)), (6, .pointer (some ⟨g_14, 0, none⟩)), (25, .slice A_8 t_2.length c_9), (26, .int .i64 (t_2.length : Int)), (27, .int .i64 0)] ⟨rfl, rfl, rfl, rfl, rfl, trivial⟩, (hp.take [0, 1, 2, 3] 4 (by decide) (by simp)), h, (Nat.le_refl _)⟩ ?_
    rintro _ _ W_25 ⟨r_, k_19, x_17, x_18, A_20, n_21, c_22, F_23, rfl, rfl, hp, h, hk_24⟩
    obtain ⟨rfl, -⟩ := row_len (hp.at_ 0 _ (by rfl))
    rcases k_19 with _ | k_19
    · simp [spec_taRead.l0] at h
    simp only [spec_taRead.l0] at h
    refine wp_seq ?_
    refine sx_region ?_
    refine sx_rd 28 (.bool (decide (x_17 < (t_2.length : Int)))) (by rfl) (by kernel_rfl) ?_
    refine sx_nil ?_
    refine ex_then_n ?_
    refine wp_seq ?_
    by_cases hc_26 : x_17 < (t_2.length : Int)
    ·
      rw [if_pos hc_26] at h
      by_cases hc_27 : 0 ≤ x_17
      case neg => rw [if_neg hc_27] at h; cases h
      rw [if_pos hc_27] at h
      by_cases hc_28 : x_17 < (t_2.length : Int)
      case neg => rw [if_neg hc_28] at h; cases h
      rw [if_pos hc_28] at h
      refine sx_then (decide (x_17 < (t_2.length : Int))) (by rfl) (decide_eq_true hc_26) ?_
      refine wp_skip ?_
      refine ex_then_n ?_
      refine wp_seq ?_
      refine wp_block ?_
      refine wp_seq ?_
      refine sx_region ?_
      refine sx_rd 29 (.pointer (some (adr A_8 x_17 1))) (by rfl) (ix_run (d := Kd.string) (row_C (hp.at_ 2 _ (by rfl))) (t := 24) (by rfl) (by rfl) (by rfl) Tryz.underlying24 (by kernel_rfl) (by omega) (by omega)) ?_
      refine sx_rd 30 (.string (rdOf ByteArray.empty t_2 x_17)) (by rfl) (ld1 (t := 9) (p := (.tmp 29)) (by rfl) (by rfl) (by kernel_rfl) (el_cell (d := Kd.string) (row_C (hp.at_ 2 _ (by rfl))) ByteArray.empty x_17 (by omega) (by omega) (cells := [.string (rdOf ByteArray.empty t_2 x_17)]) (fun cs h => h) 0 _ (by rfl))) ?_
      refine sx_rd 8 (.string (rdOf ByteArray.empty t_2 x_17)) (by rfl) (by kernel_rfl) ?_
      refine sx_nil ?_
      refine ex_then_n ?_
      refine wp_seq ?_
      refine sx_region ?_
      refine sx_rd 9 (.int .i64 0) (by rfl) (by kernel_rfl) ?_
      refine sx_nil ?_
      refine ex_then_n ?_
      refine wp_block ?_
      refine wp_loop_ghost (fun n_ a_ W => ∃ (r_ : List (Nat × Value)) (k_31 : Nat) (x_29 : Int) (x_30 : List Int) (A_32 : Option Addr) (n_33 c_34 : Nat) (F_35 : Nat → Prop), n_ = k_31 + 1 ∧ a_ = fr 60 ([(2, .pointer (some ⟨g_4, 0, none⟩)), (6, .pointer (some ⟨g_14, 0, none⟩)), (8, .string (rdOf ByteArray.empty t_2 x_17)), (9, .int .i64 x_29), (25, .slice A_8 t_2.length c_9), (26, .int .i64 (t_2.length : Int)), (27, .int .i64 x_17)] ++ r_) ∧ Hp w (row (Kd.int .i64) 3 w.heap.size (.slice A_32 n_33 c_34) x_30 F_35 :: blk g_14 #[.int .i64 ((rdOf ByteArray.empty t_2 0).size : Int), .int .i64 (t_2.length : Int), .slice A_32 n_33 c_34] 44 :: row Kd.string 9 w.heap.size (.slice A_8 t_2.length c_9) t_2 F_10 :: blk g_4 #[.int .i64 0, .int .i64 0, .slice none 0 0] 44 :: cs) W ∧ (spec_taRead.l1 k_31 (rdOf ByteArray.empty t_2 x_17) x_29 t_2 (t_2.length : Int) x_17 ((rdOf ByteArray.empty t_2 0).size : Int) (t_2.length : Int) x_30 = some (r1, r2, r3, r4)) ∧ (k_31 ≤ k_19)) _ ⟨_, k_19, 0, x_18, _, _, _, _, rfl, fr_front [(2, .pointer (some ⟨g_4, 0, none⟩)), (6, .pointer (some ⟨g_14, 0, none⟩)), (8, .string (rdOf ByteArray.empty t_2 x_17)), (9, .int .i64 0), (25, .slice A_8 t_2.length c_9), (26, .int .i64 (t_2.length : Int)), (27, .int .i64 x_17)] ⟨rfl, rfl, rfl, rfl, rfl, rfl, rfl, trivial⟩, (hp.take [0, 1, 2, 3] 4 (by decide) (by simp)), h, (Nat.le_refl _)⟩ ?_
      rintro _ _ W_37 ⟨r_, k_31, x_29, x_30, A_32, n_33, c_34, F_35, rfl, rfl, hp, h, hk_36⟩
      obtain ⟨rfl, -⟩ := row_len (hp.at_ 0 _ (by rfl))
      rcases k_31 with _ | k_31
      · simp [spec_taRead.l1] at h
      simp only [spec_taRead.l1] at h
      refine wp_seq ?_
      refine wp_seq ?_
      refine sx_region ?_
      refine sx_rd 31 (.int .i64 x_29) (by rfl) (by kernel_rfl) ?_
      refine sx_rd 32 (.string (rdOf ByteArray.empty t_2 x_17)) (by rfl) (by kernel_rfl) ?_
      refine sx_rd 33 (.int .i64 ((rdOf ByteArray.empty t_2 x_17).size : Int)) (by rfl) (by kernel_rfl) ?_
      refine sx_rd 34 (.bool (decide (x_29 < ((rdOf ByteArray.empty t_2 x_17).size : Int)))) (by rfl) (by kernel_rfl) ?_
      refine sx_nil ?_
      refine ex_then_n ?_
      by_cases hc_38 : x_29 < ((rdOf ByteArray.empty t_2 x_17).size : Int)
      ·
        rw [if_pos hc_38] at h
        by_cases hc_39 : 0 ≤ x_29
        case neg => rw [if_neg hc_39] at h; cases h
        rw [if_pos hc_39] at h
        refine sx_then (decide (x_29 < ((rdOf ByteArray.empty t_2 x_17).size : Int))) (by rfl) (decide_eq_true hc_38) ?_
        refine wp_skip ?_
        refine ex_then_n ?_
        refine wp_seq ?_
        refine wp_block ?_
        refine wp_seq ?_
        refine wp_seq ?_
        by_cases hc_40 : (bt (rdOf ByteArray.empty t_2 x_17) x_29) < 48
        ·
          rw [if_pos hc_40] at h
          refine sx_region ?_
          refine sx_rd 37 (.string (rdOf ByteArray.empty t_2 x_17)) (by rfl) (by kernel_rfl) ?_
          refine sx_rd 38 (.int .i64 x_29) (by rfl) (by kernel_rfl) ?_
          refine sx_rd 39 (.int .u8 (bt (rdOf ByteArray.empty t_2 x_17) x_29)) (by rfl) (stri_run (by rfl) (by rfl) (by rfl) Tryz.underlying9 (by omega) (by omega)) ?_
          refine sx_rd 40 (.bool true) (by rfl) (bv (decide_eq_true hc_40) (by kernel_rfl)) ?_
          refine sx_rd 41 (.bool true) (by rfl) (by kernel_rfl) ?_
          refine sx_skip 42 (by rfl) (by rfl) (by rfl) ?_
          refine sx_skip 43 (by rfl) (by rfl) (by rfl) ?_
          refine sx_skip 44 (by rfl) (by rfl) (by rfl) ?_
          refine sx_skip 45 (by rfl) (by rfl) (by rfl) ?_
          refine sx_rd 46 (.bool true) (by rfl) (by kernel_rfl) ?_
          refine sx_nil ?_
          refine ex_then_n ?_
          refine sx_then true (by rfl) rfl ?_
          refine wp_seq ?_
          refine sx_region ?_
          refine sx_rd 47 (.agg #[.int .i64 0, .int .i64 0, .slice none 0 0]) (by rfl) (by kernel_rfl) ?_
          refine sx_store (t := 44) (p := (.tmp 2)) (x := (.tmp 47)) (by rfl) (by rfl) 3 (by rfl) 0 [.int .i64 0, .int .i64 0, .slice none 0 0] (by rfl) (by rfl) (by kernel_rfl) (by simp [Value.oneCell']) (by show 3 ≤ 3; omega) #[.int .i64 0, .int .i64 0, .slice none 0 0] (by rfl) hp ?_
          intro W_41 hp; simp only [List.set_cons_succ, List.set_cons_zero] at hp
          refine sx_rd 3 (.bool false) (by rfl) (by kernel_rfl) ?_
          refine sx_nil ?_
          refine ex_then_n ?_
          refine wp_ret ?_
          refine ex_then_r (ex_blk_r (ex_then_r (ex_then_r (ex_blk_r (ex_blk_r (ex_then_r (ex_then_r (ex_blk_r (ex_then_r ?_)))))))))
          refine sx_end (.tuple #[.agg #[.int .i64 0, .int .i64 0, .slice none 0 0], .bool false]) (rescT (p := 2) (u := 3) (by rfl) (by rfl) (by kernel_rfl) (by kernel_rfl) (hp.at_ 3 _ (by rfl))) ?_
          simp only [Option.some.injEq, Prod.mk.injEq] at h; obtain ⟨rfl, rfl, rfl, rfl⟩ := h
          exact ⟨_, rfl, Kd.R_nil _ _ _ _ _, hc2 _ (hp.tail.tail.tail.tail)⟩
        ·
          rw [if_neg hc_40] at h
          refine sx_region ?_
          refine sx_rd 37 (.string (rdOf ByteArray.empty t_2 x_17)) (by rfl) (by kernel_rfl) ?_
          refine sx_rd 38 (.int .i64 x_29) (by rfl) (by kernel_rfl) ?_
          refine sx_rd 39 (.int .u8 (bt (rdOf ByteArray.empty t_2 x_17) x_29)) (by rfl) (stri_run (by rfl) (by rfl) (by rfl) Tryz.underlying9 (by omega) (by omega)) ?_
          refine sx_rd 40 (.bool false) (by rfl) (bv (decide_eq_false hc_40) (by kernel_rfl)) ?_
          refine sx_rd 41 (.bool false) (by rfl) (by kernel_rfl) ?_
          refine sx_want (by rfl) ?_
          refine sx_rd 42 (.string (rdOf ByteArray.empty t_2 x_17)) (by rfl) (by kernel_rfl) ?_
          refine sx_want (by rfl) ?_
          refine sx_rd 43 (.int .i64 x_29) (by rfl) (by kernel_rfl) ?_
          refine sx_want (by rfl) ?_
          refine sx_rd 44 (.int .u8 (bt (rdOf ByteArray.empty t_2 x_17) x_29)) (by rfl) (stri_run (by rfl) (by rfl) (by rfl) Tryz.underlying9 (by omega) (by omega)) ?_
          refine sx_want (by rfl) ?_
          refine sx_rd 45 (.bool (decide ((bt (rdOf ByteArray.empty t_2 x_17) x_29) > 57))) (by rfl) (by kernel_rfl) ?_
          refine sx_rd 46 (.bool (decide ((bt (rdOf ByteArray.empty t_2 x_17) x_29) > 57))) (by rfl) (by kernel_rfl) ?_
          refine sx_nil ?_
          refine ex_then_n ?_
          by_cases hc_42 : (bt (rdOf ByteArray.empty t_2 x_17) x_29) > 57
          ·
            rw [if_pos hc_42] at h
            refine sx_then (decide ((bt (rdOf ByteArray.empty t_2 x_17) x_29) > 57)) (by rfl) (decide_eq_true hc_42) ?_
            refine wp_seq ?_
            refine sx_region ?_
            refine sx_rd 47 (.agg #[.int .i64 0, .int .i64 0, .slice none 0 0]) (by rfl) (by kernel_rfl) ?_
            refine sx_store (t := 44) (p := (.tmp 2)) (x := (.tmp 47)) (by rfl) (by rfl) 3 (by rfl) 0 [.int .i64 0, .int .i64 0, .slice none 0 0] (by rfl) (by rfl) (by kernel_rfl) (by simp [Value.oneCell']) (by show 3 ≤ 3; omega) #[.int .i64 0, .int .i64 0, .slice none 0 0] (by rfl) hp ?_
            intro W_43 hp; simp only [List.set_cons_succ, List.set_cons_zero] at hp
            refine sx_rd 3 (.bool false) (by rfl) (by kernel_rfl) ?_
            refine sx_nil ?_
            refine ex_then_n ?_
            refine wp_ret ?_
            refine ex_then_r (ex_blk_r (ex_then_r (ex_then_r (ex_blk_r (ex_blk_r (ex_then_r (ex_then_r (ex_blk_r (ex_then_r ?_)))))))))
            refine sx_end (.tuple #[.agg #[.int .i64 0, .int .i64 0, .slice none 0 0], .bool false]) (rescT (p := 2) (u := 3) (by rfl) (by rfl) (by kernel_rfl) (by kernel_rfl) (hp.at_ 3 _ (by rfl))) ?_
            simp only [Option.some.injEq, Prod.mk.injEq] at h; obtain ⟨rfl, rfl, rfl, rfl⟩ := h
            exact ⟨_, rfl, Kd.R_nil _ _ _ _ _, hc2 _ (hp.tail.tail.tail.tail)⟩
          ·
            rw [if_neg hc_42] at h
            by_cases hc_44 : x_30.length < 17592186044416
            case neg => rw [if_neg hc_44] at h; cases h
            rw [if_pos hc_44] at h
            refine sx_else (decide ((bt (rdOf ByteArray.empty t_2 x_17) x_29) > 57)) (by rfl) (decide_eq_false hc_42) ?_
            refine wp_skip ?_
            refine ex_then_n ?_
            refine sx_drawT [0, 2, 3, 4, 5, 6] (.rd 1 (.alt 7 (.fin) .non)) 8 (C := Hp w (row (Kd.int .i64) 3 w.heap.size (.slice A_32 x_30.length c_34) x_30 F_35 :: blk g_14 #[.int .i64 ((rdOf ByteArray.empty t_2 0).size : Int), .int .i64 (t_2.length : Int), .slice A_32 x_30.length c_34] 44 :: row Kd.string 9 w.heap.size (.slice A_8 t_2.length c_9) t_2 F_10 :: blk g_4 #[.int .i64 0, .int .i64 0, .slice none 0 0] 44 :: cs)) (by kernel_rfl) (by kernel_rfl) (fun d _ _ _ _ h => by cases d <;> exact h) (fun W h => h.drew) hp ?_
            refine preI_read rfl ?_
            refine sxq_val 48 (.pointer (some ⟨g_14, 2, none⟩)) (by rfl) (fun W _ => (by kernel_rfl)) ?_
            refine sxq_nil ?_
            refine preI_read rfl ?_
            refine sxq_val 50 (.string (rdOf ByteArray.empty t_2 x_17)) (by rfl) (fun W _ => (by kernel_rfl)) ?_
            refine sxq_nil ?_
            refine preI_read rfl ?_
            refine sxq_val 51 (.int .i64 x_29) (by rfl) (fun W _ => (by kernel_rfl)) ?_
            refine sxq_nil ?_
            refine preI_read rfl ?_
            refine sxq_val 52 (.int .u8 (bt (rdOf ByteArray.empty t_2 x_17) x_29)) (by rfl) (fun W _ => (stri_run (by rfl) (by rfl) (by rfl) Tryz.underlying9 (by omega) (by omega))) ?_
            refine sxq_nil ?_
            refine preI_read rfl ?_
            refine sxq_val 53 (.int .u8 (((bt (rdOf ByteArray.empty t_2 x_17) x_29) - 48) % 256)) (by rfl) (fun W _ => (u8_w (by kernel_rfl))) ?_
            refine sxq_nil ?_
            refine preI_read rfl ?_
            refine sxq_val 54 (.int .i64 (((bt (rdOf ByteArray.empty t_2 x_17) x_29) - 48) % 256)) (by rfl) (fun W _ => (wr_ok (by omega) (cvt_run (by rfl) (by rfl) Tryz.underlying5 Tryz.underlying3))) ?_
            refine sxq_nil ?_
            refine preI_nil ?_
            intro W_45 hp
            refine treeI_rd rfl ?_
            refine sxq_val 49 (.slice A_32 x_30.length c_34) (by rfl) (fun W hp => (ld1 (t := 42) (p := (.tmp 48)) (by rfl) (by rfl) (by kernel_rfl) (hp.cell 1 (by rfl) 2 _ (by rfl)))) ?_
            refine sxq_nil ?_
            refine treeI_ev rfl ?_
            refine sx_lit 55 (by rfl) (Kd.int .i64) w.heap.size 3 ([(((bt (rdOf ByteArray.empty t_2 x_17) x_29) - 48) % 256)]) [.int .i64 (((bt (rdOf ByteArray.empty t_2 x_17) x_29) - 48) % 256)] (fun W => by kernel_rfl) (Reps.snoc (cs := []) (Reps.none _ _) rfl rfl) (by simp) hp.size hp ?_
            intro g_46 F_47 W_48 hp hz; clear hz
            refine step_fin hp.tail ?_
            refine treeI_fin ?_
            refine tail_of [8, 9, 10] (by rfl) ?_
            refine tailI_op rfl ?_
            refine sx_append 56 (by rfl) (Kd.int .i64) 1 (by rfl) (.int .i64 0) 8 (by rfl) Tryz.underlying42 (by kernel_rfl) rfl (by decide) (by decide) ([(((bt (rdOf ByteArray.empty t_2 x_17) x_29) - 48) % 256)]) (by rfl) (by rfl) (row_C (hp.at_ 0 _ (by rfl))) (fun x cs h => h) hp.size (by first | omega | (simp; omega)) hp ?_
            intro A_49 c_50 F_51 W_52 hp hz; clear hz; simp only [List.set_cons_succ, List.set_cons_zero] at hp
            refine tailI_next ?_
            refine tailI_op rfl ?_
            refine sx_rd 57 (.pointer (some ⟨g_14, 2, none⟩)) (by rfl) (by kernel_rfl) ?_
            refine tailI_next ?_
            refine tailI_op rfl ?_
            refine sx_store (t := 42) (p := (.tmp 57)) (x := (.tmp 56)) (by rfl) (by rfl) 2 (by rfl) 2 [.slice A_49 ((x_30 ++ [(((bt (rdOf ByteArray.empty t_2 x_17) x_29) - 48) % 256)]).length) c_50] (by rfl) (by rfl) (by kernel_rfl) (by simp [Value.oneCell']) (by show 3 ≤ 3; omega) #[.int .i64 ((rdOf ByteArray.empty t_2 0).size : Int), .int .i64 (t_2.length : Int), .slice A_49 ((x_30 ++ [(((bt (rdOf ByteArray.empty t_2 x_17) x_29) - 48) % 256)]).length) c_50] (by rfl) hp ?_
            intro W_53 hp; simp only [List.set_cons_succ, List.set_cons_zero] at hp
            refine tailI_next ?_
            refine tailI_nil ?_
            refine ex_blk_n ?_
            refine ex_then_n ?_
            refine sx_region ?_
            refine sx_rd 35 (.int .i64 x_29) (by rfl) (by kernel_rfl) ?_
            refine sx_rd 36 (.int .i64 (wrap64 (x_29 + 1))) (by rfl) (wr_w (by kernel_rfl)) ?_
            refine sx_rd 9 (.int .i64 (wrap64 (x_29 + 1))) (by rfl) (by kernel_rfl) ?_
            refine sx_nil ?_
            refine ex_then_n ?_
            exact ⟨_, (by omega), _, k_31, (wrap64 (x_29 + 1)), (x_30 ++ [((bt (rdOf ByteArray.empty t_2 x_17) x_29) - 48) % 256]), _, _, _, _, rfl, fr_front [(2, .pointer (some ⟨g_4, 0, none⟩)), (6, .pointer (some ⟨g_14, 0, none⟩)), (8, .string (rdOf ByteArray.empty t_2 x_17)), (9, .int .i64 (wrap64 (x_29 + 1))), (25, .slice A_8 t_2.length c_9), (26, .int .i64 (t_2.length : Int)), (27, .int .i64 x_17)] ⟨rfl, rfl, rfl, rfl, rfl, rfl, rfl, trivial⟩, (hp.take [1, 2, 3, 4] 5 (by decide) (by simp)), h, (by omega)⟩
      ·
        rw [if_neg hc_38] at h
        refine sx_else (decide (x_29 < ((rdOf ByteArray.empty t_2 x_17).size : Int))) (by rfl) (decide_eq_false hc_38) ?_
        refine wp_exit ?_
        refine ex_then_e (ex_then_e (ex_blk_here ?_))
        refine ex_blk_n ?_
        refine ex_then_n ?_
        refine sx_region ?_
        refine sx_rd 58 (.int .i64 (wrap64 (x_17 + 1))) (by rfl) (wr_w (by kernel_rfl)) ?_
        refine sx_rd 27 (.int .i64 (wrap64 (x_17 + 1))) (by rfl) (by kernel_rfl) ?_
        refine sx_nil ?_
        refine ex_then_n ?_
        exact ⟨_, (by omega), _, k_31, (wrap64 (x_17 + 1)), x_30, _, _, _, _, rfl, fr_front [(2, .pointer (some ⟨g_4, 0, none⟩)), (6, .pointer (some ⟨g_14, 0, none⟩)), (25, .slice A_8 t_2.length c_9), (26, .int .i64 (t_2.length : Int)), (27, .int .i64 (wrap64 (x_17 + 1)))] ⟨rfl, rfl, rfl, rfl, rfl, trivial⟩, (hp.take [0, 1, 2, 3] 4 (by decide) (by simp)), h, (by omega)⟩
    ·
      rw [if_neg hc_26] at h
      refine sx_else (decide (x_17 < (t_2.length : Int))) (by rfl) (decide_eq_false hc_26) ?_
      refine wp_exit ?_
      refine ex_then_e (ex_then_e (ex_blk_here ?_))
      refine ex_then_n ?_
      refine wp_seq ?_
      refine sx_region ?_
      refine sx_rd 59 (.agg #[.int .i64 ((rdOf ByteArray.empty t_2 0).size : Int), .int .i64 (t_2.length : Int), .slice A_20 x_18.length c_22]) (by rfl) (ldn (t := 44) (p := (.tmp 6)) (by rfl) (by rfl) (by kernel_rfl) (by kernel_rfl) (by kernel_rfl) (hp.at_ 1 _ (by rfl))) ?_
      refine sx_store (t := 44) (p := (.tmp 2)) (x := (.tmp 59)) (by rfl) (by rfl) 3 (by rfl) 0 [.int .i64 ((rdOf ByteArray.empty t_2 0).size : Int), .int .i64 (t_2.length : Int), .slice A_20 x_18.length c_22] (by rfl) (by rfl) (by kernel_rfl) (by simp [Value.oneCell']) (by show 3 ≤ 3; omega) #[.int .i64 ((rdOf ByteArray.empty t_2 0).size : Int), .int .i64 (t_2.length : Int), .slice A_20 x_18.length c_22] (by rfl) hp ?_
      intro W_54 hp; simp only [List.set_cons_succ, List.set_cons_zero] at hp
      refine sx_rd 3 (.bool true) (by rfl) (by kernel_rfl) ?_
      refine sx_nil ?_
      refine ex_then_n ?_
      refine wp_ret ?_
      refine sx_end (.tuple #[.agg #[.int .i64 ((rdOf ByteArray.empty t_2 0).size : Int), .int .i64 (t_2.length : Int), .slice A_20 x_18.length c_22], .bool true]) (rescT (p := 2) (u := 3) (by rfl) (by rfl) (by kernel_rfl) (by kernel_rfl) (hp.at_ 3 _ (by rfl))) ?_
      simp only [Option.some.injEq, Prod.mk.injEq] at h; obtain ⟨rfl, rfl, rfl, rfl⟩ := h
      exact ⟨_, rfl, Kd.R_mono (row_R (hp.at_ 0 _ (by rfl))) (fun _ _ => trivial), hc2 _ (hp.tail.tail.tail.tail)⟩
  ·
    rw [if_neg hc_12] at h
    refine sx_then (!t_3) (by rfl) (show (!t_3) = true from by rw [(Bool.eq_false_iff.mpr hc_12)]; rfl) ?_
    refine wp_seq ?_
    refine sx_region ?_
    refine sx_rd 17 (.agg #[.int .i64 0, .int .i64 0, .slice none 0 0]) (by rfl) (by kernel_rfl) ?_
    refine sx_store (t := 44) (p := (.tmp 2)) (x := (.tmp 17)) (by rfl) (by rfl) 1 (by rfl) 0 [.int .i64 0, .int .i64 0, .slice none 0 0] (by rfl) (by rfl) (by kernel_rfl) (by simp [Value.oneCell']) (by show 3 ≤ 3; omega) #[.int .i64 0, .int .i64 0, .slice none 0 0] (by rfl) hp ?_
    intro W_55 hp; simp only [List.set_cons_succ, List.set_cons_zero] at hp
    refine sx_rd 3 (.bool false) (by rfl) (by kernel_rfl) ?_
    refine sx_nil ?_
    refine ex_then_n ?_
    refine wp_ret ?_
    refine ex_then_r ?_
    refine sx_end (.tuple #[.agg #[.int .i64 0, .int .i64 0, .slice none 0 0], .bool false]) (rescT (p := 2) (u := 3) (by rfl) (by rfl) (by kernel_rfl) (by kernel_rfl) (hp.at_ 1 _ (by rfl))) ?_
    simp only [Option.some.injEq, Prod.mk.injEq] at h; obtain ⟨rfl, rfl, rfl, rfl⟩ := h
    exact ⟨_, rfl, Kd.R_nil _ _ _ _ _, hc2 _ (hp.tail.tail)⟩
end
section
open Go.RowKit Go.Proofs.YtokkiiepddhkiaaGreatDoorW.PrintWords Go.Proofs.YtokkiiepddhkiaaGreatDoorW.PrintLast Go.Proofs.YtokkiiepddhkiaaGreatDoorW.PrintMore
attribute [local go_sem] max2_int min2_int max_two min_two max_three min_three max_four min_four   -- for this text's walks alone
set_option linter.unusedVariables false
set_option linter.unusedSimpArgs false

end
section
open Go.RowKit Go.Proofs.YtokkiiepddhkiaaGreatDoorW.PrintWords Go.Proofs.YtokkiiepddhkiaaGreatDoorW.PrintLast Go.Proofs.YtokkiiepddhkiaaGreatDoorW.PrintMore
attribute [local go_sem] max2_int min2_int max_two min_two max_three min_three max_four min_four   -- for this text's walks alone
set_option linter.unusedVariables false
set_option linter.unusedSimpArgs false

def impl_size.f (a0 : ByteArray) : Option (Int × Int) := (strings_Split.f a0 (⟨#[47]⟩ : ByteArray)).bind fun t172 => (if 0 < (t172.length : Int) then (some (((rdOf ByteArray.empty t172 0).size : Int), (t172.length : Int))) else (none))
set_option maxRecDepth 100000 in
set_option maxHeartbeats 40000000 in
theorem impl_size.calls (a0 : ByteArray) (r1 : Int) (r2 : Int) (w : World) (hmx : ∃ m, w.cell? ⟨0, 0, none⟩ = some (.int .i64 m)) (h : impl_size.f a0 = some (r1, r2)) :
    Calls Tryz.prog 51 #[.string a0] w fun e w' => e = .returned (.tuple #[.int .i64 r1, .int .i64 r2]) ∧ Below w.heap.size w w' := by
  obtain ⟨cs, hcs⟩ : ∃ cs, cs = [old w w.heap.size] := ⟨_, rfl⟩
  have hp : Hp w cs w := by rw [hcs]; exact Hp.old_start w
  have hc2 : ∀ W, Hp w cs W → Below w.heap.size w W := fun W h => by rw [hcs] at h; exact h.since 0 _ rfl
  have hM : ∀ W, Hp w cs W → ∃ m, W.cell? ⟨0, 0, none⟩ = some (.int .i64 m) := fun W h => hmx.imp fun m q => ((hc2 W h).cell (World.block_lt_of_cell? _ _ q)).trans q
  clear hcs
  unfold impl_size.f at h
  obtain ⟨t_2, hv_1, h⟩ := Option.bind_eq_some_iff.mp h
  try dsimp only at h
  by_cases hc_3 : 0 < (t_2.length : Int)
  case neg => rw [if_neg hc_3] at h; cases h
  rw [if_pos hc_3] at h
  refine sx_enter (N := 13) (l := [.string a0]) Tryz.func51 rfl rfl rfl ?_
  refine wp_seq ?_
  refine sx_region ?_
  refine sx_rd 2 (.int .i64 0) (by rfl) (by kernel_rfl) ?_
  refine sx_rd 3 (.int .i64 0) (by rfl) (by kernel_rfl) ?_
  refine sx_nil ?_
  refine ex_then_n ?_
  refine wp_seq ?_
  refine sx_region ?_
  refine sx_rd 5 (.string a0) (by rfl) (by kernel_rfl) ?_
  refine sx_call 6 (by rfl) (by kernel_rfl) ((strings_Split.calls a0 (⟨#[47]⟩ : ByteArray) _ _ (hM _ (hp)) hv_1).mono ?_)
  rintro _ W_9 ⟨v_5, rfl, hR_4, hb⟩
  refine ⟨_, rfl, ?_⟩
  obtain ⟨A_6, c_7, rfl, hcc_c_7, _⟩ := Kd.R_reads hR_4
  obtain ⟨F_8, hp⟩ : ∃ F, Hp w (row Kd.string 9 w.heap.size (.slice A_6 t_2.length c_7) t_2 F :: cs) _ := ⟨_, Hp.made hp hb hR_4⟩
  refine sx_rd 4 (.slice A_6 t_2.length c_7) (by rfl) (by kernel_rfl) ?_
  refine sx_nil ?_
  refine ex_then_n ?_
  refine wp_seq ?_
  refine sx_region ?_
  refine sx_rd 7 (.slice A_6 t_2.length c_7) (by rfl) (by kernel_rfl) ?_
  refine sx_rd 8 (.pointer (some (adr A_6 0 1))) (by rfl) (ix_run (d := Kd.string) (row_C (hp.at_ 0 _ (by rfl))) (t := 24) (by rfl) (by rfl) (by rfl) Tryz.underlying24 (by kernel_rfl) (by omega) (by omega)) ?_
  refine sx_rd 9 (.string (rdOf ByteArray.empty t_2 0)) (by rfl) (ld1 (t := 9) (p := (.tmp 8)) (by rfl) (by rfl) (by kernel_rfl) (el_cell (d := Kd.string) (row_C (hp.at_ 0 _ (by rfl))) ByteArray.empty 0 (by omega) (by omega) (cells := [.string (rdOf ByteArray.empty t_2 0)]) (fun cs h => h) 0 _ (by rfl))) ?_
  refine sx_rd 10 (.int .i64 ((rdOf ByteArray.empty t_2 0).size : Int)) (by rfl) (by kernel_rfl) ?_
  refine sx_rd 11 (.slice A_6 t_2.length c_7) (by rfl) (by kernel_rfl) ?_
  refine sx_rd 12 (.int .i64 (t_2.length : Int)) (by rfl) (by kernel_rfl) ?_
  refine sx_rd 2 (.int .i64 ((rdOf ByteArray.empty t_2 0).size : Int)) (by rfl) (by kernel_rfl) ?_
  refine sx_rd 3 (.int .i64 (t_2.length : Int)) (by rfl) (by kernel_rfl) ?_
  refine sx_nil ?_
  refine ex_then_n ?_
  refine wp_ret ?_
  refine sx_end (.tuple #[.int .i64 ((rdOf ByteArray.empty t_2 0).size : Int), .int .i64 (t_2.length : Int)]) (res2 2 3 (by rfl)) ?_
  simp only [Option.some.injEq, Prod.mk.injEq] at h; obtain ⟨rfl, rfl⟩ := h
  exact ⟨rfl, hc2 _ (hp.tail)⟩
end
section
open Go.RowKit Go.Proofs.YtokkiiepddhkiaaGreatDoorW.PrintWords Go.Proofs.YtokkiiepddhkiaaGreatDoorW.PrintLast Go.Proofs.YtokkiiepddhkiaaGreatDoorW.PrintMore
attribute [local go_sem] max2_int min2_int max_two min_two max_three min_three max_four min_four   -- for this text's walks alone
set_option linter.unusedVariables false
set_option linter.unusedSimpArgs false

def impl_flat.f (a0 : ByteArray) : Option (ByteArray) := (strings_ReplaceAll.f a0 (⟨#[47]⟩ : ByteArray) (⟨#[]⟩ : ByteArray)).bind fun t177 => (some t177)
set_option maxRecDepth 100000 in
set_option maxHeartbeats 40000000 in
theorem impl_flat.calls (a0 : ByteArray) (r : ByteArray) (w : World) (hmx : ∃ m, w.cell? ⟨0, 0, none⟩ = some (.int .i64 m)) (h : impl_flat.f a0 = some r) :
    Calls Tryz.prog 52 #[.string a0] w fun e w' => e = .returned (.string r) ∧ Below w.heap.size w w' := by
  obtain ⟨cs, hcs⟩ : ∃ cs, cs = [old w w.heap.size] := ⟨_, rfl⟩
  have hp : Hp w cs w := by rw [hcs]; exact Hp.old_start w
  have hc2 : ∀ W, Hp w cs W → Below w.heap.size w W := fun W h => by rw [hcs] at h; exact h.since 0 _ rfl
  have hM : ∀ W, Hp w cs W → ∃ m, W.cell? ⟨0, 0, none⟩ = some (.int .i64 m) := fun W h => hmx.imp fun m q => ((hc2 W h).cell (World.block_lt_of_cell? _ _ q)).trans q
  clear hcs
  unfold impl_flat.f at h
  obtain ⟨t_2, hv_1, h⟩ := Option.bind_eq_some_iff.mp h
  try dsimp only at h
  refine sx_enter (N := 5) (l := [.string a0]) Tryz.func52 rfl rfl rfl ?_
  refine wp_seq ?_
  refine sx_region ?_
  refine sx_rd 2 (.string (⟨#[]⟩ : ByteArray)) (by rfl) (by kernel_rfl) ?_
  refine sx_nil ?_
  refine ex_then_n ?_
  refine wp_seq ?_
  refine sx_region ?_
  refine sx_rd 3 (.string a0) (by rfl) (by kernel_rfl) ?_
  refine sx_call 4 (by rfl) (by kernel_rfl) ((strings_ReplaceAll.calls a0 (⟨#[47]⟩ : ByteArray) (⟨#[]⟩ : ByteArray) _ _ (hM _ (hp)) hv_1).mono ?_)
  rintro _ W_3 ⟨rfl, hb⟩
  refine ⟨_, rfl, ?_⟩
  replace hp := hp.below hb
  clear hb
  refine sx_rd 2 (.string t_2) (by rfl) (by kernel_rfl) ?_
  refine sx_nil ?_
  refine ex_then_n ?_
  refine wp_ret ?_
  refine sx_end (.string t_2) (res1 2 (by rfl)) ?_
  obtain rfl := Option.some.inj h
  exact ⟨rfl, hc2 _ (hp)⟩
end
section
open Go.RowKit Go.Proofs.YtokkiiepddhkiaaGreatDoorW.PrintWords Go.Proofs.YtokkiiepddhkiaaGreatDoorW.PrintLast Go.Proofs.YtokkiiepddhkiaaGreatDoorW.PrintMore
attribute [local go_sem] max2_int min2_int max_two min_two max_three min_three max_four min_four   -- for this text's walks alone
set_option linter.unusedVariables false
set_option linter.unusedSimpArgs false

def impl_isForm.l0 : Nat → ByteArray → List ByteArray → List ByteArray → Int → Int → Option (Bool)
  | 0, _, _, _, _, _ => none
  | k + 1, x1, x5, x11, x12, x13 => if x13 < x12 then (if 0 ≤ x13 then (if x13 < (x11.length : Int) then (if 0 < (x5.length : Int) then (if ((rdOf ByteArray.empty x11 x13).size : Int) = ((rdOf ByteArray.empty x5 0).size : Int) then (if ((rdOf ByteArray.empty x11 x13).size : Int) = 0 then (some false) else ((strings_Trim.f (rdOf ByteArray.empty x11 x13) x1).bind fun t184 => (if t184.toList = ([] : List UInt8) then (impl_isForm.l0 k x1 x5 x11 x12 (wrap64 (x13 + 1))) else (some false)))) else (some false)) else (none)) else (none)) else (none)) else (if 0 < (x5.length : Int) then (if (wrap64 ((x5.length : Int) * ((rdOf ByteArray.empty x5 0).size : Int))) ≤ 30 then (some ((Int.tmod (wrap64 ((x5.length : Int) * ((rdOf ByteArray.empty x5 0).size : Int))) 2) == 0)) else (some false)) else (none))
def impl_isForm.f (k : Nat) (a0 : ByteArray) (a1 : ByteArray) : Option (Bool) := (strings_Split.f a0 (⟨#[47]⟩ : ByteArray)).bind fun t179 => (impl_isForm.l0 k a1 t179 t179 (t179.length : Int) 0)
set_option maxRecDepth 100000 in
set_option maxHeartbeats 40000000 in
theorem impl_isForm.calls (k : Nat) (a0 : ByteArray) (a1 : ByteArray) (r : Bool) (w : World) (hmx : ∃ m, w.cell? ⟨0, 0, none⟩ = some (.int .i64 m)) (h : impl_isForm.f k a0 a1 = some r) :
    Calls Tryz.prog 67 #[.string a0, .string a1] w fun e w' => e = .returned (.bool r) ∧ Below w.heap.size w w' := by
  obtain ⟨cs, hcs⟩ : ∃ cs, cs = [old w w.heap.size] := ⟨_, rfl⟩
  have hp : Hp w cs w := by rw [hcs]; exact Hp.old_start w
  have hc2 : ∀ W, Hp w cs W → Below w.heap.size w W := fun W h => by rw [hcs] at h; exact h.since 0 _ rfl
  have hM : ∀ W, Hp w cs W → ∃ m, W.cell? ⟨0, 0, none⟩ = some (.int .i64 m) := fun W h => hmx.imp fun m q => ((hc2 W h).cell (World.block_lt_of_cell? _ _ q)).trans q
  clear hcs
  unfold impl_isForm.f at h
  obtain ⟨t_2, hv_1, h⟩ := Option.bind_eq_some_iff.mp h
  try dsimp only at h
  refine sx_enter (N := 50) (l := [.string a0, .string a1]) Tryz.func67 rfl rfl rfl ?_
  refine wp_seq ?_
  refine sx_region ?_
  refine sx_rd 4 (.bool false) (by rfl) (by kernel_rfl) ?_
  refine sx_nil ?_
  refine ex_then_n ?_
  refine wp_seq ?_
  refine sx_region ?_
  refine sx_rd 9 (.string a0) (by rfl) (by kernel_rfl) ?_
  refine sx_call 10 (by rfl) (by kernel_rfl) ((strings_Split.calls a0 (⟨#[47]⟩ : ByteArray) _ _ (hM _ (hp)) hv_1).mono ?_)
  rintro _ W_8 ⟨v_4, rfl, hR_3, hb⟩
  refine ⟨_, rfl, ?_⟩
  obtain ⟨A_5, c_6, rfl, hcc_c_6, _⟩ := Kd.R_reads hR_3
  obtain ⟨F_7, hp⟩ : ∃ F, Hp w (row Kd.string 9 w.heap.size (.slice A_5 t_2.length c_6) t_2 F :: cs) _ := ⟨_, Hp.made hp hb hR_3⟩
  refine sx_rd 5 (.slice A_5 t_2.length c_6) (by rfl) (by kernel_rfl) ?_
  refine sx_nil ?_
  refine ex_then_n ?_
  refine wp_seq ?_
  refine wp_seq ?_
  refine sx_region ?_
  refine sx_rd 11 (.slice A_5 t_2.length c_6) (by rfl) (by kernel_rfl) ?_
  refine sx_rd 12 (.int .i64 (t_2.length : Int)) (by rfl) (by kernel_rfl) ?_
  refine sx_rd 13 (.int .i64 0) (by rfl) (by kernel_rfl) ?_
  refine sx_nil ?_
  refine ex_then_n ?_
  refine wp_block ?_
  refine wp_loop_ghost (fun n_ a_ W => ∃ (r_ : List (Nat × Value)) (k_10 : Nat) (x_9 : Int)  , n_ = k_10 + 1 ∧ a_ = fr 50 ([(1, .string a1), (5, .slice A_5 t_2.length c_6), (11, .slice A_5 t_2.length c_6), (12, .int .i64 (t_2.length : Int)), (13, .int .i64 x_9)] ++ r_) ∧ Hp w (row Kd.string 9 w.heap.size (.slice A_5 t_2.length c_6) t_2 F_7 :: cs) W ∧ (impl_isForm.l0 k_10 a1 t_2 t_2 (t_2.length : Int) x_9 = some r) ∧ (k_10 ≤ k)) _ ⟨_, k, 0, rfl, fr_front [(1, .string a1), (5, .slice A_5 t_2.length c_6), (11, .slice A_5 t_2.length c_6), (12, .int .i64 (t_2.length : Int)), (13, .int .i64 0)] ⟨rfl, rfl, rfl, rfl, rfl, trivial⟩, (hp.take [0] 1 (by decide) (by simp)), h, (Nat.le_refl _)⟩ ?_
  rintro _ _ W_12 ⟨r_, k_10, x_9, rfl, rfl, hp, h, hk_11⟩
  rcases k_10 with _ | k_10
  · simp [impl_isForm.l0] at h
  simp only [impl_isForm.l0] at h
  refine wp_seq ?_
  refine sx_region ?_
  refine sx_rd 14 (.bool (decide (x_9 < (t_2.length : Int)))) (by rfl) (by kernel_rfl) ?_
  refine sx_nil ?_
  refine ex_then_n ?_
  refine wp_seq ?_
  by_cases hc_13 : x_9 < (t_2.length : Int)
  ·
    rw [if_pos hc_13] at h
    by_cases hc_14 : 0 ≤ x_9
    case neg => rw [if_neg hc_14] at h; cases h
    rw [if_pos hc_14] at h
    by_cases hc_15 : x_9 < (t_2.length : Int)
    case neg => rw [if_neg hc_15] at h; cases h
    rw [if_pos hc_15] at h
    by_cases hc_16 : 0 < (t_2.length : Int)
    case neg => rw [if_neg hc_16] at h; cases h
    rw [if_pos hc_16] at h
    refine sx_then (decide (x_9 < (t_2.length : Int))) (by rfl) (decide_eq_true hc_13) ?_
    refine wp_skip ?_
    refine ex_then_n ?_
    refine wp_seq ?_
    refine wp_block ?_
    refine wp_seq ?_
    refine sx_region ?_
    refine sx_rd 15 (.pointer (some (adr A_5 x_9 1))) (by rfl) (ix_run (d := Kd.string) (row_C (hp.at_ 0 _ (by rfl))) (t := 24) (by rfl) (by rfl) (by rfl) Tryz.underlying24 (by kernel_rfl) (by omega) (by omega)) ?_
    refine sx_rd 16 (.string (rdOf ByteArray.empty t_2 x_9)) (by rfl) (ld1 (t := 9) (p := (.tmp 15)) (by rfl) (by rfl) (by kernel_rfl) (el_cell (d := Kd.string) (row_C (hp.at_ 0 _ (by rfl))) ByteArray.empty x_9 (by omega) (by omega) (cells := [.string (rdOf ByteArray.empty t_2 x_9)]) (fun cs h => h) 0 _ (by rfl))) ?_
    refine sx_rd 7 (.string (rdOf ByteArray.empty t_2 x_9)) (by rfl) (by kernel_rfl) ?_
    refine sx_nil ?_
    refine ex_then_n ?_
    refine wp_seq ?_
    by_cases hc_17 : ((rdOf ByteArray.empty t_2 x_9).size : Int) = ((rdOf ByteArray.empty t_2 0).size : Int)
    ·
      rw [if_pos hc_17] at h
      by_cases hc_18 : ((rdOf ByteArray.empty t_2 x_9).size : Int) = 0
      ·
        rw [if_pos hc_18] at h
        refine sx_region ?_
        refine sx_rd 17 (.string (rdOf ByteArray.empty t_2 x_9)) (by rfl) (by kernel_rfl) ?_
        refine sx_rd 18 (.int .i64 ((rdOf ByteArray.empty t_2 x_9).size : Int)) (by rfl) (by kernel_rfl) ?_
        refine sx_rd 19 (.slice A_5 t_2.length c_6) (by rfl) (by kernel_rfl) ?_
        refine sx_rd 20 (.pointer (some (adr A_5 0 1))) (by rfl) (ix_run (d := Kd.string) (row_C (hp.at_ 0 _ (by rfl))) (t := 24) (by rfl) (by rfl) (by rfl) Tryz.underlying24 (by kernel_rfl) (by omega) (by omega)) ?_
        refine sx_rd 21 (.string (rdOf ByteArray.empty t_2 0)) (by rfl) (ld1 (t := 9) (p := (.tmp 20)) (by rfl) (by rfl) (by kernel_rfl) (el_cell (d := Kd.string) (row_C (hp.at_ 0 _ (by rfl))) ByteArray.empty 0 (by omega) (by omega) (cells := [.string (rdOf ByteArray.empty t_2 0)]) (fun cs h => h) 0 _ (by rfl))) ?_
        refine sx_rd 22 (.int .i64 ((rdOf ByteArray.empty t_2 0).size : Int)) (by rfl) (by kernel_rfl) ?_
        refine sx_rd 23 (.bool false) (by rfl) (bv (bne_eq_false_iff_eq.mpr hc_17) (by kernel_rfl)) ?_
        refine sx_rd 24 (.bool false) (by rfl) (by kernel_rfl) ?_
        refine sx_want (by rfl) ?_
        refine sx_rd 25 (.string (rdOf ByteArray.empty t_2 x_9)) (by rfl) (by kernel_rfl) ?_
        refine sx_want (by rfl) ?_
        refine sx_rd 26 (.int .i64 ((rdOf ByteArray.empty t_2 x_9).size : Int)) (by rfl) (by kernel_rfl) ?_
        refine sx_want (by rfl) ?_
        refine sx_rd 27 (.bool true) (by rfl) (bv (beq_iff_eq.mpr hc_18) (by kernel_rfl)) ?_
        refine sx_rd 28 (.bool true) (by rfl) (by kernel_rfl) ?_
        refine sx_rd 29 (.bool true) (by rfl) (by kernel_rfl) ?_
        refine sx_skip 30 (by rfl) (by rfl) (by rfl) ?_
        refine sx_skip 31 (by rfl) (by rfl) (by rfl) ?_
        refine sx_skip 32 (by rfl) (by rfl) (by rfl) ?_
        refine sx_skip 33 (by rfl) (by rfl) (by rfl) ?_
        refine sx_rd 34 (.bool true) (by rfl) (by kernel_rfl) ?_
        refine sx_nil ?_
        refine ex_then_n ?_
        refine sx_then true (by rfl) rfl ?_
        refine wp_seq ?_
        refine sx_region ?_
        refine sx_rd 4 (.bool false) (by rfl) (by kernel_rfl) ?_
        refine sx_nil ?_
        refine ex_then_n ?_
        refine wp_ret ?_
        refine ex_blk_r (ex_then_r (ex_then_r (ex_blk_r (ex_then_r ?_))))
        refine sx_end (.bool false) (res1 4 (by rfl)) ?_
        obtain rfl := Option.some.inj h
        exact ⟨rfl, hc2 _ (hp.tail)⟩
      ·
        rw [if_neg hc_18] at h
        obtain ⟨t_20, hv_19, h⟩ := Option.bind_eq_some_iff.mp h
        try dsimp only at h
        refine sx_region ?_
        refine sx_rd 17 (.string (rdOf ByteArray.empty t_2 x_9)) (by rfl) (by kernel_rfl) ?_
        refine sx_rd 18 (.int .i64 ((rdOf ByteArray.empty t_2 x_9).size : Int)) (by rfl) (by kernel_rfl) ?_
        refine sx_rd 19 (.slice A_5 t_2.length c_6) (by rfl) (by kernel_rfl) ?_
        refine sx_rd 20 (.pointer (some (adr A_5 0 1))) (by rfl) (ix_run (d := Kd.string) (row_C (hp.at_ 0 _ (by rfl))) (t := 24) (by rfl) (by rfl) (by rfl) Tryz.underlying24 (by kernel_rfl) (by omega) (by omega)) ?_
        refine sx_rd 21 (.string (rdOf ByteArray.empty t_2 0)) (by rfl) (ld1 (t := 9) (p := (.tmp 20)) (by rfl) (by rfl) (by kernel_rfl) (el_cell (d := Kd.string) (row_C (hp.at_ 0 _ (by rfl))) ByteArray.empty 0 (by omega) (by omega) (cells := [.string (rdOf ByteArray.empty t_2 0)]) (fun cs h => h) 0 _ (by rfl))) ?_
        refine sx_rd 22 (.int .i64 ((rdOf ByteArray.empty t_2 0).size : Int)) (by rfl) (by kernel_rfl) ?_
        refine sx_rd 23 (.bool false) (by rfl) (bv (bne_eq_false_iff_eq.mpr hc_17) (by kernel_rfl)) ?_
        refine sx_rd 24 (.bool false) (by rfl) (by kernel_rfl) ?_
        refine sx_want (by rfl) ?_
        refine sx_rd 25 (.string (rdOf ByteArray.empty t_2 x_9)) (by rfl) (by kernel_rfl) ?_
        refine sx_want (by rfl) ?_
        refine sx_rd 26 (.int .i64 ((rdOf ByteArray.empty t_2 x_9).size : Int)) (by rfl) (by kernel_rfl) ?_
        refine sx_want (by rfl) ?_
        refine sx_rd 27 (.bool false) (by rfl) (bv (beq_eq_false_iff_ne.mpr hc_18) (by kernel_rfl)) ?_
        refine sx_rd 28 (.bool false) (by rfl) (by kernel_rfl) ?_
        refine sx_rd 29 (.bool false) (by rfl) (by kernel_rfl) ?_
        refine sx_want (by rfl) ?_
        refine sx_rd 30 (.string (rdOf ByteArray.empty t_2 x_9)) (by rfl) (by kernel_rfl) ?_
        refine sx_want (by rfl) ?_
        refine sx_rd 31 (.string a1) (by rfl) (by kernel_rfl) ?_
        refine sx_want (by rfl) ?_
        refine sx_call 32 (by rfl) (by kernel_rfl) ((strings_Trim.calls (rdOf ByteArray.empty t_2 x_9) a1 _ _ hv_19).mono ?_)
        rintro _ W_21 ⟨rfl, hb⟩
        refine ⟨_, rfl, ?_⟩
        replace hp := hp.below hb
        clear hb
        refine sx_want (by rfl) ?_
        refine sx_rd 33 (.bool (t_20.toList != (⟨#[]⟩ : ByteArray).toList)) (by rfl) (by kernel_rfl) ?_
        refine sx_rd 34 (.bool (t_20.toList != (⟨#[]⟩ : ByteArray).toList)) (by rfl) (by kernel_rfl) ?_
        refine sx_nil ?_
        refine ex_then_n ?_
        by_cases hc_22 : t_20.toList = ([] : List UInt8)
        ·
          rw [if_pos hc_22] at h
          refine sx_else (t_20.toList != (⟨#[]⟩ : ByteArray).toList) (by rfl) (show (t_20.toList != (⟨#[]⟩ : ByteArray).toList) = false from by rw [hc_22, tnil]; rfl) ?_
          refine wp_skip ?_
          refine ex_blk_n ?_
          refine ex_then_n ?_
          refine sx_region ?_
          refine sx_rd 35 (.int .i64 (wrap64 (x_9 + 1))) (by rfl) (wr_w (by kernel_rfl)) ?_
          refine sx_rd 13 (.int .i64 (wrap64 (x_9 + 1))) (by rfl) (by kernel_rfl) ?_
          refine sx_nil ?_
          refine ex_then_n ?_
          exact ⟨_, (by omega), _, k_10, (wrap64 (x_9 + 1)), rfl, fr_front [(1, .string a1), (5, .slice A_5 t_2.length c_6), (11, .slice A_5 t_2.length c_6), (12, .int .i64 (t_2.length : Int)), (13, .int .i64 (wrap64 (x_9 + 1)))] ⟨rfl, rfl, rfl, rfl, rfl, trivial⟩, (hp.take [0] 1 (by decide) (by simp)), h, (by omega)⟩
        ·
          rw [if_neg hc_22] at h
          refine sx_then (t_20.toList != (⟨#[]⟩ : ByteArray).toList) (by rfl) (show (t_20.toList != (⟨#[]⟩ : ByteArray).toList) = true from by exact bne_iff_ne.mpr (by rw [tnil]; exact hc_22)) ?_
          refine wp_seq ?_
          refine sx_region ?_
          refine sx_rd 4 (.bool false) (by rfl) (by kernel_rfl) ?_
          refine sx_nil ?_
          refine ex_then_n ?_
          refine wp_ret ?_
          refine ex_blk_r (ex_then_r (ex_then_r (ex_blk_r (ex_then_r ?_))))
          refine sx_end (.bool false) (res1 4 (by rfl)) ?_
          obtain rfl := Option.some.inj h
          exact ⟨rfl, hc2 _ (hp.tail)⟩
    ·
      rw [if_neg hc_17] at h
      refine sx_region ?_
      refine sx_rd 17 (.string (rdOf ByteArray.empty t_2 x_9)) (by rfl) (by kernel_rfl) ?_
      refine sx_rd 18 (.int .i64 ((rdOf ByteArray.empty t_2 x_9).size : Int)) (by rfl) (by kernel_rfl) ?_
      refine sx_rd 19 (.slice A_5 t_2.length c_6) (by rfl) (by kernel_rfl) ?_
      refine sx_rd 20 (.pointer (some (adr A_5 0 1))) (by rfl) (ix_run (d := Kd.string) (row_C (hp.at_ 0 _ (by rfl))) (t := 24) (by rfl) (by rfl) (by rfl) Tryz.underlying24 (by kernel_rfl) (by omega) (by omega)) ?_
      refine sx_rd 21 (.string (rdOf ByteArray.empty t_2 0)) (by rfl) (ld1 (t := 9) (p := (.tmp 20)) (by rfl) (by rfl) (by kernel_rfl) (el_cell (d := Kd.string) (row_C (hp.at_ 0 _ (by rfl))) ByteArray.empty 0 (by omega) (by omega) (cells := [.string (rdOf ByteArray.empty t_2 0)]) (fun cs h => h) 0 _ (by rfl))) ?_
      refine sx_rd 22 (.int .i64 ((rdOf ByteArray.empty t_2 0).size : Int)) (by rfl) (by kernel_rfl) ?_
      refine sx_rd 23 (.bool true) (by rfl) (bv (bne_iff_ne.mpr hc_17) (by kernel_rfl)) ?_
      refine sx_rd 24 (.bool true) (by rfl) (by kernel_rfl) ?_
      refine sx_skip 25 (by rfl) (by rfl) (by rfl) ?_
      refine sx_skip 26 (by rfl) (by rfl) (by rfl) ?_
      refine sx_skip 27 (by rfl) (by rfl) (by rfl) ?_
      refine sx_rd 28 (.bool true) (by rfl) (by kernel_rfl) ?_
      refine sx_rd 29 (.bool true) (by rfl) (by kernel_rfl) ?_
      refine sx_skip 30 (by rfl) (by rfl) (by rfl) ?_
      refine sx_skip 31 (by rfl) (by rfl) (by rfl) ?_
      refine sx_skip 32 (by rfl) (by rfl) (by rfl) ?_
      refine sx_skip 33 (by rfl) (by rfl) (by rfl) ?_
      refine sx_rd 34 (.bool true) (by rfl) (by kernel_rfl) ?_
      refine sx_nil ?_
      refine ex_then_n ?_
      refine sx_then true (by rfl) rfl ?_
      refine wp_seq ?_
      refine sx_region ?_
      refine sx_rd 4 (.bool false) (by rfl) (by kernel_rfl) ?_
      refine sx_nil ?_
      refine ex_then_n ?_
      refine wp_ret ?_
      refine ex_blk_r (ex_then_r (ex_then_r (ex_blk_r (ex_then_r ?_))))
      refine sx_end (.bool false) (res1 4 (by rfl)) ?_
      obtain rfl := Option.some.inj h
      exact ⟨rfl, hc2 _ (hp.tail)⟩
  ·
    rw [if_neg hc_13] at h
    by_cases hc_23 : 0 < (t_2.length : Int)
    case neg => rw [if_neg hc_23] at h; cases h
    rw [if_pos hc_23] at h
    refine sx_else (decide (x_9 < (t_2.length : Int))) (by rfl) (decide_eq_false hc_13) ?_
    refine wp_exit ?_
    refine ex_then_e (ex_then_e (ex_blk_here ?_))
    refine ex_then_n ?_
    refine wp_seq ?_
    refine sx_region ?_
    refine sx_rd 36 (.slice A_5 t_2.length c_6) (by rfl) (by kernel_rfl) ?_
    refine sx_rd 37 (.int .i64 (t_2.length : Int)) (by rfl) (by kernel_rfl) ?_
    refine sx_rd 38 (.slice A_5 t_2.length c_6) (by rfl) (by kernel_rfl) ?_
    refine sx_rd 39 (.pointer (some (adr A_5 0 1))) (by rfl) (ix_run (d := Kd.string) (row_C (hp.at_ 0 _ (by rfl))) (t := 24) (by rfl) (by rfl) (by rfl) Tryz.underlying24 (by kernel_rfl) (by omega) (by omega)) ?_
    refine sx_rd 40 (.string (rdOf ByteArray.empty t_2 0)) (by rfl) (ld1 (t := 9) (p := (.tmp 39)) (by rfl) (by rfl) (by kernel_rfl) (el_cell (d := Kd.string) (row_C (hp.at_ 0 _ (by rfl))) ByteArray.empty 0 (by omega) (by omega) (cells := [.string (rdOf ByteArray.empty t_2 0)]) (fun cs h => h) 0 _ (by rfl))) ?_
    refine sx_rd 41 (.int .i64 ((rdOf ByteArray.empty t_2 0).size : Int)) (by rfl) (by kernel_rfl) ?_
    refine sx_rd 42 (.int .i64 (wrap64 ((t_2.length : Int) * ((rdOf ByteArray.empty t_2 0).size : Int)))) (by rfl) (wr_w (by kernel_rfl)) ?_
    refine sx_rd 8 (.int .i64 (wrap64 ((t_2.length : Int) * ((rdOf ByteArray.empty t_2 0).size : Int)))) (by rfl) (by kernel_rfl) ?_
    refine sx_nil ?_
    refine ex_then_n ?_
    refine wp_seq ?_
    by_cases hc_24 : (wrap64 ((t_2.length : Int) * ((rdOf ByteArray.empty t_2 0).size : Int))) ≤ 30
    ·
      rw [if_pos hc_24] at h
      refine sx_region ?_
      refine sx_rd 43 (.int .i64 (wrap64 ((t_2.length : Int) * ((rdOf ByteArray.empty t_2 0).size : Int)))) (by rfl) (by kernel_rfl) ?_
      refine sx_rd 44 (.bool true) (by rfl) (bv (decide_eq_true hc_24) (by kernel_rfl)) ?_
      refine sx_rd 45 (.bool true) (by rfl) (by kernel_rfl) ?_
      refine sx_want (by rfl) ?_
      refine sx_rd 46 (.int .i64 (wrap64 ((t_2.length : Int) * ((rdOf ByteArray.empty t_2 0).size : Int)))) (by rfl) (by kernel_rfl) ?_
      refine sx_want (by rfl) ?_
      refine sx_rd 47 (.int .i64 (Int.tmod (wrap64 ((t_2.length : Int) * ((rdOf ByteArray.empty t_2 0).size : Int))) 2)) (by rfl) (by kernel_rfl) ?_
      refine sx_want (by rfl) ?_
      refine sx_rd 48 (.bool ((Int.tmod (wrap64 ((t_2.length : Int) * ((rdOf ByteArray.empty t_2 0).size : Int))) 2) == 0)) (by rfl) (by kernel_rfl) ?_
      refine sx_rd 49 (.bool ((Int.tmod (wrap64 ((t_2.length : Int) * ((rdOf ByteArray.empty t_2 0).size : Int))) 2) == 0)) (by rfl) (by kernel_rfl) ?_
      refine sx_rd 4 (.bool ((Int.tmod (wrap64 ((t_2.length : Int) * ((rdOf ByteArray.empty t_2 0).size : Int))) 2) == 0)) (by rfl) (by kernel_rfl) ?_
      refine sx_nil ?_
      refine ex_then_n ?_
      refine wp_ret ?_
      refine sx_end (.bool ((Int.tmod (wrap64 ((t_2.length : Int) * ((rdOf ByteArray.empty t_2 0).size : Int))) 2) == 0)) (res1 4 (by rfl)) ?_
      obtain rfl := Option.some.inj h
      exact ⟨rfl, hc2 _ (hp.tail)⟩
    ·
      rw [if_neg hc_24] at h
      refine sx_region ?_
      refine sx_rd 43 (.int .i64 (wrap64 ((t_2.length : Int) * ((rdOf ByteArray.empty t_2 0).size : Int)))) (by rfl) (by kernel_rfl) ?_
      refine sx_rd 44 (.bool false) (by rfl) (bv (decide_eq_false hc_24) (by kernel_rfl)) ?_
      refine sx_rd 45 (.bool false) (by rfl) (by kernel_rfl) ?_
      refine sx_skip 46 (by rfl) (by rfl) (by rfl) ?_
      refine sx_skip 47 (by rfl) (by rfl) (by rfl) ?_
      refine sx_skip 48 (by rfl) (by rfl) (by rfl) ?_
      refine sx_rd 49 (.bool false) (by rfl) (by kernel_rfl) ?_
      refine sx_rd 4 (.bool false) (by rfl) (by kernel_rfl) ?_
      refine sx_nil ?_
      refine ex_then_n ?_
      refine wp_ret ?_
      refine sx_end (.bool false) (res1 4 (by rfl)) ?_
      obtain rfl := Option.some.inj h
      exact ⟨rfl, hc2 _ (hp.tail)⟩
end
section
open Go.RowKit Go.Proofs.YtokkiiepddhkiaaGreatDoorW.PrintWords Go.Proofs.YtokkiiepddhkiaaGreatDoorW.PrintLast Go.Proofs.YtokkiiepddhkiaaGreatDoorW.PrintMore
attribute [local go_sem] max2_int min2_int max_two min_two max_three min_three max_four min_four   -- for this text's walks alone
set_option linter.unusedVariables false
set_option linter.unusedSimpArgs false

def impl_IsTable.f (k : Nat) (a0 : ByteArray) : Option (Bool) := (impl_isForm.f k a0 (⟨#[48, 49, 50, 51, 52, 53, 54, 55, 56, 57]⟩ : ByteArray)).bind fun t186 => (some t186)
set_option maxRecDepth 100000 in
set_option maxHeartbeats 40000000 in
theorem impl_IsTable.calls (k : Nat) (a0 : ByteArray) (r : Bool) (w : World) (hmx : ∃ m, w.cell? ⟨0, 0, none⟩ = some (.int .i64 m)) (h : impl_IsTable.f k a0 = some r) :
    Calls Tryz.prog 50 #[.string a0] w fun e w' => e = .returned (.bool r) ∧ Below w.heap.size w w' := by
  obtain ⟨cs, hcs⟩ : ∃ cs, cs = [old w w.heap.size] := ⟨_, rfl⟩
  have hp : Hp w cs w := by rw [hcs]; exact Hp.old_start w
  have hc2 : ∀ W, Hp w cs W → Below w.heap.size w W := fun W h => by rw [hcs] at h; exact h.since 0 _ rfl
  have hM : ∀ W, Hp w cs W → ∃ m, W.cell? ⟨0, 0, none⟩ = some (.int .i64 m) := fun W h => hmx.imp fun m q => ((hc2 W h).cell (World.block_lt_of_cell? _ _ q)).trans q
  clear hcs
  unfold impl_IsTable.f at h
  obtain ⟨t_2, hv_1, h⟩ := Option.bind_eq_some_iff.mp h
  try dsimp only at h
  refine sx_enter (N := 5) (l := [.string a0]) Tryz.func50 rfl rfl rfl ?_
  refine wp_seq ?_
  refine sx_region ?_
  refine sx_rd 2 (.bool false) (by rfl) (by kernel_rfl) ?_
  refine sx_nil ?_
  refine ex_then_n ?_
  refine wp_seq ?_
  refine sx_region ?_
  refine sx_rd 3 (.string a0) (by rfl) (by kernel_rfl) ?_
  refine sx_call 4 (by rfl) (by kernel_rfl) ((impl_isForm.calls _ a0 (⟨#[48, 49, 50, 51, 52, 53, 54, 55, 56, 57]⟩ : ByteArray) _ _ (hM _ (hp)) hv_1).mono ?_)
  rintro _ W_3 ⟨rfl, hb⟩
  refine ⟨_, rfl, ?_⟩
  replace hp := hp.below hb
  clear hb
  refine sx_rd 2 (.bool t_2) (by rfl) (by kernel_rfl) ?_
  refine sx_nil ?_
  refine ex_then_n ?_
  refine wp_ret ?_
  refine sx_end (.bool t_2) (res1 2 (by rfl)) ?_
  obtain rfl := Option.some.inj h
  exact ⟨rfl, hc2 _ (hp)⟩
end
section
open Go.RowKit Go.Proofs.YtokkiiepddhkiaaGreatDoorW.PrintWords Go.Proofs.YtokkiiepddhkiaaGreatDoorW.PrintLast Go.Proofs.YtokkiiepddhkiaaGreatDoorW.PrintMore
attribute [local go_sem] max2_int min2_int max_two min_two max_three min_three max_four min_four   -- for this text's walks alone
set_option linter.unusedVariables false
set_option linter.unusedSimpArgs false

end
section
open Go.RowKit Go.Proofs.YtokkiiepddhkiaaGreatDoorW.PrintWords Go.Proofs.YtokkiiepddhkiaaGreatDoorW.PrintLast Go.Proofs.YtokkiiepddhkiaaGreatDoorW.PrintMore
attribute [local go_sem] max2_int min2_int max_two min_two max_three min_three max_four min_four   -- for this text's walks alone
set_option linter.unusedVariables false
set_option linter.unusedSimpArgs false

def impl_at.f (a0 : ByteArray) (a1 : Int) (a2 : Int) : Option (Int × Int) := if 0 ≤ a1 then (if a1 < (a0.size : Int) then (if 0 ≤ a2 then (if a2 < (a0.size : Int) then ((impl_tile.f (((bt a0 a1) - 48) % 256) (((bt a0 a2) - 48) % 256)).bind fun bt337 => (some (bt337.1, bt337.2))) else (none)) else (none)) else (none)) else (none)
set_option maxRecDepth 100000 in
set_option maxHeartbeats 40000000 in
theorem impl_at.calls (a0 : ByteArray) (a1 : Int) (a2 : Int) (r1 : Int) (r2 : Int) (w : World) (h : impl_at.f a0 a1 a2 = some (r1, r2)) :
    Calls Tryz.prog 54 #[.string a0, .int .i64 a1, .int .i64 a2] w fun e w' => e = .returned (.agg #[.int .i64 r1, .int .i64 r2]) ∧ Below w.heap.size w w' := by
  obtain ⟨cs, hcs⟩ : ∃ cs, cs = [old w w.heap.size] := ⟨_, rfl⟩
  have hp : Hp w cs w := by rw [hcs]; exact Hp.old_start w
  have hc2 : ∀ W, Hp w cs W → Below w.heap.size w W := fun W h => by rw [hcs] at h; exact h.since 0 _ rfl
  clear hcs
  unfold impl_at.f at h
  by_cases hc_1 : 0 ≤ a1
  case neg => rw [if_neg hc_1] at h; cases h
  rw [if_pos hc_1] at h
  by_cases hc_2 : a1 < (a0.size : Int)
  case neg => rw [if_neg hc_2] at h; cases h
  rw [if_pos hc_2] at h
  by_cases hc_3 : 0 ≤ a2
  case neg => rw [if_neg hc_3] at h; cases h
  rw [if_pos hc_3] at h
  by_cases hc_4 : a2 < (a0.size : Int)
  case neg => rw [if_neg hc_4] at h; cases h
  rw [if_pos hc_4] at h
  obtain ⟨⟨t_6, t_7⟩, hv_5, h⟩ := Option.bind_eq_some_iff.mp h
  try dsimp only at h
  refine sx_enter (N := 18) (l := [.string a0, .int .i64 a1, .int .i64 a2]) Tryz.func54 rfl rfl rfl ?_
  refine wp_seq ?_
  refine sx_region ?_
  refine sx_box 6 hp #[.int .i64 0, .int .i64 0] 55 (by rfl) (fun W => by kernel_rfl) ?_
  intro g_8 W_9 hp
  refine sx_nil ?_
  refine ex_then_n ?_
  refine wp_seq ?_
  refine sx_drawT [0, 1, 2, 3, 4, 5, 6, 7, 8, 9] (.alt 10 (.fin) .non) 11 (C := Hp w (blk g_8 #[.int .i64 0, .int .i64 0] 55 :: cs)) (by kernel_rfl) (by kernel_rfl) (fun d _ _ _ _ h => by cases d <;> exact h) (fun W h => h.drew) hp ?_
  refine preI_read rfl ?_
  refine sxq_val 7 (.string a0) (by rfl) (fun W _ => (by kernel_rfl)) ?_
  refine sxq_nil ?_
  refine preI_read rfl ?_
  refine sxq_val 8 (.int .i64 a1) (by rfl) (fun W _ => (by kernel_rfl)) ?_
  refine sxq_nil ?_
  refine preI_read rfl ?_
  refine sxq_val 9 (.int .u8 (bt a0 a1)) (by rfl) (fun W _ => (stri_run (by rfl) (by rfl) (by rfl) Tryz.underlying9 (by omega) (by omega))) ?_
  refine sxq_nil ?_
  refine preI_read rfl ?_
  refine sxq_val 10 (.int .u8 (((bt a0 a1) - 48) % 256)) (by rfl) (fun W _ => (u8_w (by kernel_rfl))) ?_
  refine sxq_nil ?_
  refine preI_read rfl ?_
  refine sxq_val 11 (.int .i64 (((bt a0 a1) - 48) % 256)) (by rfl) (fun W _ => (wr_ok (by omega) (cvt_run (by rfl) (by rfl) Tryz.underlying5 Tryz.underlying3))) ?_
  refine sxq_nil ?_
  refine preI_read rfl ?_
  refine sxq_val 12 (.string a0) (by rfl) (fun W _ => (by kernel_rfl)) ?_
  refine sxq_nil ?_
  refine preI_read rfl ?_
  refine sxq_val 13 (.int .i64 a2) (by rfl) (fun W _ => (by kernel_rfl)) ?_
  refine sxq_nil ?_
  refine preI_read rfl ?_
  refine sxq_val 14 (.int .u8 (bt a0 a2)) (by rfl) (fun W _ => (stri_run (by rfl) (by rfl) (by rfl) Tryz.underlying9 (by omega) (by omega))) ?_
  refine sxq_nil ?_
  refine preI_read rfl ?_
  refine sxq_val 15 (.int .u8 (((bt a0 a2) - 48) % 256)) (by rfl) (fun W _ => (u8_w (by kernel_rfl))) ?_
  refine sxq_nil ?_
  refine preI_read rfl ?_
  refine sxq_val 16 (.int .i64 (((bt a0 a2) - 48) % 256)) (by rfl) (fun W _ => (wr_ok (by omega) (cvt_run (by rfl) (by rfl) Tryz.underlying5 Tryz.underlying3))) ?_
  refine sxq_nil ?_
  refine preI_nil ?_
  intro W_10 hp
  refine treeI_ev rfl ?_
  refine sx_call 17 (by rfl) (by kernel_rfl) ((impl_tile.calls (((bt a0 a1) - 48) % 256) (((bt a0 a2) - 48) % 256) _ _ _ hv_5).mono ?_)
  rintro _ W_11 ⟨rfl, hb⟩
  refine ⟨_, rfl, ?_⟩
  replace hp := hp.below hb
  clear hb
  refine step_fin hp ?_
  refine treeI_fin ?_
  refine tail_of [11] (by rfl) ?_
  refine tailI_op rfl ?_
  refine sx_store (t := 55) (p := (.tmp 6)) (x := (.tmp 17)) (by rfl) (by rfl) 0 (by rfl) 0 [.int .i64 t_6, .int .i64 t_7] (by rfl) (by rfl) (by kernel_rfl) (by simp [Value.oneCell']) (by show 2 ≤ 2; omega) #[.int .i64 t_6, .int .i64 t_7] (by rfl) hp ?_
  intro W_12 hp; simp only [List.set_cons_succ, List.set_cons_zero] at hp
  refine tailI_next ?_
  refine tailI_nil ?_
  refine ex_then_n ?_
  refine wp_ret ?_
  refine sx_end (.agg #[.int .i64 t_6, .int .i64 t_7]) (resc (by rfl) (by rfl) (by kernel_rfl) (by kernel_rfl) (hp.at_ 0 _ (by rfl))) ?_
  simp only [Option.some.injEq, Prod.mk.injEq] at h; obtain ⟨rfl, rfl⟩ := h
  exact ⟨rfl, hc2 _ (hp.tail)⟩
end
section
open Go.RowKit Go.Proofs.YtokkiiepddhkiaaGreatDoorW.PrintWords Go.Proofs.YtokkiiepddhkiaaGreatDoorW.PrintLast Go.Proofs.YtokkiiepddhkiaaGreatDoorW.PrintMore
attribute [local go_sem] max2_int min2_int max_two min_two max_three min_three max_four min_four   -- for this text's walks alone
set_option linter.unusedVariables false
set_option linter.unusedSimpArgs false

def impl_handText.l0 : Nat → List ByteArray → List (S_Tile) → Int → Int → Option (ByteArray)
  | 0, _, _, _, _ => none
  | k + 1, x3, x10, x11, x12 => if x12 < x11 then (if 0 ≤ x12 then (if x12 < (x10.length : Int) then ((impl_Tile_digits.f ((rd_Tile x10 x12).f0) ((rd_Tile x10 x12).f1)).bind fun t358 => (if x3.length < 8796093022208 then (impl_handText.l0 k (x3 ++ [t358]) x10 x11 (wrap64 (x12 + 1))) else (none))) else (none)) else (none)) else ((strings_Join.f x3 (⟨#[44]⟩ : ByteArray)).bind fun t362 => (some t362))
def impl_handText.f (k : Nat) (l0 : List (S_Tile)) : Option (ByteArray) := if (l0.length : Int) = 0 then (some (⟨#[45]⟩ : ByteArray)) else (impl_handText.l0 k (([] : List ByteArray)) l0 (l0.length : Int) 0)
set_option maxRecDepth 100000 in
set_option maxHeartbeats 40000000 in
theorem impl_handText.calls (k : Nat) (A0 : Option Addr) (c0 : Nat) (l0 : List (S_Tile)) (r : ByteArray) (w : World) (hr0 : Kd.C k55 w A0 l0.length l0) (hc0 : l0.length ≤ c0) (h : impl_handText.f k l0 = some r) :
    Calls Tryz.prog 58 #[.slice A0 l0.length c0] w fun e w' => e = .returned (.string r) ∧ Below w.heap.size w w' := by
  obtain ⟨cs, hcs⟩ : ∃ cs, cs = [old w w.heap.size] := ⟨_, rfl⟩
  have hp : Hp w cs w := by rw [hcs]; exact Hp.old_start w
  have hc2 : ∀ W, Hp w cs W → Below w.heap.size w W := fun W h => by rw [hcs] at h; exact h.since 0 _ rfl
  have hC0 : ∀ W, Hp w cs W → Kd.C k55 W A0 l0.length l0 := fun W h => Kd.C_below hr0 (hc2 W h)
  clear hcs
  unfold impl_handText.f at h
  refine sx_enter (N := 24) (l := [.slice A0 l0.length c0]) Tryz.func58 rfl rfl rfl ?_
  refine wp_seq ?_
  refine sx_region ?_
  refine sx_rd 2 (.string (⟨#[]⟩ : ByteArray)) (by rfl) (by kernel_rfl) ?_
  refine sx_nil ?_
  refine ex_then_n ?_
  refine wp_seq ?_
  refine wp_seq ?_
  refine sx_region ?_
  refine sx_rd 6 (.slice A0 l0.length c0) (by rfl) (by kernel_rfl) ?_
  refine sx_rd 7 (.int .i64 (l0.length : Int)) (by rfl) (by kernel_rfl) ?_
  refine sx_rd 8 (.bool ((l0.length : Int) == 0)) (by rfl) (by kernel_rfl) ?_
  refine sx_nil ?_
  refine ex_then_n ?_
  by_cases hc_1 : (l0.length : Int) = 0
  ·
    rw [if_pos hc_1] at h
    refine sx_then ((l0.length : Int) == 0) (by rfl) (beq_iff_eq.mpr hc_1) ?_
    refine wp_seq ?_
    refine sx_region ?_
    refine sx_rd 2 (.string (⟨#[45]⟩ : ByteArray)) (by rfl) (by kernel_rfl) ?_
    refine sx_nil ?_
    refine ex_then_n ?_
    refine wp_ret ?_
    refine ex_then_r ?_
    refine sx_end (.string (⟨#[45]⟩ : ByteArray)) (res1 2 (by rfl)) ?_
    obtain rfl := Option.some.inj h
    exact ⟨rfl, hc2 _ (hp)⟩
  ·
    rw [if_neg hc_1] at h
    refine sx_else ((l0.length : Int) == 0) (by rfl) (beq_eq_false_iff_ne.mpr hc_1) ?_
    refine wp_skip ?_
    refine ex_then_n ?_
    refine wp_seq ?_
    refine sx_region ?_
    refine sx_lit 9 (by rfl) Kd.string w.heap.size 9 ([] : List ByteArray) [] (fun W => by kernel_rfl) (Reps.none _ _) (by simp) hp.size hp ?_
    intro g_2 F_3 W_4 hp hz; clear hz
    refine sx_rd 3 (.slice (some ⟨g_2, 0, none⟩) (([] : List ByteArray).length) (([] : List ByteArray).length)) (by rfl) (by kernel_rfl) ?_
    refine sx_nil ?_
    refine ex_then_n ?_
    refine wp_seq ?_
    refine wp_seq ?_
    refine sx_region ?_
    refine sx_rd 10 (.slice A0 l0.length c0) (by rfl) (by kernel_rfl) ?_
    refine sx_rd 11 (.int .i64 (l0.length : Int)) (by rfl) (by kernel_rfl) ?_
    refine sx_rd 12 (.int .i64 0) (by rfl) (by kernel_rfl) ?_
    refine sx_nil ?_
    refine ex_then_n ?_
    refine wp_block ?_
    refine wp_loop_ghost (fun n_ a_ W => ∃ (r_ : List (Nat × Value)) (k_7 : Nat) (x_6 : Int) (x_5 : List ByteArray) (A_8 : Option Addr) (n_9 c_10 : Nat) (F_11 : Nat → Prop), n_ = k_7 + 1 ∧ a_ = fr 24 ([(3, .slice A_8 n_9 c_10), (10, .slice A0 l0.length c0), (11, .int .i64 (l0.length : Int)), (12, .int .i64 x_6)] ++ r_) ∧ Hp w (row Kd.string 9 w.heap.size (.slice A_8 n_9 c_10) x_5 F_11 :: cs) W ∧ (impl_handText.l0 k_7 x_5 l0 (l0.length : Int) x_6 = some r) ∧ (k_7 ≤ k)) _ ⟨_, k, 0, (([] : List ByteArray)), _, _, _, _, rfl, fr_front [(3, .slice (some ⟨g_2, 0, none⟩) (([] : List ByteArray).length) (([] : List ByteArray).length)), (10, .slice A0 l0.length c0), (11, .int .i64 (l0.length : Int)), (12, .int .i64 0)] ⟨rfl, rfl, rfl, rfl, trivial⟩, (hp.take [0] 1 (by decide) (by simp)), h, (Nat.le_refl _)⟩ ?_
    rintro _ _ W_13 ⟨r_, k_7, x_6, x_5, A_8, n_9, c_10, F_11, rfl, rfl, hp, h, hk_12⟩
    obtain ⟨rfl, -⟩ := row_len (hp.at_ 0 _ (by rfl))
    rcases k_7 with _ | k_7
    · simp [impl_handText.l0] at h
    simp only [impl_handText.l0] at h
    refine wp_seq ?_
    refine sx_region ?_
    refine sx_rd 13 (.bool (decide (x_6 < (l0.length : Int)))) (by rfl) (by kernel_rfl) ?_
    refine sx_nil ?_
    refine ex_then_n ?_
    refine wp_seq ?_
    by_cases hc_14 : x_6 < (l0.length : Int)
    ·
      rw [if_pos hc_14] at h
      by_cases hc_15 : 0 ≤ x_6
      case neg => rw [if_neg hc_15] at h; cases h
      rw [if_pos hc_15] at h
      by_cases hc_16 : x_6 < (l0.length : Int)
      case neg => rw [if_neg hc_16] at h; cases h
      rw [if_pos hc_16] at h
      obtain ⟨t_18, hv_17, h⟩ := Option.bind_eq_some_iff.mp h
      try dsimp only at h
      by_cases hc_19 : x_5.length < 8796093022208
      case neg => rw [if_neg hc_19] at h; cases h
      rw [if_pos hc_19] at h
      refine sx_then (decide (x_6 < (l0.length : Int))) (by rfl) (decide_eq_true hc_14) ?_
      refine wp_skip ?_
      refine ex_then_n ?_
      refine wp_seq ?_
      refine wp_block ?_
      refine wp_seq ?_
      refine sx_region ?_
      refine sx_rd 14 (.pointer (some (adr A0 x_6 2))) (by rfl) (ix_run (d := k55) (hC0 _ hp.tail) (t := 27) (by rfl) (by rfl) (by rfl) Tryz.underlying27 (by kernel_rfl) (by omega) (by omega)) ?_
      refine sx_rd 15 (.agg #[.int .i64 ((rd_Tile l0 x_6).f0), .int .i64 ((rd_Tile l0 x_6).f1)]) (by rfl) (el_run (d := k55) (hC0 _ hp.tail) z55 x_6 (by omega) (by omega) (cells := [.int .i64 ((rd_Tile l0 x_6).f0), .int .i64 ((rd_Tile l0 x_6).f1)]) (fun cs h => k55_open h) 0 [.int .i64 ((rd_Tile l0 x_6).f0), .int .i64 ((rd_Tile l0 x_6).f1)] (by rfl) (t := 55) (p := (.tmp 14)) (by rfl) (by rfl) (by kernel_rfl) (by kernel_rfl)) ?_
      refine sx_box 5 hp #[.int .i64 0, .int .i64 0] 55 (by rfl) (fun W => by kernel_rfl) ?_
      intro g_20 W_21 hp
      refine sx_store (t := 55) (p := (.tmp 5)) (x := (.tmp 15)) (by rfl) (by rfl) 0 (by rfl) 0 [.int .i64 ((rd_Tile l0 x_6).f0), .int .i64 ((rd_Tile l0 x_6).f1)] (by rfl) (by rfl) (by kernel_rfl) (by simp [Value.oneCell']) (by show 2 ≤ 2; omega) #[.int .i64 ((rd_Tile l0 x_6).f0), .int .i64 ((rd_Tile l0 x_6).f1)] (by rfl) hp ?_
      intro W_22 hp; simp only [List.set_cons_succ, List.set_cons_zero] at hp
      refine sx_nil ?_
      refine ex_then_n ?_
      refine sx_region ?_
      refine sx_rd 16 (.slice A_8 x_5.length c_10) (by rfl) (by kernel_rfl) ?_
      refine sx_rd 17 (.agg #[.int .i64 ((rd_Tile l0 x_6).f0), .int .i64 ((rd_Tile l0 x_6).f1)]) (by rfl) (ldn (t := 55) (p := (.tmp 5)) (by rfl) (by rfl) (by kernel_rfl) (by kernel_rfl) (by kernel_rfl) (hp.at_ 0 _ (by rfl))) ?_
      refine sx_call 18 (by rfl) (by kernel_rfl) ((impl_Tile_digits.calls ((rd_Tile l0 x_6).f0) ((rd_Tile l0 x_6).f1) _ _ hv_17).mono ?_)
      rintro _ W_23 ⟨rfl, hb⟩
      refine ⟨_, rfl, ?_⟩
      replace hp := hp.below hb
      clear hb
      refine sx_lit 19 (by rfl) Kd.string w.heap.size 9 ([t_18]) [.string t_18] (fun W => by kernel_rfl) (Reps.snoc (cs := []) (Reps.none _ _) rfl rfl) (by simp) hp.size hp ?_
      intro g_24 F_25 W_26 hp hz; clear hz
      refine sx_append 20 (by rfl) Kd.string 2 (by rfl) (.string ByteArray.empty) 16 (by rfl) Tryz.underlying24 (by kernel_rfl) rfl (by decide) (by decide) ([t_18]) (by rfl) (by rfl) (row_C (hp.at_ 0 _ (by rfl))) (fun x cs h => h) hp.size (by first | omega | (simp; omega)) hp ?_
      intro A_27 c_28 F_29 W_30 hp hz; clear hz; simp only [List.set_cons_succ, List.set_cons_zero] at hp
      refine sx_rd 3 (.slice A_27 ((x_5 ++ [t_18]).length) c_28) (by rfl) (by kernel_rfl) ?_
      refine sx_nil ?_
      refine ex_blk_n ?_
      refine ex_then_n ?_
      refine sx_region ?_
      refine sx_rd 21 (.int .i64 (wrap64 (x_6 + 1))) (by rfl) (wr_w (by kernel_rfl)) ?_
      refine sx_rd 12 (.int .i64 (wrap64 (x_6 + 1))) (by rfl) (by kernel_rfl) ?_
      refine sx_nil ?_
      refine ex_then_n ?_
      exact ⟨_, (by omega), _, k_7, (wrap64 (x_6 + 1)), (x_5 ++ [t_18]), _, _, _, _, rfl, fr_front [(3, .slice A_27 ((x_5 ++ [t_18]).length) c_28), (10, .slice A0 l0.length c0), (11, .int .i64 (l0.length : Int)), (12, .int .i64 (wrap64 (x_6 + 1)))] ⟨rfl, rfl, rfl, rfl, trivial⟩, (hp.take [2] 3 (by decide) (by simp)), h, (by omega)⟩
    ·
      rw [if_neg hc_14] at h
      obtain ⟨t_32, hv_31, h⟩ := Option.bind_eq_some_iff.mp h
      try dsimp only at h
      refine sx_else (decide (x_6 < (l0.length : Int))) (by rfl) (decide_eq_false hc_14) ?_
      refine wp_exit ?_
      refine ex_then_e (ex_then_e (ex_blk_here ?_))
      refine ex_then_n ?_
      refine wp_seq ?_
      refine sx_region ?_
      refine sx_rd 22 (.slice A_8 x_5.length c_10) (by rfl) (by kernel_rfl) ?_
      refine sx_call 23 (by rfl) (by kernel_rfl) ((strings_Join.calls A_8 c_10 x_5 (⟨#[44]⟩ : ByteArray) _ _ (row_C (hp.at_ 0 _ (by rfl))) (row_len (hp.at_ 0 _ (by rfl))).2 hv_31).mono ?_)
      rintro _ W_33 ⟨rfl, hb⟩
      refine ⟨_, rfl, ?_⟩
      replace hp := hp.below hb
      clear hb
      refine sx_rd 2 (.string t_32) (by rfl) (by kernel_rfl) ?_
      refine sx_nil ?_
      refine ex_then_n ?_
      refine wp_ret ?_
      refine sx_end (.string t_32) (res1 2 (by rfl)) ?_
      obtain rfl := Option.some.inj h
      exact ⟨rfl, hc2 _ (hp.tail)⟩
end
end Go.Proofs.YtokkiiepddhkiaaGreatDoor.Hd
