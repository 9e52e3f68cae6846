-- Printed by hprint.py and laid together by pack.py (this session's programs over the kit's print program). Lean checks it.
import Derived.Test.YtjhbnkplpaffoaaDoorMSx5
import Derived.Test.YtjhbnkplpaffoaaDoorMSxL
import Derived.Test.YtjhbnkplpaffoaaDoorMMx
import Derived.Test.YtjhbnkplpaffoaaDoorG0
import Derived.Test.YtjhbnkplpaffoaaDoorMStrs
namespace Go.Proofs.YtjhbnkplpaffoaaDoor.Hd
section
open Go.RowKit Go.Proofs.YtjhbnkplpaffoaaDoorW.PrintWords Go.Proofs.YtjhbnkplpaffoaaDoorW.PrintLast Go.Proofs.YtjhbnkplpaffoaaDoorW.PrintMore
attribute [local go_sem] max2_int min2_int max_two min_two max_three min_three max_four min_four   -- for this text's walks alone
set_option linter.unusedVariables false
set_option linter.unusedSimpArgs false

mutual
def spec_taRead.l0 : Nat → List ByteArray → Int → Int → Int → Int → List Int → Option (Int × Int × List Int × Bool)
  | 0, _, _, _, _, _, _ => none
  | k + 1, x25, x26, x27, x120000, x120001, x120002 => if x27 < x26 then (if 0 ≤ x27 then (if x27 < (x25.length : Int) then (spec_taRead.l1 k (rdOf ByteArray.empty x25 x27) 0 x25 x26 x27 x120000 x120001 x120002) else (none)) else (none)) else (some (x120000, x120001, x120002, true))
def spec_taRead.l1 : Nat → ByteArray → Int → List ByteArray → Int → Int → Int → Int → List Int → Option (Int × Int × List Int × Bool)
  | 0, _, _, _, _, _, _, _, _ => none
  | k + 1, x8, x9, x25, x26, x27, x120000, x120001, x120002 => if x9 < (x8.size : Int) then (if 0 ≤ x9 then (if (bt x8 x9) < 48 then (some (0, 0, ([] : List Int), false)) else (if (bt x8 x9) > 57 then (some (0, 0, ([] : List Int), false)) else (if x120002.length < 17592186044416 then (spec_taRead.l1 k x8 (wrap64 (x9 + 1)) x25 x26 x27 x120000 x120001 (x120002 ++ [((bt x8 x9) - 48) % 256])) else (none)))) else (none)) else (spec_taRead.l0 k x25 x26 (wrap64 (x27 + 1)) x120000 x120001 x120002)
end
def spec_taRead.f (k : Nat) (a0 : ByteArray) : Option (Int × Int × List Int × Bool) := (spec_taRows.f k a0).bind fun bt114 => (if bt114.2 = true then (if 0 < (bt114.1.length : Int) then (spec_taRead.l0 k bt114.1 (bt114.1.length : Int) 0 ((rdOf ByteArray.empty bt114.1 0).size : Int) (bt114.1.length : Int) ([] : List Int)) else (none)) else (some (0, 0, ([] : List Int), false)))
set_option maxRecDepth 100000 in
set_option maxHeartbeats 40000000 in
theorem spec_taRead.calls (k : Nat) (a0 : ByteArray) (r1 : Int) (r2 : Int) (r3 : List Int) (r4 : Bool) (w : World) (h : spec_taRead.f k a0 = some (r1, r2, r3, r4)) :
    Calls Tryd.prog 34 #[.string a0] w fun e w' => ∃ v2_ : Value, e = .returned (.tuple #[.agg #[.int .i64 r1, .int .i64 r2, v2_], .bool r4]) ∧ Kd.R (Kd.int .i64) 3 w' w.heap.size (fun _ => True) v2_ r3 ∧ Below w.heap.size w w' := by
  obtain ⟨cs, hcs⟩ : ∃ cs, cs = [old w w.heap.size] := ⟨_, rfl⟩
  have hp : Hp w cs w := by rw [hcs]; exact Hp.old_start w
  have hc2 : ∀ W, Hp w cs W → Below w.heap.size w W := fun W h => by rw [hcs] at h; exact h.since 0 _ rfl
  clear hcs
  unfold spec_taRead.f at h
  obtain ⟨⟨t_2, t_3⟩, hv_1, h⟩ := Option.bind_eq_some_iff.mp h
  try dsimp only at h
  refine sx_enter (N := 60) (l := [.string a0]) Tryd.func34 rfl rfl rfl ?_
  refine wp_seq ?_
  refine sx_region ?_
  refine sx_box 2 hp #[.int .i64 0, .int .i64 0, .slice none 0 0] 50 (by rfl) (fun W => by kernel_rfl) ?_
  intro g_4 W_5 hp
  refine sx_rd 3 (.bool false) (by rfl) (by kernel_rfl) ?_
  refine sx_nil ?_
  refine ex_then_n ?_
  refine wp_seq ?_
  refine sx_region ?_
  refine sx_rd 11 (.string a0) (by rfl) (by kernel_rfl) ?_
  refine sx_call 12 (by rfl) (by kernel_rfl) ((spec_taRows.calls _ a0 _ _ _ hv_1).mono ?_)
  rintro _ W_11 ⟨v_7, rfl, hR_6, hb⟩
  refine ⟨_, rfl, ?_⟩
  obtain ⟨A_8, c_9, rfl, hcc_c_9, _⟩ := Kd.R_reads hR_6
  obtain ⟨F_10, hp⟩ : ∃ F, Hp w (row Kd.string 9 w.heap.size (.slice A_8 t_2.length c_9) t_2 F :: blk g_4 #[.int .i64 0, .int .i64 0, .slice none 0 0] 50 :: cs) _ := ⟨_, Hp.made hp hb hR_6⟩
  refine sx_rd 10 (.tuple #[.slice A_8 t_2.length c_9, .bool t_3]) (by rfl) (by kernel_rfl) ?_
  refine sx_rd 13 (.slice A_8 t_2.length c_9) (by rfl) (by kernel_rfl) ?_
  refine sx_rd 14 (.bool t_3) (by rfl) (by kernel_rfl) ?_
  refine sx_rd 4 (.slice A_8 t_2.length c_9) (by rfl) (by kernel_rfl) ?_
  refine sx_rd 5 (.bool t_3) (by rfl) (by kernel_rfl) ?_
  refine sx_nil ?_
  refine ex_then_n ?_
  refine wp_seq ?_
  refine wp_seq ?_
  refine sx_region ?_
  refine sx_rd 15 (.bool t_3) (by rfl) (by kernel_rfl) ?_
  refine sx_rd 16 (.bool (!t_3)) (by rfl) (by kernel_rfl) ?_
  refine sx_nil ?_
  refine ex_then_n ?_
  by_cases hc_12 : t_3 = true
  ·
    rw [if_pos hc_12] at h
    by_cases hc_13 : 0 < (t_2.length : Int)
    case neg => rw [if_neg hc_13] at h; cases h
    rw [if_pos hc_13] at h
    refine sx_else (!t_3) (by rfl) (show (!t_3) = false from by rw [hc_12]; rfl) ?_
    refine wp_skip ?_
    refine ex_then_n ?_
    refine wp_seq ?_
    refine sx_region ?_
    refine sx_rd 18 (.slice A_8 t_2.length c_9) (by rfl) (by kernel_rfl) ?_
    refine sx_rd 19 (.pointer (some (adr A_8 0 1))) (by rfl) (ix_run (d := Kd.string) (row_C (hp.at_ 0 _ (by rfl))) (t := 59) (by rfl) (by rfl) (by rfl) Tryd.underlying59 (by kernel_rfl) (by omega) (by omega)) ?_
    refine sx_rd 20 (.string (rdOf ByteArray.empty t_2 0)) (by rfl) (ld1 (t := 9) (p := (.tmp 19)) (by rfl) (by rfl) (by kernel_rfl) (el_cell (d := Kd.string) (row_C (hp.at_ 0 _ (by rfl))) ByteArray.empty 0 (by omega) (by omega) (cells := [.string (rdOf ByteArray.empty t_2 0)]) (fun cs h => h) 0 _ (by rfl))) ?_
    refine sx_rd 21 (.int .i64 ((rdOf ByteArray.empty t_2 0).size : Int)) (by rfl) (by kernel_rfl) ?_
    refine sx_rd 22 (.slice A_8 t_2.length c_9) (by rfl) (by kernel_rfl) ?_
    refine sx_rd 23 (.int .i64 (t_2.length : Int)) (by rfl) (by kernel_rfl) ?_
    refine sx_rd 24 (.agg #[.int .i64 ((rdOf ByteArray.empty t_2 0).size : Int), .int .i64 (t_2.length : Int), .slice none 0 0]) (by rfl) (by kernel_rfl) ?_
    refine sx_box 6 hp #[.int .i64 0, .int .i64 0, .slice none 0 0] 50 (by rfl) (fun W => by kernel_rfl) ?_
    intro g_14 W_15 hp
    refine sx_store (t := 50) (p := (.tmp 6)) (x := (.tmp 24)) (by rfl) (by rfl) 0 (by rfl) 0 [.int .i64 ((rdOf ByteArray.empty t_2 0).size : Int), .int .i64 (t_2.length : Int), .slice none 0 0] (by rfl) (by rfl) (by kernel_rfl) (by simp [Value.oneCell']) (by show 3 ≤ 3; omega) #[.int .i64 ((rdOf ByteArray.empty t_2 0).size : Int), .int .i64 (t_2.length : Int), .slice none 0 0] (by rfl) hp ?_
    intro W_16 hp; simp only [List.set_cons_succ, List.set_cons_zero] at hp
    refine sx_nil ?_
    refine ex_then_n ?_
    refine wp_seq ?_
    refine wp_seq ?_
    refine sx_region ?_
    refine sx_rd 25 (.slice A_8 t_2.length c_9) (by rfl) (by kernel_rfl) ?_
    refine sx_rd 26 (.int .i64 (t_2.length : Int)) (by rfl) (by kernel_rfl) ?_
    refine sx_rd 27 (.int .i64 0) (by rfl) (by kernel_rfl) ?_
    refine sx_nil ?_
    refine ex_then_n ?_
    refine wp_block ?_
    have hp := hp.nilrow (Kd.int .i64) 3 w.heap.size
    refine wp_loop_ghost (fun n_ a_ W => ∃ (r_ : List (Nat × Value)) (k_19 : Nat) (x_17 : Int) (x_18 : List Int) (A_20 : Option Addr) (n_21 c_22 : Nat) (F_23 : Nat → Prop), n_ = k_19 + 1 ∧ a_ = fr 60 ([(2, .pointer (some ⟨g_4, 0, none⟩)), (6, .pointer (some ⟨g_14, 0, none⟩)), (25, .slice A_8 t_2.length c_9), (26, .int .i64 (t_2.length : Int)), (27, .int .i64 x_17)] ++ r_) ∧ Hp w (row (Kd.int .i64) 3 w.heap.size (.slice A_20 n_21 c_22) x_18 F_23 :: blk g_14 #[.int .i64 ((rdOf ByteArray.empty t_2 0).size : Int), .int .i64 (t_2.length : Int), .slice A_20 n_21 c_22] 50 :: row Kd.string 9 w.heap.size (.slice A_8 t_2.length c_9) t_2 F_10 :: blk g_4 #[.int .i64 0, .int .i64 0, .slice none 0 0] 50 :: cs) W ∧ (spec_taRead.l0 k_19 t_2 (t_2.length : Int) x_17 ((rdOf ByteArray.empty t_2 0).size : Int) (t_2.length : Int) x_18 = some (r1, r2, r3, r4)) ∧ (k_19 ≤ k)) _ ⟨_, k, 0, ([] : List Int), _, _, _, _, rfl, fr_front [(2, .pointer (some ⟨g_4, 0, none⟩)), (6, .pointer (some ⟨g_14, 0, none⟩)), (25, .slice A_8 t_2.length c_9), (26, .int .i64 (t_2.length : Int)), (27, .int .i64 0)] ⟨rfl, rfl, rfl, rfl, rfl, trivial⟩, (hp.take [0, 1, 2, 3] 4 (by decide) (by simp)), h, (Nat.le_refl _)⟩ ?_
    rintro _ _ W_25 ⟨r_, k_19, x_17, x_18, A_20, n_21, c_22, F_23, rfl, rfl, hp, h, hk_24⟩
    obtain ⟨rfl, -⟩ := row_len (hp.at_ 0 _ (by rfl))
    rcases k_19 with _ | k_19
    · simp [spec_taRead.l0] at h
    simp only [spec_taRead.l0] at h
    refine wp_seq ?_
    refine sx_region ?_
    refine sx_rd 28 (.bool (decide (x_17 < (t_2.length : Int)))) (by rfl) (by kernel_rfl) ?_
    refine sx_nil ?_
    refine ex_then_n ?_
    refine wp_seq ?_
    by_cases hc_26 : x_17 < (t_2.length : Int)
    ·
      rw [if_pos hc_26] at h
      by_cases hc_27 : 0 ≤ x_17
      case neg => rw [if_neg hc_27] at h; cases h
      rw [if_pos hc_27] at h
      by_cases hc_28 : x_17 < (t_2.length : Int)
      case neg => rw [if_neg hc_28] at h; cases h
      rw [if_pos hc_28] at h
      refine sx_then (decide (x_17 < (t_2.length : Int))) (by rfl) (decide_eq_true hc_26) ?_
      refine wp_skip ?_
      refine ex_then_n ?_
      refine wp_seq ?_
      refine wp_block ?_
      refine wp_seq ?_
      refine sx_region ?_
      refine sx_rd 29 (.pointer (some (adr A_8 x_17 1))) (by rfl) (ix_run (d := Kd.string) (row_C (hp.at_ 2 _ (by rfl))) (t := 59) (by rfl) (by rfl) (by rfl) Tryd.underlying59 (by kernel_rfl) (by omega) (by omega)) ?_
      refine sx_rd 30 (.string (rdOf ByteArray.empty t_2 x_17)) (by rfl) (ld1 (t := 9) (p := (.tmp 29)) (by rfl) (by rfl) (by kernel_rfl) (el_cell (d := Kd.string) (row_C (hp.at_ 2 _ (by rfl))) ByteArray.empty x_17 (by omega) (by omega) (cells := [.string (rdOf ByteArray.empty t_2 x_17)]) (fun cs h => h) 0 _ (by rfl))) ?_
      refine sx_rd 8 (.string (rdOf ByteArray.empty t_2 x_17)) (by rfl) (by kernel_rfl) ?_
      refine sx_nil ?_
      refine ex_then_n ?_
      refine wp_seq ?_
      refine sx_region ?_
      refine sx_rd 9 (.int .i64 0) (by rfl) (by kernel_rfl) ?_
      refine sx_nil ?_
      refine ex_then_n ?_
      refine wp_block ?_
      refine wp_loop_ghost (fun n_ a_ W => ∃ (r_ : List (Nat × Value)) (k_31 : Nat) (x_29 : Int) (x_30 : List Int) (A_32 : Option Addr) (n_33 c_34 : Nat) (F_35 : Nat → Prop), n_ = k_31 + 1 ∧ a_ = fr 60 ([(2, .pointer (some ⟨g_4, 0, none⟩)), (6, .pointer (some ⟨g_14, 0, none⟩)), (8, .string (rdOf ByteArray.empty t_2 x_17)), (9, .int .i64 x_29), (25, .slice A_8 t_2.length c_9), (26, .int .i64 (t_2.length : Int)), (27, .int .i64 x_17)] ++ r_) ∧ Hp w (row (Kd.int .i64) 3 w.heap.size (.slice A_32 n_33 c_34) x_30 F_35 :: blk g_14 #[.int .i64 ((rdOf ByteArray.empty t_2 0).size : Int), .int .i64 (t_2.length : Int), .slice A_32 n_33 c_34] 50 :: row Kd.string 9 w.heap.size (.slice A_8 t_2.length c_9) t_2 F_10 :: blk g_4 #[.int .i64 0, .int .i64 0, .slice none 0 0] 50 :: cs) W ∧ (spec_taRead.l1 k_31 (rdOf ByteArray.empty t_2 x_17) x_29 t_2 (t_2.length : Int) x_17 ((rdOf ByteArray.empty t_2 0).size : Int) (t_2.length : Int) x_30 = some (r1, r2, r3, r4)) ∧ (k_31 ≤ k_19)) _ ⟨_, k_19, 0, x_18, _, _, _, _, rfl, fr_front [(2, .pointer (some ⟨g_4, 0, none⟩)), (6, .pointer (some ⟨g_14, 0, none⟩)), (8, .string (rdOf ByteArray.empty t_2 x_17)), (9, .int .i64 0), (25, .slice A_8 t_2.length c_9), (26, .int .i64 (t_2.length : Int)), (27, .int .i64 x_17)] ⟨rfl, rfl, rfl, rfl, rfl, rfl, rfl, trivial⟩, (hp.take [0, 1, 2, 3] 4 (by decide) (by simp)), h, (Nat.le_refl _)⟩ ?_
      rintro _ _ W_37 ⟨r_, k_31, x_29, x_30, A_32, n_33, c_34, F_35, rfl, rfl, hp, h, hk_36⟩
      obtain ⟨rfl, -⟩ := row_len (hp.at_ 0 _ (by rfl))
      rcases k_31 with _ | k_31
      · simp [spec_taRead.l1] at h
      simp only [spec_taRead.l1] at h
      refine wp_seq ?_
      refine wp_seq ?_
      refine sx_region ?_
      refine sx_rd 31 (.int .i64 x_29) (by rfl) (by kernel_rfl) ?_
      refine sx_rd 32 (.string (rdOf ByteArray.empty t_2 x_17)) (by rfl) (by kernel_rfl) ?_
      refine sx_rd 33 (.int .i64 ((rdOf ByteArray.empty t_2 x_17).size : Int)) (by rfl) (by kernel_rfl) ?_
      refine sx_rd 34 (.bool (decide (x_29 < ((rdOf ByteArray.empty t_2 x_17).size : Int)))) (by rfl) (by kernel_rfl) ?_
      refine sx_nil ?_
      refine ex_then_n ?_
      by_cases hc_38 : x_29 < ((rdOf ByteArray.empty t_2 x_17).size : Int)
      ·
        rw [if_pos hc_38] at h
        by_cases hc_39 : 0 ≤ x_29
        case neg => rw [if_neg hc_39] at h; cases h
        rw [if_pos hc_39] at h
        refine sx_then (decide (x_29 < ((rdOf ByteArray.empty t_2 x_17).size : Int))) (by rfl) (decide_eq_true hc_38) ?_
        refine wp_skip ?_
        refine ex_then_n ?_
        refine wp_seq ?_
        refine wp_block ?_
        refine wp_seq ?_
        refine wp_seq ?_
        by_cases hc_40 : (bt (rdOf ByteArray.empty t_2 x_17) x_29) < 48
        ·
          rw [if_pos hc_40] at h
          refine sx_region ?_
          refine sx_rd 37 (.string (rdOf ByteArray.empty t_2 x_17)) (by rfl) (by kernel_rfl) ?_
          refine sx_rd 38 (.int .i64 x_29) (by rfl) (by kernel_rfl) ?_
          refine sx_rd 39 (.int .u8 (bt (rdOf ByteArray.empty t_2 x_17) x_29)) (by rfl) (stri_run (by rfl) (by rfl) (by rfl) Tryd.underlying9 (by omega) (by omega)) ?_
          refine sx_rd 40 (.bool true) (by rfl) (bv (decide_eq_true hc_40) (by kernel_rfl)) ?_
          refine sx_rd 41 (.bool true) (by rfl) (by kernel_rfl) ?_
          refine sx_skip 42 (by rfl) (by rfl) (by rfl) ?_
          refine sx_skip 43 (by rfl) (by rfl) (by rfl) ?_
          refine sx_skip 44 (by rfl) (by rfl) (by rfl) ?_
          refine sx_skip 45 (by rfl) (by rfl) (by rfl) ?_
          refine sx_rd 46 (.bool true) (by rfl) (by kernel_rfl) ?_
          refine sx_nil ?_
          refine ex_then_n ?_
          refine sx_then true (by rfl) rfl ?_
          refine wp_seq ?_
          refine sx_region ?_
          refine sx_rd 47 (.agg #[.int .i64 0, .int .i64 0, .slice none 0 0]) (by rfl) (by kernel_rfl) ?_
          refine sx_store (t := 50) (p := (.tmp 2)) (x := (.tmp 47)) (by rfl) (by rfl) 3 (by rfl) 0 [.int .i64 0, .int .i64 0, .slice none 0 0] (by rfl) (by rfl) (by kernel_rfl) (by simp [Value.oneCell']) (by show 3 ≤ 3; omega) #[.int .i64 0, .int .i64 0, .slice none 0 0] (by rfl) hp ?_
          intro W_41 hp; simp only [List.set_cons_succ, List.set_cons_zero] at hp
          refine sx_rd 3 (.bool false) (by rfl) (by kernel_rfl) ?_
          refine sx_nil ?_
          refine ex_then_n ?_
          refine wp_ret ?_
          refine ex_then_r (ex_blk_r (ex_then_r (ex_then_r (ex_blk_r (ex_blk_r (ex_then_r (ex_then_r (ex_blk_r (ex_then_r ?_)))))))))
          refine sx_end (.tuple #[.agg #[.int .i64 0, .int .i64 0, .slice none 0 0], .bool false]) (rescT (p := 2) (u := 3) (by rfl) (by rfl) (by kernel_rfl) (by kernel_rfl) (hp.at_ 3 _ (by rfl))) ?_
          simp only [Option.some.injEq, Prod.mk.injEq] at h; obtain ⟨rfl, rfl, rfl, rfl⟩ := h
          exact ⟨_, rfl, Kd.R_nil _ _ _ _ _, hc2 _ (hp.tail.tail.tail.tail)⟩
        ·
          rw [if_neg hc_40] at h
          refine sx_region ?_
          refine sx_rd 37 (.string (rdOf ByteArray.empty t_2 x_17)) (by rfl) (by kernel_rfl) ?_
          refine sx_rd 38 (.int .i64 x_29) (by rfl) (by kernel_rfl) ?_
          refine sx_rd 39 (.int .u8 (bt (rdOf ByteArray.empty t_2 x_17) x_29)) (by rfl) (stri_run (by rfl) (by rfl) (by rfl) Tryd.underlying9 (by omega) (by omega)) ?_
          refine sx_rd 40 (.bool false) (by rfl) (bv (decide_eq_false hc_40) (by kernel_rfl)) ?_
          refine sx_rd 41 (.bool false) (by rfl) (by kernel_rfl) ?_
          refine sx_want (by rfl) ?_
          refine sx_rd 42 (.string (rdOf ByteArray.empty t_2 x_17)) (by rfl) (by kernel_rfl) ?_
          refine sx_want (by rfl) ?_
          refine sx_rd 43 (.int .i64 x_29) (by rfl) (by kernel_rfl) ?_
          refine sx_want (by rfl) ?_
          refine sx_rd 44 (.int .u8 (bt (rdOf ByteArray.empty t_2 x_17) x_29)) (by rfl) (stri_run (by rfl) (by rfl) (by rfl) Tryd.underlying9 (by omega) (by omega)) ?_
          refine sx_want (by rfl) ?_
          refine sx_rd 45 (.bool (decide ((bt (rdOf ByteArray.empty t_2 x_17) x_29) > 57))) (by rfl) (by kernel_rfl) ?_
          refine sx_rd 46 (.bool (decide ((bt (rdOf ByteArray.empty t_2 x_17) x_29) > 57))) (by rfl) (by kernel_rfl) ?_
          refine sx_nil ?_
          refine ex_then_n ?_
          by_cases hc_42 : (bt (rdOf ByteArray.empty t_2 x_17) x_29) > 57
          ·
            rw [if_pos hc_42] at h
            refine sx_then (decide ((bt (rdOf ByteArray.empty t_2 x_17) x_29) > 57)) (by rfl) (decide_eq_true hc_42) ?_
            refine wp_seq ?_
            refine sx_region ?_
            refine sx_rd 47 (.agg #[.int .i64 0, .int .i64 0, .slice none 0 0]) (by rfl) (by kernel_rfl) ?_
            refine sx_store (t := 50) (p := (.tmp 2)) (x := (.tmp 47)) (by rfl) (by rfl) 3 (by rfl) 0 [.int .i64 0, .int .i64 0, .slice none 0 0] (by rfl) (by rfl) (by kernel_rfl) (by simp [Value.oneCell']) (by show 3 ≤ 3; omega) #[.int .i64 0, .int .i64 0, .slice none 0 0] (by rfl) hp ?_
            intro W_43 hp; simp only [List.set_cons_succ, List.set_cons_zero] at hp
            refine sx_rd 3 (.bool false) (by rfl) (by kernel_rfl) ?_
            refine sx_nil ?_
            refine ex_then_n ?_
            refine wp_ret ?_
            refine ex_then_r (ex_blk_r (ex_then_r (ex_then_r (ex_blk_r (ex_blk_r (ex_then_r (ex_then_r (ex_blk_r (ex_then_r ?_)))))))))
            refine sx_end (.tuple #[.agg #[.int .i64 0, .int .i64 0, .slice none 0 0], .bool false]) (rescT (p := 2) (u := 3) (by rfl) (by rfl) (by kernel_rfl) (by kernel_rfl) (hp.at_ 3 _ (by rfl))) ?_
            simp only [Option.some.injEq, Prod.mk.injEq] at h; obtain ⟨rfl, rfl, rfl, rfl⟩ := h
            exact ⟨_, rfl, Kd.R_nil _ _ _ _ _, hc2 _ (hp.tail.tail.tail.tail)⟩
          ·
            rw [if_neg hc_42] at h
            by_cases hc_44 : x_30.length < 17592186044416
            case neg => rw [if_neg hc_44] at h; cases h
            rw [if_pos hc_44] at h
            refine sx_else (decide ((bt (rdOf ByteArray.empty t_2 x_17) x_29) > 57)) (by rfl) (decide_eq_false hc_42) ?_
            refine wp_skip ?_
            refine ex_then_n ?_
            refine sx_drawT [0, 2, 3, 4, 5, 6] (.rd 1 (.alt 7 (.fin) .non)) 8 (C := Hp w (row (Kd.int .i64) 3 w.heap.size (.slice A_32 x_30.length c_34) x_30 F_35 :: blk g_14 #[.int .i64 ((rdOf ByteArray.empty t_2 0).size : Int), .int .i64 (t_2.length : Int), .slice A_32 x_30.length c_34] 50 :: row Kd.string 9 w.heap.size (.slice A_8 t_2.length c_9) t_2 F_10 :: blk g_4 #[.int .i64 0, .int .i64 0, .slice none 0 0] 50 :: cs)) (by kernel_rfl) (by kernel_rfl) (fun d _ _ _ _ h => by cases d <;> exact h) (fun W h => h.drew) hp ?_
            refine preI_read rfl ?_
            refine sxq_val 48 (.pointer (some ⟨g_14, 2, none⟩)) (by rfl) (fun W _ => (by kernel_rfl)) ?_
            refine sxq_nil ?_
            refine preI_read rfl ?_
            refine sxq_val 50 (.string (rdOf ByteArray.empty t_2 x_17)) (by rfl) (fun W _ => (by kernel_rfl)) ?_
            refine sxq_nil ?_
            refine preI_read rfl ?_
            refine sxq_val 51 (.int .i64 x_29) (by rfl) (fun W _ => (by kernel_rfl)) ?_
            refine sxq_nil ?_
            refine preI_read rfl ?_
            refine sxq_val 52 (.int .u8 (bt (rdOf ByteArray.empty t_2 x_17) x_29)) (by rfl) (fun W _ => (stri_run (by rfl) (by rfl) (by rfl) Tryd.underlying9 (by omega) (by omega))) ?_
            refine sxq_nil ?_
            refine preI_read rfl ?_
            refine sxq_val 53 (.int .u8 (((bt (rdOf ByteArray.empty t_2 x_17) x_29) - 48) % 256)) (by rfl) (fun W _ => (u8_w (by kernel_rfl))) ?_
            refine sxq_nil ?_
            refine preI_read rfl ?_
            refine sxq_val 54 (.int .i64 (((bt (rdOf ByteArray.empty t_2 x_17) x_29) - 48) % 256)) (by rfl) (fun W _ => (wr_ok (by omega) (cvt_run (by rfl) (by rfl) Tryd.underlying5 Tryd.underlying3))) ?_
            refine sxq_nil ?_
            refine preI_nil ?_
            intro W_45 hp
            refine treeI_rd rfl ?_
            refine sxq_val 49 (.slice A_32 x_30.length c_34) (by rfl) (fun W hp => (ld1 (t := 48) (p := (.tmp 48)) (by rfl) (by rfl) (by kernel_rfl) (hp.cell 1 (by rfl) 2 _ (by rfl)))) ?_
            refine sxq_nil ?_
            refine treeI_ev rfl ?_
            refine sx_lit 55 (by rfl) (Kd.int .i64) w.heap.size 3 ([(((bt (rdOf ByteArray.empty t_2 x_17) x_29) - 48) % 256)]) [.int .i64 (((bt (rdOf ByteArray.empty t_2 x_17) x_29) - 48) % 256)] (fun W => by kernel_rfl) (Reps.snoc (cs := []) (Reps.none _ _) rfl rfl) (by simp) hp.size hp ?_
            intro g_46 F_47 W_48 hp hz; clear hz
            refine step_fin hp.tail ?_
            refine treeI_fin ?_
            refine tail_of [8, 9, 10] (by rfl) ?_
            refine tailI_op rfl ?_
            refine sx_append 56 (by rfl) (Kd.int .i64) 1 (by rfl) (.int .i64 0) 8 (by rfl) Tryd.underlying48 (by kernel_rfl) rfl (by decide) (by decide) ([(((bt (rdOf ByteArray.empty t_2 x_17) x_29) - 48) % 256)]) (by rfl) (by rfl) (row_C (hp.at_ 0 _ (by rfl))) (fun x cs h => h) hp.size (by first | omega | (simp; omega)) hp ?_
            intro A_49 c_50 F_51 W_52 hp hz; clear hz; simp only [List.set_cons_succ, List.set_cons_zero] at hp
            refine tailI_next ?_
            refine tailI_op rfl ?_
            refine sx_rd 57 (.pointer (some ⟨g_14, 2, none⟩)) (by rfl) (by kernel_rfl) ?_
            refine tailI_next ?_
            refine tailI_op rfl ?_
            refine sx_store (t := 48) (p := (.tmp 57)) (x := (.tmp 56)) (by rfl) (by rfl) 2 (by rfl) 2 [.slice A_49 ((x_30 ++ [(((bt (rdOf ByteArray.empty t_2 x_17) x_29) - 48) % 256)]).length) c_50] (by rfl) (by rfl) (by kernel_rfl) (by simp [Value.oneCell']) (by show 3 ≤ 3; omega) #[.int .i64 ((rdOf ByteArray.empty t_2 0).size : Int), .int .i64 (t_2.length : Int), .slice A_49 ((x_30 ++ [(((bt (rdOf ByteArray.empty t_2 x_17) x_29) - 48) % 256)]).length) c_50] (by rfl) hp ?_
            intro W_53 hp; simp only [List.set_cons_succ, List.set_cons_zero] at hp
            refine tailI_next ?_
            refine tailI_nil ?_
            refine ex_blk_n ?_
            refine ex_then_n ?_
            refine sx_region ?_
            refine sx_rd 35 (.int .i64 x_29) (by rfl) (by kernel_rfl) ?_
            refine sx_rd 36 (.int .i64 (wrap64 (x_29 + 1))) (by rfl) (wr_w (by kernel_rfl)) ?_
            refine sx_rd 9 (.int .i64 (wrap64 (x_29 + 1))) (by rfl) (by kernel_rfl) ?_
            refine sx_nil ?_
            refine ex_then_n ?_
            exact ⟨_, (by omega), _, k_31, (wrap64 (x_29 + 1)), (x_30 ++ [((bt (rdOf ByteArray.empty t_2 x_17) x_29) - 48) % 256]), _, _, _, _, rfl, fr_front [(2, .pointer (some ⟨g_4, 0, none⟩)), (6, .pointer (some ⟨g_14, 0, none⟩)), (8, .string (rdOf ByteArray.empty t_2 x_17)), (9, .int .i64 (wrap64 (x_29 + 1))), (25, .slice A_8 t_2.length c_9), (26, .int .i64 (t_2.length : Int)), (27, .int .i64 x_17)] ⟨rfl, rfl, rfl, rfl, rfl, rfl, rfl, trivial⟩, (hp.take [1, 2, 3, 4] 5 (by decide) (by simp)), h, (by omega)⟩
      ·
        rw [if_neg hc_38] at h
        refine sx_else (decide (x_29 < ((rdOf ByteArray.empty t_2 x_17).size : Int))) (by rfl) (decide_eq_false hc_38) ?_
        refine wp_exit ?_
        refine ex_then_e (ex_then_e (ex_blk_here ?_))
        refine ex_blk_n ?_
        refine ex_then_n ?_
        refine sx_region ?_
        refine sx_rd 58 (.int .i64 (wrap64 (x_17 + 1))) (by rfl) (wr_w (by kernel_rfl)) ?_
        refine sx_rd 27 (.int .i64 (wrap64 (x_17 + 1))) (by rfl) (by kernel_rfl) ?_
        refine sx_nil ?_
        refine ex_then_n ?_
        exact ⟨_, (by omega), _, k_31, (wrap64 (x_17 + 1)), x_30, _, _, _, _, rfl, fr_front [(2, .pointer (some ⟨g_4, 0, none⟩)), (6, .pointer (some ⟨g_14, 0, none⟩)), (25, .slice A_8 t_2.length c_9), (26, .int .i64 (t_2.length : Int)), (27, .int .i64 (wrap64 (x_17 + 1)))] ⟨rfl, rfl, rfl, rfl, rfl, trivial⟩, (hp.take [0, 1, 2, 3] 4 (by decide) (by simp)), h, (by omega)⟩
    ·
      rw [if_neg hc_26] at h
      refine sx_else (decide (x_17 < (t_2.length : Int))) (by rfl) (decide_eq_false hc_26) ?_
      refine wp_exit ?_
      refine ex_then_e (ex_then_e (ex_blk_here ?_))
      refine ex_then_n ?_
      refine wp_seq ?_
      refine sx_region ?_
      refine sx_rd 59 (.agg #[.int .i64 ((rdOf ByteArray.empty t_2 0).size : Int), .int .i64 (t_2.length : Int), .slice A_20 x_18.length c_22]) (by rfl) (ldn (t := 50) (p := (.tmp 6)) (by rfl) (by rfl) (by kernel_rfl) (by kernel_rfl) (by kernel_rfl) (hp.at_ 1 _ (by rfl))) ?_
      refine sx_store (t := 50) (p := (.tmp 2)) (x := (.tmp 59)) (by rfl) (by rfl) 3 (by rfl) 0 [.int .i64 ((rdOf ByteArray.empty t_2 0).size : Int), .int .i64 (t_2.length : Int), .slice A_20 x_18.length c_22] (by rfl) (by rfl) (by kernel_rfl) (by simp [Value.oneCell']) (by show 3 ≤ 3; omega) #[.int .i64 ((rdOf ByteArray.empty t_2 0).size : Int), .int .i64 (t_2.length : Int), .slice A_20 x_18.length c_22] (by rfl) hp ?_
      intro W_54 hp; simp only [List.set_cons_succ, List.set_cons_zero] at hp
      refine sx_rd 3 (.bool true) (by rfl) (by kernel_rfl) ?_
      refine sx_nil ?_
      refine ex_then_n ?_
      refine wp_ret ?_
      refine sx_end (.tuple #[.agg #[.int .i64 ((rdOf ByteArray.empty t_2 0).size : Int), .int .i64 (t_2.length : Int), .slice A_20 x_18.length c_22], .bool true]) (rescT (p := 2) (u := 3) (by rfl) (by rfl) (by kernel_rfl) (by kernel_rfl) (hp.at_ 3 _ (by rfl))) ?_
      simp only [Option.some.injEq, Prod.mk.injEq] at h; obtain ⟨rfl, rfl, rfl, rfl⟩ := h
      exact ⟨_, rfl, Kd.R_mono (row_R (hp.at_ 0 _ (by rfl))) (fun _ _ => trivial), hc2 _ (hp.tail.tail.tail.tail)⟩
  ·
    rw [if_neg hc_12] at h
    refine sx_then (!t_3) (by rfl) (show (!t_3) = true from by rw [(Bool.eq_false_iff.mpr hc_12)]; rfl) ?_
    refine wp_seq ?_
    refine sx_region ?_
    refine sx_rd 17 (.agg #[.int .i64 0, .int .i64 0, .slice none 0 0]) (by rfl) (by kernel_rfl) ?_
    refine sx_store (t := 50) (p := (.tmp 2)) (x := (.tmp 17)) (by rfl) (by rfl) 1 (by rfl) 0 [.int .i64 0, .int .i64 0, .slice none 0 0] (by rfl) (by rfl) (by kernel_rfl) (by simp [Value.oneCell']) (by show 3 ≤ 3; omega) #[.int .i64 0, .int .i64 0, .slice none 0 0] (by rfl) hp ?_
    intro W_55 hp; simp only [List.set_cons_succ, List.set_cons_zero] at hp
    refine sx_rd 3 (.bool false) (by rfl) (by kernel_rfl) ?_
    refine sx_nil ?_
    refine ex_then_n ?_
    refine wp_ret ?_
    refine ex_then_r ?_
    refine sx_end (.tuple #[.agg #[.int .i64 0, .int .i64 0, .slice none 0 0], .bool false]) (rescT (p := 2) (u := 3) (by rfl) (by rfl) (by kernel_rfl) (by kernel_rfl) (hp.at_ 1 _ (by rfl))) ?_
    simp only [Option.some.injEq, Prod.mk.injEq] at h; obtain ⟨rfl, rfl, rfl, rfl⟩ := h
    exact ⟨_, rfl, Kd.R_nil _ _ _ _ _, hc2 _ (hp.tail.tail)⟩
end
section
open Go.RowKit Go.Proofs.YtjhbnkplpaffoaaDoorW.PrintWords Go.Proofs.YtjhbnkplpaffoaaDoorW.PrintLast Go.Proofs.YtjhbnkplpaffoaaDoorW.PrintMore
attribute [local go_sem] max2_int min2_int max_two min_two max_three min_three max_four min_four   -- for this text's walks alone
set_option linter.unusedVariables false
set_option linter.unusedSimpArgs false

end
section
open Go.RowKit Go.Proofs.YtjhbnkplpaffoaaDoorW.PrintWords Go.Proofs.YtjhbnkplpaffoaaDoorW.PrintLast Go.Proofs.YtjhbnkplpaffoaaDoorW.PrintMore
attribute [local go_sem] max2_int min2_int max_two min_two max_three min_three max_four min_four   -- for this text's walks alone
set_option linter.unusedVariables false
set_option linter.unusedSimpArgs false

def impl_isForm.l0 : Nat → ByteArray → List ByteArray → List ByteArray → Int → Int → Option (Bool)
  | 0, _, _, _, _, _ => none
  | k + 1, x1, x5, x11, x12, x13 => if x13 < x12 then (if 0 ≤ x13 then (if x13 < (x11.length : Int) then (if 0 < (x5.length : Int) then (if ((rdOf ByteArray.empty x11 x13).size : Int) = ((rdOf ByteArray.empty x5 0).size : Int) then (if ((rdOf ByteArray.empty x11 x13).size : Int) = 0 then (some false) else ((strings_Trim.f (rdOf ByteArray.empty x11 x13) x1).bind fun t139 => (if t139.toList = ([] : List UInt8) then (impl_isForm.l0 k x1 x5 x11 x12 (wrap64 (x13 + 1))) else (some false)))) else (some false)) else (none)) else (none)) else (none)) else (if 0 < (x5.length : Int) then (if (wrap64 ((x5.length : Int) * ((rdOf ByteArray.empty x5 0).size : Int))) ≤ 30 then (some ((Int.tmod (wrap64 ((x5.length : Int) * ((rdOf ByteArray.empty x5 0).size : Int))) 2) == 0)) else (some false)) else (none))
def impl_isForm.f (k : Nat) (a0 : ByteArray) (a1 : ByteArray) : Option (Bool) := (strings_Split.f a0 (⟨#[47]⟩ : ByteArray)).bind fun t134 => (impl_isForm.l0 k a1 t134 t134 (t134.length : Int) 0)
set_option maxRecDepth 100000 in
set_option maxHeartbeats 40000000 in
theorem impl_isForm.calls (k : Nat) (a0 : ByteArray) (a1 : ByteArray) (r : Bool) (w : World) (hmx : ∃ m, w.cell? ⟨0, 0, none⟩ = some (.int .i64 m)) (h : impl_isForm.f k a0 a1 = some r) :
    Calls Tryd.prog 35 #[.string a0, .string a1] w fun e w' => e = .returned (.bool r) ∧ Below w.heap.size w w' := by
  obtain ⟨cs, hcs⟩ : ∃ cs, cs = [old w w.heap.size] := ⟨_, rfl⟩
  have hp : Hp w cs w := by rw [hcs]; exact Hp.old_start w
  have hc2 : ∀ W, Hp w cs W → Below w.heap.size w W := fun W h => by rw [hcs] at h; exact h.since 0 _ rfl
  have hM : ∀ W, Hp w cs W → ∃ m, W.cell? ⟨0, 0, none⟩ = some (.int .i64 m) := fun W h => hmx.imp fun m q => ((hc2 W h).cell (World.block_lt_of_cell? _ _ q)).trans q
  clear hcs
  unfold impl_isForm.f at h
  obtain ⟨t_2, hv_1, h⟩ := Option.bind_eq_some_iff.mp h
  try dsimp only at h
  refine sx_enter (N := 50) (l := [.string a0, .string a1]) Tryd.func35 rfl rfl rfl ?_
  refine wp_seq ?_
  refine sx_region ?_
  refine sx_rd 4 (.bool false) (by rfl) (by kernel_rfl) ?_
  refine sx_nil ?_
  refine ex_then_n ?_
  refine wp_seq ?_
  refine sx_region ?_
  refine sx_rd 9 (.string a0) (by rfl) (by kernel_rfl) ?_
  refine sx_call 10 (by rfl) (by kernel_rfl) ((strings_Split.calls a0 (⟨#[47]⟩ : ByteArray) _ _ (hM _ (hp)) hv_1).mono ?_)
  rintro _ W_8 ⟨v_4, rfl, hR_3, hb⟩
  refine ⟨_, rfl, ?_⟩
  obtain ⟨A_5, c_6, rfl, hcc_c_6, _⟩ := Kd.R_reads hR_3
  obtain ⟨F_7, hp⟩ : ∃ F, Hp w (row Kd.string 9 w.heap.size (.slice A_5 t_2.length c_6) t_2 F :: cs) _ := ⟨_, Hp.made hp hb hR_3⟩
  refine sx_rd 5 (.slice A_5 t_2.length c_6) (by rfl) (by kernel_rfl) ?_
  refine sx_nil ?_
  refine ex_then_n ?_
  refine wp_seq ?_
  refine wp_seq ?_
  refine sx_region ?_
  refine sx_rd 11 (.slice A_5 t_2.length c_6) (by rfl) (by kernel_rfl) ?_
  refine sx_rd 12 (.int .i64 (t_2.length : Int)) (by rfl) (by kernel_rfl) ?_
  refine sx_rd 13 (.int .i64 0) (by rfl) (by kernel_rfl) ?_
  refine sx_nil ?_
  refine ex_then_n ?_
  refine wp_block ?_
  refine wp_loop_ghost (fun n_ a_ W => ∃ (r_ : List (Nat × Value)) (k_10 : Nat) (x_9 : Int)  , n_ = k_10 + 1 ∧ a_ = fr 50 ([(1, .string a1), (5, .slice A_5 t_2.length c_6), (11, .slice A_5 t_2.length c_6), (12, .int .i64 (t_2.length : Int)), (13, .int .i64 x_9)] ++ r_) ∧ Hp w (row Kd.string 9 w.heap.size (.slice A_5 t_2.length c_6) t_2 F_7 :: cs) W ∧ (impl_isForm.l0 k_10 a1 t_2 t_2 (t_2.length : Int) x_9 = some r) ∧ (k_10 ≤ k)) _ ⟨_, k, 0, rfl, fr_front [(1, .string a1), (5, .slice A_5 t_2.length c_6), (11, .slice A_5 t_2.length c_6), (12, .int .i64 (t_2.length : Int)), (13, .int .i64 0)] ⟨rfl, rfl, rfl, rfl, rfl, trivial⟩, (hp.take [0] 1 (by decide) (by simp)), h, (Nat.le_refl _)⟩ ?_
  rintro _ _ W_12 ⟨r_, k_10, x_9, rfl, rfl, hp, h, hk_11⟩
  rcases k_10 with _ | k_10
  · simp [impl_isForm.l0] at h
  simp only [impl_isForm.l0] at h
  refine wp_seq ?_
  refine sx_region ?_
  refine sx_rd 14 (.bool (decide (x_9 < (t_2.length : Int)))) (by rfl) (by kernel_rfl) ?_
  refine sx_nil ?_
  refine ex_then_n ?_
  refine wp_seq ?_
  by_cases hc_13 : x_9 < (t_2.length : Int)
  ·
    rw [if_pos hc_13] at h
    by_cases hc_14 : 0 ≤ x_9
    case neg => rw [if_neg hc_14] at h; cases h
    rw [if_pos hc_14] at h
    by_cases hc_15 : x_9 < (t_2.length : Int)
    case neg => rw [if_neg hc_15] at h; cases h
    rw [if_pos hc_15] at h
    by_cases hc_16 : 0 < (t_2.length : Int)
    case neg => rw [if_neg hc_16] at h; cases h
    rw [if_pos hc_16] at h
    refine sx_then (decide (x_9 < (t_2.length : Int))) (by rfl) (decide_eq_true hc_13) ?_
    refine wp_skip ?_
    refine ex_then_n ?_
    refine wp_seq ?_
    refine wp_block ?_
    refine wp_seq ?_
    refine sx_region ?_
    refine sx_rd 15 (.pointer (some (adr A_5 x_9 1))) (by rfl) (ix_run (d := Kd.string) (row_C (hp.at_ 0 _ (by rfl))) (t := 59) (by rfl) (by rfl) (by rfl) Tryd.underlying59 (by kernel_rfl) (by omega) (by omega)) ?_
    refine sx_rd 16 (.string (rdOf ByteArray.empty t_2 x_9)) (by rfl) (ld1 (t := 9) (p := (.tmp 15)) (by rfl) (by rfl) (by kernel_rfl) (el_cell (d := Kd.string) (row_C (hp.at_ 0 _ (by rfl))) ByteArray.empty x_9 (by omega) (by omega) (cells := [.string (rdOf ByteArray.empty t_2 x_9)]) (fun cs h => h) 0 _ (by rfl))) ?_
    refine sx_rd 7 (.string (rdOf ByteArray.empty t_2 x_9)) (by rfl) (by kernel_rfl) ?_
    refine sx_nil ?_
    refine ex_then_n ?_
    refine wp_seq ?_
    by_cases hc_17 : ((rdOf ByteArray.empty t_2 x_9).size : Int) = ((rdOf ByteArray.empty t_2 0).size : Int)
    ·
      rw [if_pos hc_17] at h
      by_cases hc_18 : ((rdOf ByteArray.empty t_2 x_9).size : Int) = 0
      ·
        rw [if_pos hc_18] at h
        refine sx_region ?_
        refine sx_rd 17 (.string (rdOf ByteArray.empty t_2 x_9)) (by rfl) (by kernel_rfl) ?_
        refine sx_rd 18 (.int .i64 ((rdOf ByteArray.empty t_2 x_9).size : Int)) (by rfl) (by kernel_rfl) ?_
        refine sx_rd 19 (.slice A_5 t_2.length c_6) (by rfl) (by kernel_rfl) ?_
        refine sx_rd 20 (.pointer (some (adr A_5 0 1))) (by rfl) (ix_run (d := Kd.string) (row_C (hp.at_ 0 _ (by rfl))) (t := 59) (by rfl) (by rfl) (by rfl) Tryd.underlying59 (by kernel_rfl) (by omega) (by omega)) ?_
        refine sx_rd 21 (.string (rdOf ByteArray.empty t_2 0)) (by rfl) (ld1 (t := 9) (p := (.tmp 20)) (by rfl) (by rfl) (by kernel_rfl) (el_cell (d := Kd.string) (row_C (hp.at_ 0 _ (by rfl))) ByteArray.empty 0 (by omega) (by omega) (cells := [.string (rdOf ByteArray.empty t_2 0)]) (fun cs h => h) 0 _ (by rfl))) ?_
        refine sx_rd 22 (.int .i64 ((rdOf ByteArray.empty t_2 0).size : Int)) (by rfl) (by kernel_rfl) ?_
        refine sx_rd 23 (.bool false) (by rfl) (bv (bne_eq_false_iff_eq.mpr hc_17) (by kernel_rfl)) ?_
        refine sx_rd 24 (.bool false) (by rfl) (by kernel_rfl) ?_
        refine sx_want (by rfl) ?_
        refine sx_rd 25 (.string (rdOf ByteArray.empty t_2 x_9)) (by rfl) (by kernel_rfl) ?_
        refine sx_want (by rfl) ?_
        refine sx_rd 26 (.int .i64 ((rdOf ByteArray.empty t_2 x_9).size : Int)) (by rfl) (by kernel_rfl) ?_
        refine sx_want (by rfl) ?_
        refine sx_rd 27 (.bool true) (by rfl) (bv (beq_iff_eq.mpr hc_18) (by kernel_rfl)) ?_
        refine sx_rd 28 (.bool true) (by rfl) (by kernel_rfl) ?_
        refine sx_rd 29 (.bool true) (by rfl) (by kernel_rfl) ?_
        refine sx_skip 30 (by rfl) (by rfl) (by rfl) ?_
        refine sx_skip 31 (by rfl) (by rfl) (by rfl) ?_
        refine sx_skip 32 (by rfl) (by rfl) (by rfl) ?_
        refine sx_skip 33 (by rfl) (by rfl) (by rfl) ?_
        refine sx_rd 34 (.bool true) (by rfl) (by kernel_rfl) ?_
        refine sx_nil ?_
        refine ex_then_n ?_
        refine sx_then true (by rfl) rfl ?_
        refine wp_seq ?_
        refine sx_region ?_
        refine sx_rd 4 (.bool false) (by rfl) (by kernel_rfl) ?_
        refine sx_nil ?_
        refine ex_then_n ?_
        refine wp_ret ?_
        refine ex_blk_r (ex_then_r (ex_then_r (ex_blk_r (ex_then_r ?_))))
        refine sx_end (.bool false) (res1 4 (by rfl)) ?_
        obtain rfl := Option.some.inj h
        exact ⟨rfl, hc2 _ (hp.tail)⟩
      ·
        rw [if_neg hc_18] at h
        obtain ⟨t_20, hv_19, h⟩ := Option.bind_eq_some_iff.mp h
        try dsimp only at h
        refine sx_region ?_
        refine sx_rd 17 (.string (rdOf ByteArray.empty t_2 x_9)) (by rfl) (by kernel_rfl) ?_
        refine sx_rd 18 (.int .i64 ((rdOf ByteArray.empty t_2 x_9).size : Int)) (by rfl) (by kernel_rfl) ?_
        refine sx_rd 19 (.slice A_5 t_2.length c_6) (by rfl) (by kernel_rfl) ?_
        refine sx_rd 20 (.pointer (some (adr A_5 0 1))) (by rfl) (ix_run (d := Kd.string) (row_C (hp.at_ 0 _ (by rfl))) (t := 59) (by rfl) (by rfl) (by rfl) Tryd.underlying59 (by kernel_rfl) (by omega) (by omega)) ?_
        refine sx_rd 21 (.string (rdOf ByteArray.empty t_2 0)) (by rfl) (ld1 (t := 9) (p := (.tmp 20)) (by rfl) (by rfl) (by kernel_rfl) (el_cell (d := Kd.string) (row_C (hp.at_ 0 _ (by rfl))) ByteArray.empty 0 (by omega) (by omega) (cells := [.string (rdOf ByteArray.empty t_2 0)]) (fun cs h => h) 0 _ (by rfl))) ?_
        refine sx_rd 22 (.int .i64 ((rdOf ByteArray.empty t_2 0).size : Int)) (by rfl) (by kernel_rfl) ?_
        refine sx_rd 23 (.bool false) (by rfl) (bv (bne_eq_false_iff_eq.mpr hc_17) (by kernel_rfl)) ?_
        refine sx_rd 24 (.bool false) (by rfl) (by kernel_rfl) ?_
        refine sx_want (by rfl) ?_
        refine sx_rd 25 (.string (rdOf ByteArray.empty t_2 x_9)) (by rfl) (by kernel_rfl) ?_
        refine sx_want (by rfl) ?_
        refine sx_rd 26 (.int .i64 ((rdOf ByteArray.empty t_2 x_9).size : Int)) (by rfl) (by kernel_rfl) ?_
        refine sx_want (by rfl) ?_
        refine sx_rd 27 (.bool false) (by rfl) (bv (beq_eq_false_iff_ne.mpr hc_18) (by kernel_rfl)) ?_
        refine sx_rd 28 (.bool false) (by rfl) (by kernel_rfl) ?_
        refine sx_rd 29 (.bool false) (by rfl) (by kernel_rfl) ?_
        refine sx_want (by rfl) ?_
        refine sx_rd 30 (.string (rdOf ByteArray.empty t_2 x_9)) (by rfl) (by kernel_rfl) ?_
        refine sx_want (by rfl) ?_
        refine sx_rd 31 (.string a1) (by rfl) (by kernel_rfl) ?_
        refine sx_want (by rfl) ?_
        refine sx_call 32 (by rfl) (by kernel_rfl) ((strings_Trim.calls (rdOf ByteArray.empty t_2 x_9) a1 _ _ hv_19).mono ?_)
        rintro _ W_21 ⟨rfl, hb⟩
        refine ⟨_, rfl, ?_⟩
        replace hp := hp.below hb
        clear hb
        refine sx_want (by rfl) ?_
        refine sx_rd 33 (.bool (t_20.toList != (⟨#[]⟩ : ByteArray).toList)) (by rfl) (by kernel_rfl) ?_
        refine sx_rd 34 (.bool (t_20.toList != (⟨#[]⟩ : ByteArray).toList)) (by rfl) (by kernel_rfl) ?_
        refine sx_nil ?_
        refine ex_then_n ?_
        by_cases hc_22 : t_20.toList = ([] : List UInt8)
        ·
          rw [if_pos hc_22] at h
          refine sx_else (t_20.toList != (⟨#[]⟩ : ByteArray).toList) (by rfl) (show (t_20.toList != (⟨#[]⟩ : ByteArray).toList) = false from by rw [hc_22, tnil]; rfl) ?_
          refine wp_skip ?_
          refine ex_blk_n ?_
          refine ex_then_n ?_
          refine sx_region ?_
          refine sx_rd 35 (.int .i64 (wrap64 (x_9 + 1))) (by rfl) (wr_w (by kernel_rfl)) ?_
          refine sx_rd 13 (.int .i64 (wrap64 (x_9 + 1))) (by rfl) (by kernel_rfl) ?_
          refine sx_nil ?_
          refine ex_then_n ?_
          exact ⟨_, (by omega), _, k_10, (wrap64 (x_9 + 1)), rfl, fr_front [(1, .string a1), (5, .slice A_5 t_2.length c_6), (11, .slice A_5 t_2.length c_6), (12, .int .i64 (t_2.length : Int)), (13, .int .i64 (wrap64 (x_9 + 1)))] ⟨rfl, rfl, rfl, rfl, rfl, trivial⟩, (hp.take [0] 1 (by decide) (by simp)), h, (by omega)⟩
        ·
          rw [if_neg hc_22] at h
          refine sx_then (t_20.toList != (⟨#[]⟩ : ByteArray).toList) (by rfl) (show (t_20.toList != (⟨#[]⟩ : ByteArray).toList) = true from by exact bne_iff_ne.mpr (by rw [tnil]; exact hc_22)) ?_
          refine wp_seq ?_
          refine sx_region ?_
          refine sx_rd 4 (.bool false) (by rfl) (by kernel_rfl) ?_
          refine sx_nil ?_
          refine ex_then_n ?_
          refine wp_ret ?_
          refine ex_blk_r (ex_then_r (ex_then_r (ex_blk_r (ex_then_r ?_))))
          refine sx_end (.bool false) (res1 4 (by rfl)) ?_
          obtain rfl := Option.some.inj h
          exact ⟨rfl, hc2 _ (hp.tail)⟩
    ·
      rw [if_neg hc_17] at h
      refine sx_region ?_
      refine sx_rd 17 (.string (rdOf ByteArray.empty t_2 x_9)) (by rfl) (by kernel_rfl) ?_
      refine sx_rd 18 (.int .i64 ((rdOf ByteArray.empty t_2 x_9).size : Int)) (by rfl) (by kernel_rfl) ?_
      refine sx_rd 19 (.slice A_5 t_2.length c_6) (by rfl) (by kernel_rfl) ?_
      refine sx_rd 20 (.pointer (some (adr A_5 0 1))) (by rfl) (ix_run (d := Kd.string) (row_C (hp.at_ 0 _ (by rfl))) (t := 59) (by rfl) (by rfl) (by rfl) Tryd.underlying59 (by kernel_rfl) (by omega) (by omega)) ?_
      refine sx_rd 21 (.string (rdOf ByteArray.empty t_2 0)) (by rfl) (ld1 (t := 9) (p := (.tmp 20)) (by rfl) (by rfl) (by kernel_rfl) (el_cell (d := Kd.string) (row_C (hp.at_ 0 _ (by rfl))) ByteArray.empty 0 (by omega) (by omega) (cells := [.string (rdOf ByteArray.empty t_2 0)]) (fun cs h => h) 0 _ (by rfl))) ?_
      refine sx_rd 22 (.int .i64 ((rdOf ByteArray.empty t_2 0).size : Int)) (by rfl) (by kernel_rfl) ?_
      refine sx_rd 23 (.bool true) (by rfl) (bv (bne_iff_ne.mpr hc_17) (by kernel_rfl)) ?_
      refine sx_rd 24 (.bool true) (by rfl) (by kernel_rfl) ?_
      refine sx_skip 25 (by rfl) (by rfl) (by rfl) ?_
      refine sx_skip 26 (by rfl) (by rfl) (by rfl) ?_
      refine sx_skip 27 (by rfl) (by rfl) (by rfl) ?_
      refine sx_rd 28 (.bool true) (by rfl) (by kernel_rfl) ?_
      refine sx_rd 29 (.bool true) (by rfl) (by kernel_rfl) ?_
      refine sx_skip 30 (by rfl) (by rfl) (by rfl) ?_
      refine sx_skip 31 (by rfl) (by rfl) (by rfl) ?_
      refine sx_skip 32 (by rfl) (by rfl) (by rfl) ?_
      refine sx_skip 33 (by rfl) (by rfl) (by rfl) ?_
      refine sx_rd 34 (.bool true) (by rfl) (by kernel_rfl) ?_
      refine sx_nil ?_
      refine ex_then_n ?_
      refine sx_then true (by rfl) rfl ?_
      refine wp_seq ?_
      refine sx_region ?_
      refine sx_rd 4 (.bool false) (by rfl) (by kernel_rfl) ?_
      refine sx_nil ?_
      refine ex_then_n ?_
      refine wp_ret ?_
      refine ex_blk_r (ex_then_r (ex_then_r (ex_blk_r (ex_then_r ?_))))
      refine sx_end (.bool false) (res1 4 (by rfl)) ?_
      obtain rfl := Option.some.inj h
      exact ⟨rfl, hc2 _ (hp.tail)⟩
  ·
    rw [if_neg hc_13] at h
    by_cases hc_23 : 0 < (t_2.length : Int)
    case neg => rw [if_neg hc_23] at h; cases h
    rw [if_pos hc_23] at h
    refine sx_else (decide (x_9 < (t_2.length : Int))) (by rfl) (decide_eq_false hc_13) ?_
    refine wp_exit ?_
    refine ex_then_e (ex_then_e (ex_blk_here ?_))
    refine ex_then_n ?_
    refine wp_seq ?_
    refine sx_region ?_
    refine sx_rd 36 (.slice A_5 t_2.length c_6) (by rfl) (by kernel_rfl) ?_
    refine sx_rd 37 (.int .i64 (t_2.length : Int)) (by rfl) (by kernel_rfl) ?_
    refine sx_rd 38 (.slice A_5 t_2.length c_6) (by rfl) (by kernel_rfl) ?_
    refine sx_rd 39 (.pointer (some (adr A_5 0 1))) (by rfl) (ix_run (d := Kd.string) (row_C (hp.at_ 0 _ (by rfl))) (t := 59) (by rfl) (by rfl) (by rfl) Tryd.underlying59 (by kernel_rfl) (by omega) (by omega)) ?_
    refine sx_rd 40 (.string (rdOf ByteArray.empty t_2 0)) (by rfl) (ld1 (t := 9) (p := (.tmp 39)) (by rfl) (by rfl) (by kernel_rfl) (el_cell (d := Kd.string) (row_C (hp.at_ 0 _ (by rfl))) ByteArray.empty 0 (by omega) (by omega) (cells := [.string (rdOf ByteArray.empty t_2 0)]) (fun cs h => h) 0 _ (by rfl))) ?_
    refine sx_rd 41 (.int .i64 ((rdOf ByteArray.empty t_2 0).size : Int)) (by rfl) (by kernel_rfl) ?_
    refine sx_rd 42 (.int .i64 (wrap64 ((t_2.length : Int) * ((rdOf ByteArray.empty t_2 0).size : Int)))) (by rfl) (wr_w (by kernel_rfl)) ?_
    refine sx_rd 8 (.int .i64 (wrap64 ((t_2.length : Int) * ((rdOf ByteArray.empty t_2 0).size : Int)))) (by rfl) (by kernel_rfl) ?_
    refine sx_nil ?_
    refine ex_then_n ?_
    refine wp_seq ?_
    by_cases hc_24 : (wrap64 ((t_2.length : Int) * ((rdOf ByteArray.empty t_2 0).size : Int))) ≤ 30
    ·
      rw [if_pos hc_24] at h
      refine sx_region ?_
      refine sx_rd 43 (.int .i64 (wrap64 ((t_2.length : Int) * ((rdOf ByteArray.empty t_2 0).size : Int)))) (by rfl) (by kernel_rfl) ?_
      refine sx_rd 44 (.bool true) (by rfl) (bv (decide_eq_true hc_24) (by kernel_rfl)) ?_
      refine sx_rd 45 (.bool true) (by rfl) (by kernel_rfl) ?_
      refine sx_want (by rfl) ?_
      refine sx_rd 46 (.int .i64 (wrap64 ((t_2.length : Int) * ((rdOf ByteArray.empty t_2 0).size : Int)))) (by rfl) (by kernel_rfl) ?_
      refine sx_want (by rfl) ?_
      refine sx_rd 47 (.int .i64 (Int.tmod (wrap64 ((t_2.length : Int) * ((rdOf ByteArray.empty t_2 0).size : Int))) 2)) (by rfl) (by kernel_rfl) ?_
      refine sx_want (by rfl) ?_
      refine sx_rd 48 (.bool ((Int.tmod (wrap64 ((t_2.length : Int) * ((rdOf ByteArray.empty t_2 0).size : Int))) 2) == 0)) (by rfl) (by kernel_rfl) ?_
      refine sx_rd 49 (.bool ((Int.tmod (wrap64 ((t_2.length : Int) * ((rdOf ByteArray.empty t_2 0).size : Int))) 2) == 0)) (by rfl) (by kernel_rfl) ?_
      refine sx_rd 4 (.bool ((Int.tmod (wrap64 ((t_2.length : Int) * ((rdOf ByteArray.empty t_2 0).size : Int))) 2) == 0)) (by rfl) (by kernel_rfl) ?_
      refine sx_nil ?_
      refine ex_then_n ?_
      refine wp_ret ?_
      refine sx_end (.bool ((Int.tmod (wrap64 ((t_2.length : Int) * ((rdOf ByteArray.empty t_2 0).size : Int))) 2) == 0)) (res1 4 (by rfl)) ?_
      obtain rfl := Option.some.inj h
      exact ⟨rfl, hc2 _ (hp.tail)⟩
    ·
      rw [if_neg hc_24] at h
      refine sx_region ?_
      refine sx_rd 43 (.int .i64 (wrap64 ((t_2.length : Int) * ((rdOf ByteArray.empty t_2 0).size : Int)))) (by rfl) (by kernel_rfl) ?_
      refine sx_rd 44 (.bool false) (by rfl) (bv (decide_eq_false hc_24) (by kernel_rfl)) ?_
      refine sx_rd 45 (.bool false) (by rfl) (by kernel_rfl) ?_
      refine sx_skip 46 (by rfl) (by rfl) (by rfl) ?_
      refine sx_skip 47 (by rfl) (by rfl) (by rfl) ?_
      refine sx_skip 48 (by rfl) (by rfl) (by rfl) ?_
      refine sx_rd 49 (.bool false) (by rfl) (by kernel_rfl) ?_
      refine sx_rd 4 (.bool false) (by rfl) (by kernel_rfl) ?_
      refine sx_nil ?_
      refine ex_then_n ?_
      refine wp_ret ?_
      refine sx_end (.bool false) (res1 4 (by rfl)) ?_
      obtain rfl := Option.some.inj h
      exact ⟨rfl, hc2 _ (hp.tail)⟩
end
section
open Go.RowKit Go.Proofs.YtjhbnkplpaffoaaDoorW.PrintWords Go.Proofs.YtjhbnkplpaffoaaDoorW.PrintLast Go.Proofs.YtjhbnkplpaffoaaDoorW.PrintMore
attribute [local go_sem] max2_int min2_int max_two min_two max_three min_three max_four min_four   -- for this text's walks alone
set_option linter.unusedVariables false
set_option linter.unusedSimpArgs false

def impl_IsTable.f (k : Nat) (a0 : ByteArray) : Option (Bool) := (impl_isForm.f k a0 (⟨#[48, 49, 50, 51, 52, 53, 54, 55, 56, 57]⟩ : ByteArray)).bind fun t141 => (some t141)
set_option maxRecDepth 100000 in
set_option maxHeartbeats 40000000 in
theorem impl_IsTable.calls (k : Nat) (a0 : ByteArray) (r : Bool) (w : World) (hmx : ∃ m, w.cell? ⟨0, 0, none⟩ = some (.int .i64 m)) (h : impl_IsTable.f k a0 = some r) :
    Calls Tryd.prog 12 #[.string a0] w fun e w' => e = .returned (.bool r) ∧ Below w.heap.size w w' := by
  obtain ⟨cs, hcs⟩ : ∃ cs, cs = [old w w.heap.size] := ⟨_, rfl⟩
  have hp : Hp w cs w := by rw [hcs]; exact Hp.old_start w
  have hc2 : ∀ W, Hp w cs W → Below w.heap.size w W := fun W h => by rw [hcs] at h; exact h.since 0 _ rfl
  have hM : ∀ W, Hp w cs W → ∃ m, W.cell? ⟨0, 0, none⟩ = some (.int .i64 m) := fun W h => hmx.imp fun m q => ((hc2 W h).cell (World.block_lt_of_cell? _ _ q)).trans q
  clear hcs
  unfold impl_IsTable.f at h
  obtain ⟨t_2, hv_1, h⟩ := Option.bind_eq_some_iff.mp h
  try dsimp only at h
  refine sx_enter (N := 5) (l := [.string a0]) Tryd.func12 rfl rfl rfl ?_
  refine wp_seq ?_
  refine sx_region ?_
  refine sx_rd 2 (.bool false) (by rfl) (by kernel_rfl) ?_
  refine sx_nil ?_
  refine ex_then_n ?_
  refine wp_seq ?_
  refine sx_region ?_
  refine sx_rd 3 (.string a0) (by rfl) (by kernel_rfl) ?_
  refine sx_call 4 (by rfl) (by kernel_rfl) ((impl_isForm.calls _ a0 (⟨#[48, 49, 50, 51, 52, 53, 54, 55, 56, 57]⟩ : ByteArray) _ _ (hM _ (hp)) hv_1).mono ?_)
  rintro _ W_3 ⟨rfl, hb⟩
  refine ⟨_, rfl, ?_⟩
  replace hp := hp.below hb
  clear hb
  refine sx_rd 2 (.bool t_2) (by rfl) (by kernel_rfl) ?_
  refine sx_nil ?_
  refine ex_then_n ?_
  refine wp_ret ?_
  refine sx_end (.bool t_2) (res1 2 (by rfl)) ?_
  obtain rfl := Option.some.inj h
  exact ⟨rfl, hc2 _ (hp)⟩
end
section
open Go.RowKit Go.Proofs.YtjhbnkplpaffoaaDoorW.PrintWords Go.Proofs.YtjhbnkplpaffoaaDoorW.PrintLast Go.Proofs.YtjhbnkplpaffoaaDoorW.PrintMore
attribute [local go_sem] max2_int min2_int max_two min_two max_three min_three max_four min_four   -- for this text's walks alone
set_option linter.unusedVariables false
set_option linter.unusedSimpArgs false

end
section
open Go.RowKit Go.Proofs.YtjhbnkplpaffoaaDoorW.PrintWords Go.Proofs.YtjhbnkplpaffoaaDoorW.PrintLast Go.Proofs.YtjhbnkplpaffoaaDoorW.PrintMore
attribute [local go_sem] max2_int min2_int max_two min_two max_three min_three max_four min_four   -- for this text's walks alone
set_option linter.unusedVariables false
set_option linter.unusedSimpArgs false

def impl_size.f (a0 : ByteArray) : Option (Int × Int) := (strings_Split.f a0 (⟨#[47]⟩ : ByteArray)).bind fun t151 => (if 0 < (t151.length : Int) then (some (((rdOf ByteArray.empty t151 0).size : Int), (t151.length : Int))) else (none))
set_option maxRecDepth 100000 in
set_option maxHeartbeats 40000000 in
theorem impl_size.calls (a0 : ByteArray) (r1 : Int) (r2 : Int) (w : World) (hmx : ∃ m, w.cell? ⟨0, 0, none⟩ = some (.int .i64 m)) (h : impl_size.f a0 = some (r1, r2)) :
    Calls Tryd.prog 36 #[.string a0] w fun e w' => e = .returned (.tuple #[.int .i64 r1, .int .i64 r2]) ∧ Below w.heap.size w w' := by
  obtain ⟨cs, hcs⟩ : ∃ cs, cs = [old w w.heap.size] := ⟨_, rfl⟩
  have hp : Hp w cs w := by rw [hcs]; exact Hp.old_start w
  have hc2 : ∀ W, Hp w cs W → Below w.heap.size w W := fun W h => by rw [hcs] at h; exact h.since 0 _ rfl
  have hM : ∀ W, Hp w cs W → ∃ m, W.cell? ⟨0, 0, none⟩ = some (.int .i64 m) := fun W h => hmx.imp fun m q => ((hc2 W h).cell (World.block_lt_of_cell? _ _ q)).trans q
  clear hcs
  unfold impl_size.f at h
  obtain ⟨t_2, hv_1, h⟩ := Option.bind_eq_some_iff.mp h
  try dsimp only at h
  by_cases hc_3 : 0 < (t_2.length : Int)
  case neg => rw [if_neg hc_3] at h; cases h
  rw [if_pos hc_3] at h
  refine sx_enter (N := 13) (l := [.string a0]) Tryd.func36 rfl rfl rfl ?_
  refine wp_seq ?_
  refine sx_region ?_
  refine sx_rd 2 (.int .i64 0) (by rfl) (by kernel_rfl) ?_
  refine sx_rd 3 (.int .i64 0) (by rfl) (by kernel_rfl) ?_
  refine sx_nil ?_
  refine ex_then_n ?_
  refine wp_seq ?_
  refine sx_region ?_
  refine sx_rd 5 (.string a0) (by rfl) (by kernel_rfl) ?_
  refine sx_call 6 (by rfl) (by kernel_rfl) ((strings_Split.calls a0 (⟨#[47]⟩ : ByteArray) _ _ (hM _ (hp)) hv_1).mono ?_)
  rintro _ W_9 ⟨v_5, rfl, hR_4, hb⟩
  refine ⟨_, rfl, ?_⟩
  obtain ⟨A_6, c_7, rfl, hcc_c_7, _⟩ := Kd.R_reads hR_4
  obtain ⟨F_8, hp⟩ : ∃ F, Hp w (row Kd.string 9 w.heap.size (.slice A_6 t_2.length c_7) t_2 F :: cs) _ := ⟨_, Hp.made hp hb hR_4⟩
  refine sx_rd 4 (.slice A_6 t_2.length c_7) (by rfl) (by kernel_rfl) ?_
  refine sx_nil ?_
  refine ex_then_n ?_
  refine wp_seq ?_
  refine sx_region ?_
  refine sx_rd 7 (.slice A_6 t_2.length c_7) (by rfl) (by kernel_rfl) ?_
  refine sx_rd 8 (.pointer (some (adr A_6 0 1))) (by rfl) (ix_run (d := Kd.string) (row_C (hp.at_ 0 _ (by rfl))) (t := 59) (by rfl) (by rfl) (by rfl) Tryd.underlying59 (by kernel_rfl) (by omega) (by omega)) ?_
  refine sx_rd 9 (.string (rdOf ByteArray.empty t_2 0)) (by rfl) (ld1 (t := 9) (p := (.tmp 8)) (by rfl) (by rfl) (by kernel_rfl) (el_cell (d := Kd.string) (row_C (hp.at_ 0 _ (by rfl))) ByteArray.empty 0 (by omega) (by omega) (cells := [.string (rdOf ByteArray.empty t_2 0)]) (fun cs h => h) 0 _ (by rfl))) ?_
  refine sx_rd 10 (.int .i64 ((rdOf ByteArray.empty t_2 0).size : Int)) (by rfl) (by kernel_rfl) ?_
  refine sx_rd 11 (.slice A_6 t_2.length c_7) (by rfl) (by kernel_rfl) ?_
  refine sx_rd 12 (.int .i64 (t_2.length : Int)) (by rfl) (by kernel_rfl) ?_
  refine sx_rd 2 (.int .i64 ((rdOf ByteArray.empty t_2 0).size : Int)) (by rfl) (by kernel_rfl) ?_
  refine sx_rd 3 (.int .i64 (t_2.length : Int)) (by rfl) (by kernel_rfl) ?_
  refine sx_nil ?_
  refine ex_then_n ?_
  refine wp_ret ?_
  refine sx_end (.tuple #[.int .i64 ((rdOf ByteArray.empty t_2 0).size : Int), .int .i64 (t_2.length : Int)]) (res2 2 3 (by rfl)) ?_
  simp only [Option.some.injEq, Prod.mk.injEq] at h; obtain ⟨rfl, rfl⟩ := h
  exact ⟨rfl, hc2 _ (hp.tail)⟩
end
section
open Go.RowKit Go.Proofs.YtjhbnkplpaffoaaDoorW.PrintWords Go.Proofs.YtjhbnkplpaffoaaDoorW.PrintLast Go.Proofs.YtjhbnkplpaffoaaDoorW.PrintMore
attribute [local go_sem] max2_int min2_int max_two min_two max_three min_three max_four min_four   -- for this text's walks alone
set_option linter.unusedVariables false
set_option linter.unusedSimpArgs false

end
section
open Go.RowKit Go.Proofs.YtjhbnkplpaffoaaDoorW.PrintWords Go.Proofs.YtjhbnkplpaffoaaDoorW.PrintLast Go.Proofs.YtjhbnkplpaffoaaDoorW.PrintMore
attribute [local go_sem] max2_int min2_int max_two min_two max_three min_three max_four min_four   -- for this text's walks alone
set_option linter.unusedVariables false
set_option linter.unusedSimpArgs false

def spec_IsLayout.f (k : Nat) (a0 : ByteArray) (a1 : ByteArray) : Option (Bool × Bool) := (spec_taRead.f k a0).bind fun bt259 => (if bt259.2.2.2 = true then ((spec_taLayout.f k bt259.1 bt259.2.1 bt259.2.2.1 a1).bind fun bt266 => (some (bt266.2, true))) else (some (false, false)))
set_option maxHeartbeats 8000000 in
set_option maxRecDepth 100000 in
theorem spec_IsLayout.calls (k : Nat) (a0 : ByteArray) (a1 : ByteArray) (r1 : Bool) (r2 : Bool) (w : World) (h : spec_IsLayout.f k a0 a1 = some (r1, r2)) :
    Calls Tryd.prog 21 #[.string a0, .string a1] w fun e w' => e = .returned (.tuple #[.bool r1, .bool r2]) ∧ Below w.heap.size w w' := by
  have hu50 := Tryd.underlying50
  have HB := Aside0.mk (Below.refl w.heap.size w)
  have H : ((spec_taRead.f k a0).bind fun bt259 => (if bt259.2.2.2 = true then ((spec_taLayout.f k bt259.1 bt259.2.1 bt259.2.2.1 a1).bind fun bt266 => (some (bt266.2, true))) else (some (false, false)))) = some (r1, r2) := h
  clear h
  replace H := Option.bind_eq_some_iff.mp H
  obtain ⟨⟨t259, t260, t261, t264⟩, A30, H⟩ := H
  replace H : (if t264 = true then ((spec_taLayout.f k t259 t260 t261 a1).bind fun bt266 => (some (bt266.2, true))) else (some (false, false))) = some (r1, r2) := H
  have A3 := Aside0.mk A30
  clear A30
  by_cases c4 : t264 = true
  · subst c4
    have H1 : ((spec_taLayout.f k t259 t260 t261 a1).bind fun bt266 => (some (bt266.2, true))) = some (r1, r2) := by rw [if_pos rfl] at H; exact H
    clear H
    have H := H1
    clear H1
    replace H := Option.bind_eq_some_iff.mp H
    obtain ⟨⟨t266, t269⟩, A50, H⟩ := H
    replace H : (some (t269, true)) = some (r1, r2) := H
    have A5 := Aside0.mk A50
    clear A50
    simp only [Option.some.injEq, Prod.mk.injEq] at H
    obtain ⟨rfl, rfl⟩ := H
    go_enter Tryd.func21, Tryd.ntmps21
    go_wp2_with (first | ((with_reducible refine gate_callee (f := 34) rfl ?_); refine goesL_ (some 12) rfl rfl Tryd.func34 (by kernel_rfl) rfl #[.string a0] rfl (by (try simp only [List.map_toArray, List.map_cons, List.map_nil]); first | done | rfl | (simp only [List.length_drop, List.length_take]; rfl)) ?_; (with_reducible refine (spec_taRead.calls k a0 t259 t260 t261 true _ A3.out).mono ?_); rintro e w6 ⟨v262, rfl, ho0, hb⟩; refine ⟨_, rfl, ?_⟩; have n0_ := Aside0.mk (Kd.R_lower ho0 (below_size (by repeat (first | (with_reducible first | exact HB.out | apply below_alloc | apply pw_below_drewN | apply below_drew1) | exact HB.out)))); have n1_ := Aside0.mk (below_step (by repeat (first | (with_reducible first | exact HB.out | apply below_alloc | apply pw_below_drewN | apply below_drew1) | exact HB.out)) hb); clear HB; have HO263 := n0_; have HB := n1_; clear n0_ n1_; (try clear hb); (try clear hb2); (try clear hk); (try clear hi); (try clear ho0)) | ((with_reducible refine gate_dst (N := 6) rfl ?_); refine box_event ?hg (N := 6) ?hd (cs := #[.int .i64 0, .int .i64 0, .slice none 0 0]) (t := 50) ?hr ?_; (case hd => rfl); (case hg => rfl); (case hr => first | (go_simp; done) | (go_simp; rfl)); intro gb265 hg w7 hbox hb; have n0_ := Aside0.mk (Kd.R_below (by (with_reducible repeat (first | apply Kd.R_alloc | apply Kd.R_drewN | apply Kd.R_drew)); exact HO263.out) hb); have n1_ := Aside0.mk (below_step (by repeat (first | (with_reducible first | exact HB.out | apply below_alloc | apply pw_below_drewN | apply below_drew1) | exact HB.out)) hb); have n2_ := Aside0.mk (hbox); have n3_ := Aside0.mk ((by rw [hg]; exact (below_size (by repeat (first | (with_reducible first | exact HB.out | apply below_alloc | apply pw_below_drewN | apply below_drew1) | exact HB.out))) : w.heap.size ≤ gb265)); have n4_ := Aside0.mk ((by rw [hg]; exact (below_size (by repeat (first | (with_reducible first | exact HB.out | apply below_alloc | apply pw_below_drewN | apply below_drew1) | exact HB.out))) : w.heap.size ≤ gb265)); clear HO263; clear HB; have HO263 := n0_; have HB := n1_; have BK265 := n2_; have GW265 := n3_; have GE265 := n4_; clear n0_ n1_ n2_ n3_ n4_; clear hb hbox hg; have hcz8_0 : w7.cell? ⟨gb265, 0, none⟩ = some (.int .i64 0) := (blk_cell BK265.out 0).trans rfl; have hcz8_1 : w7.cell? ⟨gb265, 1, none⟩ = some (.int .i64 0) := (blk_cell BK265.out 1).trans rfl; have hcz8_2 : w7.cell? ⟨gb265, 2, none⟩ = some (.slice none 0 0) := (blk_cell BK265.out 2).trans rfl; have hfz8_0 := blk_frozen BK265.out 0; have hfz8_1 := blk_frozen BK265.out 1; have hfz8_2 := blk_frozen BK265.out 2; obtain ⟨Ao9, co9, eo9⟩ := Kd.R_slice HO263.out; subst eo9) | ((with_reducible refine gate_callee (f := 45) rfl ?_); refine goesL_ (some 20) rfl rfl Tryd.func45 (by kernel_rfl) rfl #[.agg #[.int .i64 t259, .int .i64 t260, .slice Ao9 t261.length co9], .string a1] rfl (by (try simp only [List.map_toArray, List.map_cons, List.map_nil]); first | done | rfl | (simp only [List.length_drop, List.length_take]; rfl)) ?_; (with_reducible refine (spec_taLayout.calls k t259 t260 _ _ t261 a1 t266 t269 _ ?side1 ?side2 A5.out).mono ?_); (case side1 => refine (Kd.R_reads' (e := 3) (base := w.heap.size) (ok := fun k_ => True) (n := t261.length) (c := co9) ?_).2.2; exact (by (with_reducible repeat (first | apply Kd.R_alloc | apply Kd.R_drewN | apply Kd.R_drew)); exact (Kd.R_mono (Kd.R_far (p := ⟨gb265, 2, none⟩) (Kd.R_far (p := ⟨gb265, 1, none⟩) (Kd.R_far (p := ⟨gb265, 0, none⟩) (Kd.R_types HO263.out BK265.out (by decide)) (fun _ hk => hk.2) (.int .i64 t259)) (fun _ hk => hk.2) (.int .i64 t260)) (fun _ hk => hk.2) (.slice Ao9 t261.length co9)) (fun _ h_ => h_.1)))); (case side2 => exact (Kd.R_reads' HO263.out).2.1); rintro e w10 ⟨v267, rfl, ho0, hb⟩; refine ⟨_, rfl, ?_⟩; have n0_ := Aside0.mk (Kd.R_below (by (with_reducible repeat (first | apply Kd.R_alloc | apply Kd.R_drewN | apply Kd.R_drew)); exact (Kd.R_mono (Kd.R_far (p := ⟨gb265, 2, none⟩) (Kd.R_far (p := ⟨gb265, 1, none⟩) (Kd.R_far (p := ⟨gb265, 0, none⟩) (Kd.R_types HO263.out BK265.out (by decide)) (fun _ hk => hk.2) (.int .i64 t259)) (fun _ hk => hk.2) (.int .i64 t260)) (fun _ hk => hk.2) (.slice Ao9 t261.length co9)) (fun _ h_ => h_.1))) hb); have n1_ := Aside0.mk (Kd.R_lower ho0 (below_size (by repeat (first | (with_reducible first | exact HB.out | apply below_alloc | apply pw_below_drewN | apply below_drew1 | refine below_set ?_ GE265.out) | exact HB.out)))); have n2_ := Aside0.mk (blk_below (g := gb265) (o := .cells #[.int .i64 t259, .int .i64 t260, .slice Ao9 t261.length co9] 50 (0, 0)) (by (with_reducible repeat (first | refine blk_drewN ?_ _ | refine blk_drew ?_ | refine blk_alloc ?_ _)); refine blk_put (cs := #[.int .i64 t259, .int .i64 t260, .slice none 0 0]) ?_ 2 _ rfl; (with_reducible repeat (first | refine blk_drewN ?_ _ | refine blk_drew ?_ | refine blk_alloc ?_ _)); refine blk_put (cs := #[.int .i64 t259, .int .i64 0, .slice none 0 0]) ?_ 1 _ rfl; (with_reducible repeat (first | refine blk_drewN ?_ _ | refine blk_drew ?_ | refine blk_alloc ?_ _)); refine blk_put (cs := #[.int .i64 0, .int .i64 0, .slice none 0 0]) ?_ 0 _ rfl; (with_reducible repeat (first | refine blk_drewN ?_ _ | refine blk_drew ?_ | refine blk_alloc ?_ _)); exact BK265.out) hb); have n3_ := Aside0.mk (below_step (by repeat (first | (with_reducible first | exact HB.out | apply below_alloc | apply pw_below_drewN | apply below_drew1 | refine below_set ?_ GE265.out) | exact HB.out)) hb); clear HO263; clear BK265; clear HB; have HO263 := n0_; have HO268 := n1_; have BK265 := n2_; have HB := n3_; clear n0_ n1_ n2_ n3_; (try clear hb); (try clear hb2); (try clear hk); (try clear hi); (try clear ho0)))
    go_ret2
    exact ⟨by first | rfl | (simp [errW_none, errW_some] <;> rfl) | (simp [*, errW_none, errW_some] <;> rfl), by repeat (first | (with_reducible first | exact HB.out | apply below_alloc | apply pw_below_drewN | apply below_drew1 | refine below_set ?_ GE265.out) | exact HB.out)⟩
  · replace c4 := Bool.eq_false_iff.mpr c4
    subst c4
    have H1 : (some (false, false)) = some (r1, r2) := by rw [if_neg (show ¬ (false = true) by decide)] at H; exact H
    clear H
    have H := H1
    clear H1
    simp only [Option.some.injEq, Prod.mk.injEq] at H
    obtain ⟨rfl, rfl⟩ := H
    go_enter Tryd.func21, Tryd.ntmps21
    go_wp2_with (first | ((with_reducible refine gate_callee (f := 34) rfl ?_); refine goesL_ (some 12) rfl rfl Tryd.func34 (by kernel_rfl) rfl #[.string a0] rfl (by (try simp only [List.map_toArray, List.map_cons, List.map_nil]); first | done | rfl | (simp only [List.length_drop, List.length_take]; rfl)) ?_; (with_reducible refine (spec_taRead.calls k a0 t259 t260 t261 false _ A3.out).mono ?_); rintro e w11 ⟨v262, rfl, ho0, hb⟩; refine ⟨_, rfl, ?_⟩; have n0_ := Aside0.mk (Kd.R_lower ho0 (below_size (by repeat (first | (with_reducible first | exact HB.out | apply below_alloc | apply pw_below_drewN | apply below_drew1) | exact HB.out)))); have n1_ := Aside0.mk (below_step (by repeat (first | (with_reducible first | exact HB.out | apply below_alloc | apply pw_below_drewN | apply below_drew1) | exact HB.out)) hb); clear HB; have HO263 := n0_; have HB := n1_; clear n0_ n1_; (try clear hb); (try clear hb2); (try clear hk); (try clear hi); (try clear ho0)) | ((with_reducible refine gate_dst (N := 6) rfl ?_); refine box_event ?hg (N := 6) ?hd (cs := #[.int .i64 0, .int .i64 0, .slice none 0 0]) (t := 50) ?hr ?_; (case hd => rfl); (case hg => rfl); (case hr => first | (go_simp; done) | (go_simp; rfl)); intro gb265 hg w12 hbox hb; have n0_ := Aside0.mk (Kd.R_below (by (with_reducible repeat (first | apply Kd.R_alloc | apply Kd.R_drewN | apply Kd.R_drew)); exact HO263.out) hb); have n1_ := Aside0.mk (below_step (by repeat (first | (with_reducible first | exact HB.out | apply below_alloc | apply pw_below_drewN | apply below_drew1) | exact HB.out)) hb); have n2_ := Aside0.mk (hbox); have n3_ := Aside0.mk ((by rw [hg]; exact (below_size (by repeat (first | (with_reducible first | exact HB.out | apply below_alloc | apply pw_below_drewN | apply below_drew1) | exact HB.out))) : w.heap.size ≤ gb265)); have n4_ := Aside0.mk ((by rw [hg]; exact (below_size (by repeat (first | (with_reducible first | exact HB.out | apply below_alloc | apply pw_below_drewN | apply below_drew1) | exact HB.out))) : w.heap.size ≤ gb265)); clear HO263; clear HB; have HO263 := n0_; have HB := n1_; have BK265 := n2_; have GW265 := n3_; have GE265 := n4_; clear n0_ n1_ n2_ n3_ n4_; clear hb hbox hg; have hcz13_0 : w12.cell? ⟨gb265, 0, none⟩ = some (.int .i64 0) := (blk_cell BK265.out 0).trans rfl; have hcz13_1 : w12.cell? ⟨gb265, 1, none⟩ = some (.int .i64 0) := (blk_cell BK265.out 1).trans rfl; have hcz13_2 : w12.cell? ⟨gb265, 2, none⟩ = some (.slice none 0 0) := (blk_cell BK265.out 2).trans rfl; have hfz13_0 := blk_frozen BK265.out 0; have hfz13_1 := blk_frozen BK265.out 1; have hfz13_2 := blk_frozen BK265.out 2; obtain ⟨Ao14, co14, eo14⟩ := Kd.R_slice HO263.out; subst eo14))
    go_ret2
    exact ⟨by first | rfl | (simp [errW_none, errW_some] <;> rfl) | (simp [*, errW_none, errW_some] <;> rfl), by repeat (first | (with_reducible first | exact HB.out | apply below_alloc | apply pw_below_drewN | apply below_drew1 | refine below_set ?_ GE265.out) | exact HB.out)⟩

end
section
open Go.RowKit Go.Proofs.YtjhbnkplpaffoaaDoorW.PrintWords Go.Proofs.YtjhbnkplpaffoaaDoorW.PrintLast Go.Proofs.YtjhbnkplpaffoaaDoorW.PrintMore
attribute [local go_sem] max2_int min2_int max_two min_two max_three min_three max_four min_four   -- for this text's walks alone
set_option linter.unusedVariables false
set_option linter.unusedSimpArgs false

def impl_flat.f (a0 : ByteArray) : Option (ByteArray) := (strings_ReplaceAll.f a0 (⟨#[47]⟩ : ByteArray) (⟨#[]⟩ : ByteArray)).bind fun t271 => (some t271)
set_option maxRecDepth 100000 in
set_option maxHeartbeats 40000000 in
theorem impl_flat.calls (a0 : ByteArray) (r : ByteArray) (w : World) (hmx : ∃ m, w.cell? ⟨0, 0, none⟩ = some (.int .i64 m)) (h : impl_flat.f a0 = some r) :
    Calls Tryd.prog 57 #[.string a0] w fun e w' => e = .returned (.string r) ∧ Below w.heap.size w w' := by
  obtain ⟨cs, hcs⟩ : ∃ cs, cs = [old w w.heap.size] := ⟨_, rfl⟩
  have hp : Hp w cs w := by rw [hcs]; exact Hp.old_start w
  have hc2 : ∀ W, Hp w cs W → Below w.heap.size w W := fun W h => by rw [hcs] at h; exact h.since 0 _ rfl
  have hM : ∀ W, Hp w cs W → ∃ m, W.cell? ⟨0, 0, none⟩ = some (.int .i64 m) := fun W h => hmx.imp fun m q => ((hc2 W h).cell (World.block_lt_of_cell? _ _ q)).trans q
  clear hcs
  unfold impl_flat.f at h
  obtain ⟨t_2, hv_1, h⟩ := Option.bind_eq_some_iff.mp h
  try dsimp only at h
  refine sx_enter (N := 5) (l := [.string a0]) Tryd.func57 rfl rfl rfl ?_
  refine wp_seq ?_
  refine sx_region ?_
  refine sx_rd 2 (.string (⟨#[]⟩ : ByteArray)) (by rfl) (by kernel_rfl) ?_
  refine sx_nil ?_
  refine ex_then_n ?_
  refine wp_seq ?_
  refine sx_region ?_
  refine sx_rd 3 (.string a0) (by rfl) (by kernel_rfl) ?_
  refine sx_call 4 (by rfl) (by kernel_rfl) ((strings_ReplaceAll.calls a0 (⟨#[47]⟩ : ByteArray) (⟨#[]⟩ : ByteArray) _ _ (hM _ (hp)) hv_1).mono ?_)
  rintro _ W_3 ⟨rfl, hb⟩
  refine ⟨_, rfl, ?_⟩
  replace hp := hp.below hb
  clear hb
  refine sx_rd 2 (.string t_2) (by rfl) (by kernel_rfl) ?_
  refine sx_nil ?_
  refine ex_then_n ?_
  refine wp_ret ?_
  refine sx_end (.string t_2) (res1 2 (by rfl)) ?_
  obtain rfl := Option.some.inj h
  exact ⟨rfl, hc2 _ (hp)⟩
end
section
open Go.RowKit Go.Proofs.YtjhbnkplpaffoaaDoorW.PrintWords Go.Proofs.YtjhbnkplpaffoaaDoorW.PrintLast Go.Proofs.YtjhbnkplpaffoaaDoorW.PrintMore
attribute [local go_sem] max2_int min2_int max_two min_two max_three min_three max_four min_four   -- for this text's walks alone
set_option linter.unusedVariables false
set_option linter.unusedSimpArgs false

mutual
def impl_pairs.l0 : Nat → Int → ByteArray → List (List Int) → Int → Int → Option ((List (List Int)) × Bool)
  | 0, _, _, _, _, _ => none
  | k + 1, x4, x6, x7, x23, x24 => if x24 < x23 then (if 0 ≤ x24 then (if x24 < (x6.size : Int) then (if (bt x6 x24) = 101 then (if x4 = 0 then (none) else (if (Int.tmod (wrap64 (x24 + 1)) x4) = 0 then (some (([] : List (List Int)), false)) else (impl_pairs.j1 k x4 x6 x7 x24 (wrap64 (x24 + 1)) 119 x23 x24))) else (if (bt x6 x24) = 115 then (impl_pairs.j1 k x4 x6 x7 x24 (wrap64 (x24 + x4)) 110 x23 x24) else (if (bt x6 x24) = 110 then (impl_pairs.j1 k x4 x6 x7 x24 (wrap64 (x24 - x4)) 115 x23 x24) else (if x4 = 0 then (none) else (if (Int.tmod x24 x4) = 0 then (some (([] : List (List Int)), false)) else (impl_pairs.j1 k x4 x6 x7 x24 (wrap64 (x24 - 1)) 101 x23 x24)))))) else (none)) else (none)) else (some (x7, true))
def impl_pairs.j1 : Nat → Int → ByteArray → List (List Int) → Int → Int → Int → Int → Int → Option ((List (List Int)) × Bool)
  | 0, _, _, _, _, _, _, _, _ => none
  | k + 1, x4, x6, x7, x8, x9, x10, x23, x24 => (impl_within.f x9 0 (wrap64 ((x6.size : Int) - 1))).bind fun t279 => (if t279 = true then (if 0 ≤ x9 then (if x9 < (x6.size : Int) then (impl_pairs.j2 k x4 x6 x7 x8 x9 x23 x24 ((bt x6 x9) != x10)) else (none)) else (none)) else (impl_pairs.j2 k x4 x6 x7 x8 x9 x23 x24 true))
def impl_pairs.j2 : Nat → Int → ByteArray → List (List Int) → Int → Int → Int → Int → Bool → Option ((List (List Int)) × Bool)
  | 0, _, _, _, _, _, _, _, _ => none
  | k + 1, x4, x6, x7, x8, x9, x23, x24, x66 => if x66 = true then (some (([] : List (List Int)), false)) else (if x8 < x9 then (if x7.length < 5864062014805 then (impl_pairs.l0 k x4 x6 (x7 ++ [(([x8, x9] : List Int))]) x23 (wrap64 (x24 + 1))) else (none)) else (impl_pairs.l0 k x4 x6 x7 x23 (wrap64 (x24 + 1))))
end
def impl_pairs.f (k : Nat) (a0 : ByteArray) : Option ((List (List Int)) × Bool) := (impl_isForm.f k a0 (⟨#[110, 101, 115, 119]⟩ : ByteArray)).bind fun t272 => (if t272 = true then ((impl_size.f a0).bind fun bt273 => ((impl_flat.f a0).bind fun t275 => (impl_pairs.l0 k bt273.1 t275 (([] : List (List Int))) (t275.size : Int) 0))) else (some (([] : List (List Int)), false)))
set_option maxHeartbeats 8000000 in
set_option maxRecDepth 100000 in
theorem impl_pairs.calls (k : Nat) (a0 : ByteArray) (r1 : List (List Int)) (r2 : Bool) (w : World) (hmx : ∃ m, w.cell? ⟨0, 0, none⟩ = some (.int .i64 m)) (h : impl_pairs.f k a0 = some (r1, r2)) :
    Calls Tryd.prog 55 #[.string a0] w fun e w' => ∃ v0_ : Value, e = .returned (.tuple #[v0_, .bool r2]) ∧ Kd.S (Kd.slice 3 (Kd.int .i64)) 48 w' w.heap.size (fun _ => True) v0_ r1 ∧ Below w.heap.size w w' := by
  have HMX := Aside0.mk hmx
  clear hmx
  have HB := Aside0.mk (Below.refl w.heap.size w)
  have H : ((impl_isForm.f k a0 (⟨#[110, 101, 115, 119]⟩ : ByteArray)).bind fun t272 => (if t272 = true then ((impl_size.f a0).bind fun bt273 => ((impl_flat.f a0).bind fun t275 => (impl_pairs.l0 k bt273.1 t275 (([] : List (List Int))) (t275.size : Int) 0))) else (some (([] : List (List Int)), false)))) = some (r1, r2) := h
  clear h
  replace H := Option.bind_eq_some_iff.mp H
  obtain ⟨t272, A20, H⟩ := H
  replace H : (if t272 = true then ((impl_size.f a0).bind fun bt273 => ((impl_flat.f a0).bind fun t275 => (impl_pairs.l0 k bt273.1 t275 (([] : List (List Int))) (t275.size : Int) 0))) else (some (([] : List (List Int)), false))) = some (r1, r2) := H
  have A2 := Aside0.mk A20
  clear A20
  by_cases c3 : t272 = true
  · subst c3
    have H1 : ((impl_size.f a0).bind fun bt273 => ((impl_flat.f a0).bind fun t275 => (impl_pairs.l0 k bt273.1 t275 (([] : List (List Int))) (t275.size : Int) 0))) = some (r1, r2) := by rw [if_pos rfl] at H; exact H
    clear H
    have H := H1
    clear H1
    replace H := Option.bind_eq_some_iff.mp H
    obtain ⟨⟨t273, t274⟩, A40, H⟩ := H
    replace H : ((impl_flat.f a0).bind fun t275 => (impl_pairs.l0 k t273 t275 (([] : List (List Int))) (t275.size : Int) 0)) = some (r1, r2) := H
    have A4 := Aside0.mk A40
    clear A40
    replace H := Option.bind_eq_some_iff.mp H
    obtain ⟨t275, A50, H⟩ := H
    replace H : (impl_pairs.l0 k t273 t275 (([] : List (List Int))) (t275.size : Int) 0) = some (r1, r2) := H
    have A5 := Aside0.mk A50
    clear A50
    obtain ⟨y276, hy276⟩ : ∃ y_ : List (List Int), y_ = (([] : List (List Int))) := ⟨_, rfl⟩
    replace H : (impl_pairs.l0 k t273 t275 y276 (t275.size : Int) 0) = some (r1, r2) := by first | (rw [hy276]; with_reducible exact H) | (have H2_ := (Option.bind_some _ _).symm.trans H; rw [hy276]; with_reducible exact H2_) | (have H2_ := (Option.bind_some _ _).symm.trans H; with_reducible exact H2_) | with_reducible exact H | (rw [hy276]; exact H) | exact H
    have Ny276 := Aside0.mk hy276
    clear hy276
    have H' := Aside0.mk H
    clear H
    go_enter Tryd.func55, Tryd.ntmps55
    go_wp2_with (first | ((with_reducible refine gate_callee (f := 35) rfl ?_); refine goesL_ (some 12) rfl rfl Tryd.func35 (by kernel_rfl) rfl #[.string a0, .string (⟨#[110, 101, 115, 119]⟩ : ByteArray)] rfl (by (try simp only [List.map_toArray, List.map_cons, List.map_nil]); first | done | rfl | (simp only [List.length_drop, List.length_take]; rfl)) ?_; (with_reducible refine (impl_isForm.calls k a0 (⟨#[110, 101, 115, 119]⟩ : ByteArray) true _ (mx_of HMX.out (by repeat (first | (with_reducible first | exact HB.out | apply below_alloc | apply pw_below_drewN | apply below_drew1) | exact HB.out))) A2.out).mono ?_); rintro e w6 ⟨rfl, hb⟩; refine ⟨_, rfl, ?_⟩; have n0_ := Aside0.mk (below_step (by repeat (first | (with_reducible first | exact HB.out | apply below_alloc | apply pw_below_drewN | apply below_drew1) | exact HB.out)) hb); clear HB; have HB := n0_; clear n0_; (try clear hb); (try clear hb2); (try clear hk); (try clear hi)) | ((with_reducible refine gate_callee (f := 36) rfl ?_); refine goesL_ (some 16) rfl rfl Tryd.func36 (by kernel_rfl) rfl #[.string a0] rfl (by (try simp only [List.map_toArray, List.map_cons, List.map_nil]); first | done | rfl | (simp only [List.length_drop, List.length_take]; rfl)) ?_; (with_reducible refine (impl_size.calls a0 t273 t274 _ (mx_of HMX.out (by repeat (first | (with_reducible first | exact HB.out | apply below_alloc | apply pw_below_drewN | apply below_drew1) | exact HB.out))) A4.out).mono ?_); rintro e w7 ⟨rfl, hb⟩; refine ⟨_, rfl, ?_⟩; have n0_ := Aside0.mk (below_step (by repeat (first | (with_reducible first | exact HB.out | apply below_alloc | apply pw_below_drewN | apply below_drew1) | exact HB.out)) hb); clear HB; have HB := n0_; clear n0_; (try clear hb); (try clear hb2); (try clear hk); (try clear hi)) | ((with_reducible refine gate_callee (f := 57) rfl ?_); refine goesL_ (some 20) rfl rfl Tryd.func57 (by kernel_rfl) rfl #[.string a0] rfl (by (try simp only [List.map_toArray, List.map_cons, List.map_nil]); first | done | rfl | (simp only [List.length_drop, List.length_take]; rfl)) ?_; (with_reducible refine (impl_flat.calls a0 t275 _ (mx_of HMX.out (by repeat (first | (with_reducible first | exact HB.out | apply below_alloc | apply pw_below_drewN | apply below_drew1) | exact HB.out))) A5.out).mono ?_); rintro e w8 ⟨rfl, hb⟩; refine ⟨_, rfl, ?_⟩; have n0_ := Aside0.mk (below_step (by repeat (first | (with_reducible first | exact HB.out | apply below_alloc | apply pw_below_drewN | apply below_drew1) | exact HB.out)) hb); clear HB; have HB := n0_; clear n0_; (try clear hb); (try clear hb2); (try clear hk); (try clear hi)) | ((with_reducible refine gate_dst (N := 21) rfl ?_); refine Kd.S_lit (Kd.slice 3 (Kd.int .i64)) _ 48 ?hg (N := 21) ?hd (xs := ([] : List (List Int))) (inner := []) (ok := fun _ => True) (okp := fun _ => True) ?hr ?hp (fun _ hk => hk) trivial (Below.refl _ _) (Nat.le_refl _) (by simp) ?_; (case hd => rfl); (case hg => rfl); (case hr => first | (go_simp; done) | (go_simp; rfl)); (case hp => exact (Reps.none _ _)); intro v277 w9 ho10 hb hg_ hnew_; clear hg_ hnew_; (first | rw [← Ny276.out] at ho10 | (simp only [Int.reduceToNat] at ho10; rw [← Ny276.out] at ho10)); have n0_ := Aside0.mk (Kd.S_lower ho10 (below_size (by repeat (first | (with_reducible first | exact HB.out | apply below_alloc | apply pw_below_drewN | apply below_drew1) | exact HB.out)))); have n1_ := Aside0.mk (below_step (by repeat (first | (with_reducible first | exact HB.out | apply below_alloc | apply pw_below_drewN | apply below_drew1) | exact HB.out)) hb); clear HB; have HO278 := n0_; have HB := n1_; clear n0_ n1_; clear hb ho10))
    go_loopg [7, 24] k (fun kq v7 v24 w' => ∃ (x7_1 : List (List Int)) (x24_1 : Int), v24 = .int .i64 x24_1 ∧ Aside0 (impl_pairs.l0 kq t273 t275 x7_1 (t275.size : Int) x24_1 = some (r1, r2)) ∧ Aside0 (kq ≤ k) ∧ Aside0 (Kd.S (Kd.slice 3 (Kd.int .i64)) 48 w' w.heap.size (fun _ => True) v7 x7_1) ∧ Aside0 (Below w.heap.size w w'))
    case atStart => exact ⟨(y276), (0), (by first | rfl | (simp; done) | (simp [*]; done)), H', ⟨Nat.le_refl _⟩, ⟨by (with_reducible repeat (first | apply Kd.S_alloc | apply Kd.S_drewN | apply Kd.S_drew)); exact HO278.out⟩, ⟨by repeat (first | (with_reducible first | exact HB.out | apply below_alloc | apply pw_below_drewN | apply below_drew1) | exact HB.out)⟩⟩
    case round =>
      clear H'
      try clear p2
      try clear c3
      try clear c5
      obtain ⟨x7_1, x24_1, rfl, HA, HK1, HO_7, HB⟩ := hrel
      cases gk with
      | zero => exact absurd HA.out (by simp [impl_pairs.l0])
      | succ k1 =>
        have H := HA.out
        clear HA
        simp only [impl_pairs.l0] at H
        by_cases c11 : x24_1 < (t275.size : Int)
        · rw [if_pos c11] at H
          have c11b0 : decide (x24_1 < (t275.size : Int)) = true := decide_eq_true c11
          clear c11
          by_cases c12 : 0 ≤ x24_1
          · rw [if_pos c12] at H
            have c12b0 : decide (0 ≤ x24_1) = true := decide_eq_true c12
            clear c12
            by_cases c13 : x24_1 < (t275.size : Int)
            · rw [if_pos c13] at H
              have c13b0 : decide (x24_1 < (t275.size : Int)) = true := decide_eq_true c13
              clear c13
              have HC15 := Aside0.mk H
              clear H
              have p14 : 0 ≤ (x24_1 : Int) := of_decide_eq_true (by first | (with_reducible assumption) | assumption)
              have q14 : x24_1 < (t275.size : Int) := of_decide_eq_true (by first | (with_reducible assumption) | assumption)
              have hx14 := bt_at t275 x24_1
              replace p14 := eq_true p14
              replace q14 := eq_true q14
              go_upto_block 2 with (fail)
              go_cut [9, 10] (fun v9 v10 wc => ∃ (kq : Nat) (x9_14 : Int) (x10_14 : Int), v9 = .int .i64 x9_14 ∧ v10 = .int .u8 x10_14 ∧ Aside0 (impl_pairs.j1 kq t273 t275 x7_1 x24_1 x9_14 x10_14 (t275.size : Int) x24_1 = some (r1, r2)) ∧ Aside0 (kq ≤ k1) ∧ Aside0 (Kd.S (Kd.slice 3 (Kd.int .i64)) 48 wc w.heap.size (fun _ => True) u7 x7_1) ∧ Aside0 (Below w.heap.size w wc))
              case first =>
                have H := HC15.out
                clear HC15
                by_cases c16 : (bt t275 x24_1) = 101
                · rw [if_pos c16] at H
                  have c16b0 : ((bt t275 x24_1) == 101) = true := beq_iff_eq.mpr c16
                  have c16b1 : ((bt t275 x24_1) != 101) = false := bne_eq_false_iff_eq.mpr c16
                  clear c16
                  (first | rw [c16b0] | (simp only [i64_w, i32_w]; rw [c16b0]) | skip)
                  by_cases c17 : t273 = 0
                  · rw [if_pos c17] at H
                    exact absurd H (by simp)
                  · rw [if_neg c17] at H
                    have c17b0 : (t273 == 0) = false := beq_eq_false_iff_ne.mpr c17
                    have c17b1 : (t273 != 0) = true := bne_iff_ne.mpr c17
                    by_cases c18 : (Int.tmod (wrap64 (x24_1 + 1)) t273) = 0
                    · rw [if_pos c18] at H
                      have c18b0 : ((Int.tmod (wrap64 (x24_1 + 1)) t273) == 0) = true := beq_iff_eq.mpr c18
                      have c18b1 : ((Int.tmod (wrap64 (x24_1 + 1)) t273) != 0) = false := bne_eq_false_iff_eq.mpr c18
                      clear c18
                      simp only [Option.some.injEq, Prod.mk.injEq] at H
                      obtain ⟨rfl, rfl⟩ := H
                      go_wp2
                      go_ret2
                      exact ⟨_, by first | rfl | (simp [errW_none, errW_some] <;> rfl) | (simp [*, errW_none, errW_some] <;> rfl), by first | exact Kd.S_nil _ _ _ _ _ | exact Kd.N_nil _ _ _ _ _ | exact Kd.V_nil _ _ _ _ _ | exact Kd.Q_nil _ _ _ _ _ | exact Kd.R_nil _ _ _ _ _, by repeat (first | (with_reducible first | exact HB.out | apply below_alloc | apply pw_below_drewN | apply below_drew1) | exact HB.out)⟩
                    · rw [if_neg c18] at H
                      have c18b0 : ((Int.tmod (wrap64 (x24_1 + 1)) t273) == 0) = false := beq_eq_false_iff_ne.mpr c18
                      have c18b1 : ((Int.tmod (wrap64 (x24_1 + 1)) t273) != 0) = true := bne_iff_ne.mpr c18
                      have H' := Aside0.mk H
                      clear H
                      go_wp2
                      go_meet
                      case rel => exact ⟨_, (wrap64 (x24_1 + 1)), (119), (by first | rfl | (simp; done) | (simp [*]; done)), (by first | rfl | (simp; done) | (simp [*]; done)), H', ⟨by have := HK1.out; first | omega | exact Nat.le_refl _⟩, ⟨by (with_reducible repeat (first | apply Kd.S_alloc | apply Kd.S_drewN | apply Kd.S_drew)); exact HO_7.out⟩, ⟨by repeat (first | (with_reducible first | exact HB.out | apply below_alloc | apply pw_below_drewN | apply below_drew1) | exact HB.out)⟩⟩
                · rw [if_neg c16] at H
                  have c16b0 : ((bt t275 x24_1) == 101) = false := beq_eq_false_iff_ne.mpr c16
                  have c16b1 : ((bt t275 x24_1) != 101) = true := bne_iff_ne.mpr c16
                  (first | rw [c16b0] | (simp only [i64_w, i32_w]; rw [c16b0]) | skip)
                  by_cases c19 : (bt t275 x24_1) = 115
                  · rw [if_pos c19] at H
                    have c19b0 : ((bt t275 x24_1) == 115) = true := beq_iff_eq.mpr c19
                    have c19b1 : ((bt t275 x24_1) != 115) = false := bne_eq_false_iff_eq.mpr c19
                    clear c19
                    have H' := Aside0.mk H
                    clear H
                    go_wp2
                    go_meet
                    case rel => exact ⟨_, (wrap64 (x24_1 + t273)), (110), (by first | rfl | (simp; done) | (simp [*]; done)), (by first | rfl | (simp; done) | (simp [*]; done)), H', ⟨by have := HK1.out; first | omega | exact Nat.le_refl _⟩, ⟨by (with_reducible repeat (first | apply Kd.S_alloc | apply Kd.S_drewN | apply Kd.S_drew)); exact HO_7.out⟩, ⟨by repeat (first | (with_reducible first | exact HB.out | apply below_alloc | apply pw_below_drewN | apply below_drew1) | exact HB.out)⟩⟩
                  · rw [if_neg c19] at H
                    have c19b0 : ((bt t275 x24_1) == 115) = false := beq_eq_false_iff_ne.mpr c19
                    have c19b1 : ((bt t275 x24_1) != 115) = true := bne_iff_ne.mpr c19
                    by_cases c20 : (bt t275 x24_1) = 110
                    · rw [if_pos c20] at H
                      have c20b0 : ((bt t275 x24_1) == 110) = true := beq_iff_eq.mpr c20
                      have c20b1 : ((bt t275 x24_1) != 110) = false := bne_eq_false_iff_eq.mpr c20
                      clear c20
                      have H' := Aside0.mk H
                      clear H
                      go_wp2
                      go_meet
                      case rel => exact ⟨_, (wrap64 (x24_1 - t273)), (115), (by first | rfl | (simp; done) | (simp [*]; done)), (by first | rfl | (simp; done) | (simp [*]; done)), H', ⟨by have := HK1.out; first | omega | exact Nat.le_refl _⟩, ⟨by (with_reducible repeat (first | apply Kd.S_alloc | apply Kd.S_drewN | apply Kd.S_drew)); exact HO_7.out⟩, ⟨by repeat (first | (with_reducible first | exact HB.out | apply below_alloc | apply pw_below_drewN | apply below_drew1) | exact HB.out)⟩⟩
                    · rw [if_neg c20] at H
                      have c20b0 : ((bt t275 x24_1) == 110) = false := beq_eq_false_iff_ne.mpr c20
                      have c20b1 : ((bt t275 x24_1) != 110) = true := bne_iff_ne.mpr c20
                      by_cases c21 : t273 = 0
                      · rw [if_pos c21] at H
                        exact absurd H (by simp)
                      · rw [if_neg c21] at H
                        have c21b0 : (t273 == 0) = false := beq_eq_false_iff_ne.mpr c21
                        have c21b1 : (t273 != 0) = true := bne_iff_ne.mpr c21
                        by_cases c22 : (Int.tmod x24_1 t273) = 0
                        · rw [if_pos c22] at H
                          have c22b0 : ((Int.tmod x24_1 t273) == 0) = true := beq_iff_eq.mpr c22
                          have c22b1 : ((Int.tmod x24_1 t273) != 0) = false := bne_eq_false_iff_eq.mpr c22
                          clear c22
                          simp only [Option.some.injEq, Prod.mk.injEq] at H
                          obtain ⟨rfl, rfl⟩ := H
                          go_wp2
                          go_ret2
                          exact ⟨_, by first | rfl | (simp [errW_none, errW_some] <;> rfl) | (simp [*, errW_none, errW_some] <;> rfl), by first | exact Kd.S_nil _ _ _ _ _ | exact Kd.N_nil _ _ _ _ _ | exact Kd.V_nil _ _ _ _ _ | exact Kd.Q_nil _ _ _ _ _ | exact Kd.R_nil _ _ _ _ _, by repeat (first | (with_reducible first | exact HB.out | apply below_alloc | apply pw_below_drewN | apply below_drew1) | exact HB.out)⟩
                        · rw [if_neg c22] at H
                          have c22b0 : ((Int.tmod x24_1 t273) == 0) = false := beq_eq_false_iff_ne.mpr c22
                          have c22b1 : ((Int.tmod x24_1 t273) != 0) = true := bne_iff_ne.mpr c22
                          have H' := Aside0.mk H
                          clear H
                          go_wp2
                          go_meet
                          case rel => exact ⟨_, (wrap64 (x24_1 - 1)), (101), (by first | rfl | (simp; done) | (simp [*]; done)), (by first | rfl | (simp; done) | (simp [*]; done)), H', ⟨by have := HK1.out; first | omega | exact Nat.le_refl _⟩, ⟨by (with_reducible repeat (first | apply Kd.S_alloc | apply Kd.S_drewN | apply Kd.S_drew)); exact HO_7.out⟩, ⟨by repeat (first | (with_reducible first | exact HB.out | apply below_alloc | apply pw_below_drewN | apply below_drew1) | exact HB.out)⟩⟩
              case rest =>
                clear HC15
                try clear c1
                try clear p1
                try clear q1
                try clear hx1
                try clear c2
                try clear p2
                try clear c3
                try clear c5
                try clear p6
                try clear c11
                try clear c11b0
                try clear c12
                try clear c12b0
                try clear c13
                try clear c13b0
                try clear p14
                try clear q14
                try clear hx14
                try clear c16
                try clear c16b0
                try clear c16b1
                try clear c17
                try clear c17b0
                try clear c17b1
                try clear c18
                try clear c18b0
                try clear c18b1
                try clear c19
                try clear c19b0
                try clear c19b1
                try clear c20
                try clear c20b0
                try clear c20b1
                try clear c21
                try clear c21b0
                try clear c21b1
                try clear c22
                try clear c22b0
                try clear c22b1
                try clear p14
                try clear p2
                try clear q14
                obtain ⟨kq, x9_14, x10_14, rfl, rfl, HA, HJ14, HO_7, HB⟩ := hcut
                cases kq with
                | zero => exact absurd HA.out (by simp [impl_pairs.j1])
                | succ kj14 =>
                  have H := HA.out
                  clear HA
                  simp only [impl_pairs.j1] at H
                  have HC23 := Aside0.mk H
                  clear H
                  go_upto_region 21 with (fail)
                  go_cut [66] (fun v66 wc => ∃ (kq : Nat) (x66_22 : Bool), v66 = .bool x66_22 ∧ Aside0 (impl_pairs.j2 kq t273 t275 x7_1 x24_1 x9_14 (t275.size : Int) x24_1 x66_22 = some (r1, r2)) ∧ Aside0 (kq ≤ kj14) ∧ Aside0 (Kd.S (Kd.slice 3 (Kd.int .i64)) 48 wc w.heap.size (fun _ => True) u7 x7_1) ∧ Aside0 (Below w.heap.size w wc))
                  case first =>
                    have H := HC23.out
                    clear HC23
                    replace H := Option.bind_eq_some_iff.mp H
                    obtain ⟨t279, A240, H⟩ := H
                    replace H : (if t279 = true then (if 0 ≤ x9_14 then (if x9_14 < (t275.size : Int) then (impl_pairs.j2 kj14 t273 t275 x7_1 x24_1 x9_14 (t275.size : Int) x24_1 ((bt t275 x9_14) != x10_14)) else (none)) else (none)) else (impl_pairs.j2 kj14 t273 t275 x7_1 x24_1 x9_14 (t275.size : Int) x24_1 true)) = some (r1, r2) := H
                    have A24 := Aside0.mk A240
                    clear A240
                    by_cases c25 : t279 = true
                    · subst c25
                      have H1 : (if 0 ≤ x9_14 then (if x9_14 < (t275.size : Int) then (impl_pairs.j2 kj14 t273 t275 x7_1 x24_1 x9_14 (t275.size : Int) x24_1 ((bt t275 x9_14) != x10_14)) else (none)) else (none)) = some (r1, r2) := by rw [if_pos rfl] at H; exact H
                      clear H
                      have H := H1
                      clear H1
                      by_cases c26 : 0 ≤ x9_14
                      · rw [if_pos c26] at H
                        have c26b0 : decide (0 ≤ x9_14) = true := decide_eq_true c26
                        clear c26
                        (first | rw [c26b0] | (simp only [i64_w, i32_w]; rw [c26b0]) | skip)
                        by_cases c27 : x9_14 < (t275.size : Int)
                        · rw [if_pos c27] at H
                          have c27b0 : decide (x9_14 < (t275.size : Int)) = true := decide_eq_true c27
                          clear c27
                          have H' := Aside0.mk H
                          clear H
                          go_wp2_with (first | ((with_reducible refine gate_callee (f := 62) rfl ?_); refine goesL_ (some 58) rfl rfl Tryd.func62 (by kernel_rfl) rfl #[.int .i64 x9_14, .int .i64 0, .int .i64 (wrap64 ((t275.size : Int) - 1))] rfl (by (try simp only [List.map_toArray, List.map_cons, List.map_nil]); first | done | rfl | (simp only [List.length_drop, List.length_take]; rfl)) ?_; (with_reducible refine (impl_within.calls x9_14 0 (wrap64 ((t275.size : Int) - 1)) true _ A24.out).mono ?_); rintro e w' ⟨rfl, ⟨nd, rfl⟩⟩; refine ⟨_, rfl, ?_⟩; have p28 : 0 ≤ (x9_14 : Int) := of_decide_eq_true (by first | (with_reducible assumption) | assumption); have q28 : x9_14 < (t275.size : Int) := of_decide_eq_true (by first | (with_reducible assumption) | assumption); have hx28 := bt_at t275 x9_14; replace p28 := eq_true p28; replace q28 := eq_true q28))
                          go_meet
                          case rel => exact ⟨_, (((bt t275 x9_14) != x10_14)), (by first | rfl | (simp; done) | (simp [*]; done)), H', ⟨by have := HK1.out; have := HJ14.out; first | omega | exact Nat.le_refl _⟩, ⟨by (with_reducible repeat (first | apply Kd.S_alloc | apply Kd.S_drewN | apply Kd.S_drew)); exact HO_7.out⟩, ⟨by repeat (first | (with_reducible first | exact HB.out | apply below_alloc | apply pw_below_drewN | apply below_drew1) | exact HB.out)⟩⟩
                        · rw [if_neg c27] at H
                          exact absurd H (by simp)
                      · rw [if_neg c26] at H
                        exact absurd H (by simp)
                    · replace c25 := Bool.eq_false_iff.mpr c25
                      subst c25
                      have H1 : (impl_pairs.j2 kj14 t273 t275 x7_1 x24_1 x9_14 (t275.size : Int) x24_1 true) = some (r1, r2) := by rw [if_neg (show ¬ (false = true) by decide)] at H; exact H
                      clear H
                      have H := H1
                      clear H1
                      have H' := Aside0.mk H
                      clear H
                      go_wp2_with (first | ((with_reducible refine gate_callee (f := 62) rfl ?_); refine goesL_ (some 58) rfl rfl Tryd.func62 (by kernel_rfl) rfl #[.int .i64 x9_14, .int .i64 0, .int .i64 (wrap64 ((t275.size : Int) - 1))] rfl (by (try simp only [List.map_toArray, List.map_cons, List.map_nil]); first | done | rfl | (simp only [List.length_drop, List.length_take]; rfl)) ?_; (with_reducible refine (impl_within.calls x9_14 0 (wrap64 ((t275.size : Int) - 1)) false _ A24.out).mono ?_); rintro e w' ⟨rfl, ⟨nd, rfl⟩⟩; refine ⟨_, rfl, ?_⟩))
                      go_meet
                      case rel => exact ⟨_, (true), (by first | rfl | (simp; done) | (simp [*]; done)), H', ⟨by have := HK1.out; have := HJ14.out; first | omega | exact Nat.le_refl _⟩, ⟨by (with_reducible repeat (first | apply Kd.S_alloc | apply Kd.S_drewN | apply Kd.S_drew)); exact HO_7.out⟩, ⟨by repeat (first | (with_reducible first | exact HB.out | apply below_alloc | apply pw_below_drewN | apply below_drew1) | exact HB.out)⟩⟩
                  case rest =>
                    clear HC23
                    try clear c1
                    try clear p1
                    try clear q1
                    try clear hx1
                    try clear c2
                    try clear p2
                    try clear q2
                    try clear hx2
                    try clear c3
                    try clear c5
                    try clear c6
                    try clear p6
                    try clear c11
                    try clear c11b0
                    try clear c12
                    try clear c12b0
                    try clear c13
                    try clear c13b0
                    try clear p14
                    try clear q14
                    try clear hx14
                    try clear c16
                    try clear c16b0
                    try clear c16b1
                    try clear c17
                    try clear c17b0
                    try clear c17b1
                    try clear c18
                    try clear c18b0
                    try clear c18b1
                    try clear c19
                    try clear c19b0
                    try clear c19b1
                    try clear c20
                    try clear c20b0
                    try clear c20b1
                    try clear c21
                    try clear c21b0
                    try clear c21b1
                    try clear c22
                    try clear c22b0
                    try clear c22b1
                    try clear c25
                    try clear c26
                    try clear c26b0
                    try clear c27
                    try clear c27b0
                    try clear p28
                    try clear q28
                    try clear hx28
                    try clear p1
                    try clear p14
                    try clear p2
                    try clear p28
                    try clear p6
                    try clear q1
                    try clear q14
                    try clear q28
                    obtain ⟨kq, x66_22, rfl, HA, HJ22, HO_7, HB⟩ := hcut
                    cases kq with
                    | zero => exact absurd HA.out (by simp [impl_pairs.j2])
                    | succ kj22 =>
                      have H := HA.out
                      clear HA
                      simp only [impl_pairs.j2] at H
                      by_cases c29 : x66_22 = true
                      · subst c29
                        have H1 : (some (([] : List (List Int)), false)) = some (r1, r2) := by rw [if_pos rfl] at H; exact H
                        clear H
                        have H := H1
                        clear H1
                        simp only [Option.some.injEq, Prod.mk.injEq] at H
                        obtain ⟨rfl, rfl⟩ := H
                        go_wp2
                        go_ret2
                        exact ⟨_, by first | rfl | (simp [errW_none, errW_some] <;> rfl) | (simp [*, errW_none, errW_some] <;> rfl), by first | exact Kd.S_nil _ _ _ _ _ | exact Kd.N_nil _ _ _ _ _ | exact Kd.V_nil _ _ _ _ _ | exact Kd.Q_nil _ _ _ _ _ | exact Kd.R_nil _ _ _ _ _, by repeat (first | (with_reducible first | exact HB.out | apply below_alloc | apply pw_below_drewN | apply below_drew1) | exact HB.out)⟩
                      · replace c29 := Bool.eq_false_iff.mpr c29
                        subst c29
                        have H1 : (if x24_1 < x9_14 then (if x7_1.length < 5864062014805 then (impl_pairs.l0 kj22 t273 t275 (x7_1 ++ [(([x24_1, x9_14] : List Int))]) (t275.size : Int) (wrap64 (x24_1 + 1))) else (none)) else (impl_pairs.l0 kj22 t273 t275 x7_1 (t275.size : Int) (wrap64 (x24_1 + 1)))) = some (r1, r2) := by rw [if_neg (show ¬ (false = true) by decide)] at H; exact H
                        clear H
                        have H := H1
                        clear H1
                        by_cases c30 : x24_1 < x9_14
                        · rw [if_pos c30] at H
                          have c30b0 : decide (x24_1 < x9_14) = true := decide_eq_true c30
                          clear c30
                          obtain ⟨y280, hy280⟩ : ∃ y_ : List Int, y_ = (([x24_1, x9_14] : List Int)) := ⟨_, rfl⟩
                          replace H : (if x7_1.length < 5864062014805 then (impl_pairs.l0 kj22 t273 t275 (x7_1 ++ [y280]) (t275.size : Int) (wrap64 (x24_1 + 1))) else (none)) = some (r1, r2) := by first | (rw [hy280]; with_reducible exact H) | (have H2_ := (Option.bind_some _ _).symm.trans H; rw [hy280]; with_reducible exact H2_) | (have H2_ := (Option.bind_some _ _).symm.trans H; with_reducible exact H2_) | with_reducible exact H | (rw [hy280]; exact H) | exact H
                          have Ny280 := Aside0.mk hy280
                          clear hy280
                          by_cases c31 : x7_1.length < 5864062014805
                          · rw [if_pos c31] at H
                            have LMc31 := Aside0.mk c31
                            clear c31
                            obtain ⟨y283, hy283⟩ : ∃ y_ : List (List Int), y_ = (x7_1 ++ [y280]) := ⟨_, rfl⟩
                            replace H : (impl_pairs.l0 kj22 t273 t275 y283 (t275.size : Int) (wrap64 (x24_1 + 1))) = some (r1, r2) := by first | (rw [hy283]; with_reducible exact H) | (have H2_ := (Option.bind_some _ _).symm.trans H; rw [hy283]; with_reducible exact H2_) | (have H2_ := (Option.bind_some _ _).symm.trans H; with_reducible exact H2_) | with_reducible exact H | (rw [hy283]; exact H) | exact H
                            have Ny283 := Aside0.mk hy283
                            clear hy283
                            have H' := Aside0.mk H
                            clear H
                            go_wp2_with (first | ((with_reducible refine gate_dst (N := 73) rfl ?_); refine Kd.R_lit (Kd.int .i64) _ 3 ?hg (N := 73) ?hd (xs := ([x24_1, x9_14] : List Int)) (inner := [.int .i64 x24_1, .int .i64 x9_14]) (ok := fun _ => True) (okp := fun _ => True) ?hr ?hp (fun _ hk => hk) trivial (Below.refl _ _) (Nat.le_refl _) (by simp) ?_; (case hd => rfl); (case hg => rfl); (case hr => first | (go_simp; done) | (go_simp; rfl)); (case hp => exact (Reps.one (show Kd.M (Kd.int .i64) _ _ _ x24_1 [.int .i64 x24_1] from rfl) (Reps.one (show Kd.M (Kd.int .i64) _ _ _ x9_14 [.int .i64 x9_14] from rfl) (Reps.none _ _)))); intro v281 w32 ho33 hb hg_ hnew_; clear hg_ hnew_; (first | rw [← Ny280.out] at ho33 | (simp only [Int.reduceToNat] at ho33; rw [← Ny280.out] at ho33)); have n0_ := Aside0.mk (Kd.S_elder' (by (with_reducible repeat (first | apply Kd.S_alloc | apply Kd.S_drewN | apply Kd.S_drew)); exact HO_7.out) (Kd.R_base ho33) hb); have n1_ := Aside0.mk (Kd.R_lower ho33 (below_size (by repeat (first | (with_reducible first | exact HB.out | apply below_alloc | apply pw_below_drewN | apply below_drew1) | exact HB.out)))); have n2_ := Aside0.mk (below_step (by repeat (first | (with_reducible first | exact HB.out | apply below_alloc | apply pw_below_drewN | apply below_drew1) | exact HB.out)) hb); clear HO_7; clear HB; have HO_7 := n0_; have HO282 := n1_; have HB := n2_; clear n0_ n1_ n2_; clear hb ho33; obtain ⟨Ao35, co35, eo35⟩ := Kd.R_slice HO282.out; subst eo35) | ((with_reducible refine gate_builtin (b := .append) (xs := #[.tmp 70, .tmp 74]) rfl ?_); at_builtin; refine Kd.S_append (Kd.slice 3 (Kd.int .i64)) (w0 := w) w.heap.size rfl (.tmp 70) (.tmp 74) 35 48 (.slice none 0 0) 24 rfl Tryd.underlying35 info48 rfl (by decide) (by omega) u7 x7_1 y280 [.slice Ao35 y280.length co35] (fun _ => True) (fun k_ => some k_ = (.slice Ao35 y280.length co35 : Value).ownBlock) rfl rfl ?aP (fun k_ hk_ => ((Kd.R_mono (ok' := fun k_ => ((fun _ => True)) k_ ∧ some k_ ≠ (u7 : Value).ownBlock) (Kd.R_apart' (HO282.out) (Kd.S_typed HO_7.out) (by decide)) (fun k_ hk => ⟨trivial, hk.2⟩))).1 k_ hk_.symm) ?aF ?aO ?aB ?aS ?aL ?_; (case aP => exact Kd.M_row (Kd.R_mono (Kd.R_tight rfl (Kd.R_mono (ok' := fun k_ => ((fun _ => True)) k_ ∧ some k_ ≠ (u7 : Value).ownBlock) (Kd.R_apart' (HO282.out) (Kd.S_typed HO_7.out) (by decide)) (fun k_ hk => ⟨trivial, hk.2⟩))) (fun _ h_ => h_))); (case aB => exact (by repeat (first | (with_reducible first | exact HB.out | apply below_alloc | apply pw_below_drewN | apply below_drew1) | exact HB.out))); (case aF => exact (fun _ _ => trivial)); (case aO => exact (by (with_reducible repeat (first | apply Kd.S_alloc | apply Kd.S_drewN | apply Kd.S_drew)); exact Kd.S_mono HO_7.out (fun k_ hk => ⟨trivial, fun e_ => hk.2 e_⟩))); (case aS => exact (below_size (by repeat (first | (with_reducible first | exact HB.out | apply below_alloc | apply pw_below_drewN | apply below_drew1) | exact HB.out)))); (case aL => have := LMc31.out; omega); intro v284 w34 ho hb hg hat; rw [← Ny283.out] at ho; have n0_ := Aside0.mk (hb); have n1_ := Aside0.mk (ho); clear HB; clear HO_7; clear HO282; have HB := n0_; have HO285 := n1_; clear n0_ n1_; clear ho hb hg hat))
                            go_roundg kj22
                            case measure => have := HK1.out; have := HJ14.out; have := HJ22.out; omega
                            case rel => exact ⟨(y283), (wrap64 (x24_1 + 1)), (by first | rfl | (simp; done) | (simp [*]; done)), H', ⟨by have := HK1.out; have := HJ14.out; have := HJ22.out; omega⟩, ⟨by (with_reducible repeat (first | apply Kd.S_alloc | apply Kd.S_drewN | apply Kd.S_drew)); exact HO285.out⟩, ⟨by repeat (first | (with_reducible first | exact HB.out | apply below_alloc | apply pw_below_drewN | apply below_drew1) | exact HB.out)⟩⟩
                          · rw [if_neg c31] at H
                            exact absurd H (by simp)
                        · rw [if_neg c30] at H
                          have c30b0 : decide (x24_1 < x9_14) = false := decide_eq_false c30
                          clear c30
                          have H' := Aside0.mk H
                          clear H
                          go_wp2
                          go_roundg kj22
                          case measure => have := HK1.out; have := HJ14.out; have := HJ22.out; omega
                          case rel => exact ⟨(x7_1), (wrap64 (x24_1 + 1)), (by first | rfl | (simp; done) | (simp [*]; done)), H', ⟨by have := HK1.out; have := HJ14.out; have := HJ22.out; omega⟩, ⟨by (with_reducible repeat (first | apply Kd.S_alloc | apply Kd.S_drewN | apply Kd.S_drew)); exact HO_7.out⟩, ⟨by repeat (first | (with_reducible first | exact HB.out | apply below_alloc | apply pw_below_drewN | apply below_drew1) | exact HB.out)⟩⟩
            · rw [if_neg c13] at H
              exact absurd H (by simp)
          · rw [if_neg c12] at H
            exact absurd H (by simp)
        · rw [if_neg c11] at H
          have c11b0 : decide (x24_1 < (t275.size : Int)) = false := decide_eq_false c11
          clear c11
          simp only [Option.some.injEq, Prod.mk.injEq] at H
          obtain ⟨rfl, rfl⟩ := H
          go_wp2
          go_ret2
          exact ⟨_, by first | rfl | (simp [errW_none, errW_some] <;> rfl) | (simp [*, errW_none, errW_some] <;> rfl), by (with_reducible repeat (first | apply Kd.S_alloc | apply Kd.S_drewN | apply Kd.S_drew)); exact HO_7.out, by repeat (first | (with_reducible first | exact HB.out | apply below_alloc | apply pw_below_drewN | apply below_drew1) | exact HB.out)⟩
  · replace c3 := Bool.eq_false_iff.mpr c3
    subst c3
    have H1 : (some (([] : List (List Int)), false)) = some (r1, r2) := by rw [if_neg (show ¬ (false = true) by decide)] at H; exact H
    clear H
    have H := H1
    clear H1
    simp only [Option.some.injEq, Prod.mk.injEq] at H
    obtain ⟨rfl, rfl⟩ := H
    go_enter Tryd.func55, Tryd.ntmps55
    go_wp2_with (first | ((with_reducible refine gate_callee (f := 35) rfl ?_); refine goesL_ (some 12) rfl rfl Tryd.func35 (by kernel_rfl) rfl #[.string a0, .string (⟨#[110, 101, 115, 119]⟩ : ByteArray)] rfl (by (try simp only [List.map_toArray, List.map_cons, List.map_nil]); first | done | rfl | (simp only [List.length_drop, List.length_take]; rfl)) ?_; (with_reducible refine (impl_isForm.calls k a0 (⟨#[110, 101, 115, 119]⟩ : ByteArray) false _ (mx_of HMX.out (by repeat (first | (with_reducible first | exact HB.out | apply below_alloc | apply pw_below_drewN | apply below_drew1) | exact HB.out))) A2.out).mono ?_); rintro e w36 ⟨rfl, hb⟩; refine ⟨_, rfl, ?_⟩; have n0_ := Aside0.mk (below_step (by repeat (first | (with_reducible first | exact HB.out | apply below_alloc | apply pw_below_drewN | apply below_drew1) | exact HB.out)) hb); clear HB; have HB := n0_; clear n0_; (try clear hb); (try clear hb2); (try clear hk); (try clear hi)))
    go_ret2
    exact ⟨_, by first | rfl | (simp [errW_none, errW_some] <;> rfl) | (simp [*, errW_none, errW_some] <;> rfl), by first | exact Kd.S_nil _ _ _ _ _ | exact Kd.N_nil _ _ _ _ _ | exact Kd.V_nil _ _ _ _ _ | exact Kd.Q_nil _ _ _ _ _ | exact Kd.R_nil _ _ _ _ _, by repeat (first | (with_reducible first | exact HB.out | apply below_alloc | apply pw_below_drewN | apply below_drew1) | exact HB.out)⟩

end
section
open Go.RowKit Go.Proofs.YtjhbnkplpaffoaaDoorW.PrintWords Go.Proofs.YtjhbnkplpaffoaaDoorW.PrintLast Go.Proofs.YtjhbnkplpaffoaaDoorW.PrintMore
attribute [local go_sem] max2_int min2_int max_two min_two max_three min_three max_four min_four   -- for this text's walks alone
set_option linter.unusedVariables false
set_option linter.unusedSimpArgs false

def impl_isLayout.f (k : Nat) (a0 : ByteArray) (a1 : ByteArray) : Option (Bool) := (impl_pairs.f k a1).bind fun bt286 => ((impl_size.f a0).bind fun bt290 => ((impl_size.f a1).bind fun bt292 => (if bt286.2 = true then (if bt290.1 = bt292.1 then (some (bt290.2 == bt292.2)) else (some false)) else (some false))))
set_option maxHeartbeats 8000000 in
set_option maxRecDepth 100000 in
theorem impl_isLayout.calls (k : Nat) (a0 : ByteArray) (a1 : ByteArray) (r : Bool) (w : World) (hmx : ∃ m, w.cell? ⟨0, 0, none⟩ = some (.int .i64 m)) (h : impl_isLayout.f k a0 a1 = some r) :
    Calls Tryd.prog 46 #[.string a0, .string a1] w fun e w' => e = .returned (.bool r) ∧ Below w.heap.size w w' := by
  have HMX := Aside0.mk hmx
  clear hmx
  have HB := Aside0.mk (Below.refl w.heap.size w)
  have H : ((impl_pairs.f k a1).bind fun bt286 => ((impl_size.f a0).bind fun bt290 => ((impl_size.f a1).bind fun bt292 => (if bt286.2 = true then (if bt290.1 = bt292.1 then (some (bt290.2 == bt292.2)) else (some false)) else (some false))))) = some r := h
  clear h
  replace H := Option.bind_eq_some_iff.mp H
  obtain ⟨⟨t286, t287⟩, A30, H⟩ := H
  replace H : ((impl_size.f a0).bind fun bt290 => ((impl_size.f a1).bind fun bt292 => (if t287 = true then (if bt290.1 = bt292.1 then (some (bt290.2 == bt292.2)) else (some false)) else (some false)))) = some r := H
  have A3 := Aside0.mk A30
  clear A30
  replace H := Option.bind_eq_some_iff.mp H
  obtain ⟨⟨t290, t291⟩, A40, H⟩ := H
  replace H : ((impl_size.f a1).bind fun bt292 => (if t287 = true then (if t290 = bt292.1 then (some (t291 == bt292.2)) else (some false)) else (some false))) = some r := H
  have A4 := Aside0.mk A40
  clear A40
  replace H := Option.bind_eq_some_iff.mp H
  obtain ⟨⟨t292, t293⟩, A50, H⟩ := H
  replace H : (if t287 = true then (if t290 = t292 then (some (t291 == t293)) else (some false)) else (some false)) = some r := H
  have A5 := Aside0.mk A50
  clear A50
  by_cases c6 : t287 = true
  · subst c6
    have H1 : (if t290 = t292 then (some (t291 == t293)) else (some false)) = some r := by rw [if_pos rfl] at H; exact H
    clear H
    have H := H1
    clear H1
    by_cases c7 : t290 = t292
    · rw [if_pos c7] at H
      have c7b0 : (t290 == t292) = true := beq_iff_eq.mpr c7
      have c7b1 : (t290 != t292) = false := bne_eq_false_iff_eq.mpr c7
      clear c7
      obtain rfl := Option.some.inj H
      go_enter Tryd.func46, Tryd.ntmps46
      go_wp2_with (first | ((with_reducible refine gate_callee (f := 55) rfl ?_); refine goesL_ (some 13) rfl rfl Tryd.func55 (by kernel_rfl) rfl #[.string a1] rfl (by (try simp only [List.map_toArray, List.map_cons, List.map_nil]); first | done | rfl | (simp only [List.length_drop, List.length_take]; rfl)) ?_; (with_reducible refine (impl_pairs.calls k a1 t286 true _ (mx_of HMX.out (by repeat (first | (with_reducible first | exact HB.out | apply below_alloc | apply pw_below_drewN | apply below_drew1) | exact HB.out))) A3.out).mono ?_); rintro e w8 ⟨v288, rfl, ho0, hb⟩; refine ⟨_, rfl, ?_⟩; have n0_ := Aside0.mk (Kd.S_lower ho0 (below_size (by repeat (first | (with_reducible first | exact HB.out | apply below_alloc | apply pw_below_drewN | apply below_drew1) | exact HB.out)))); have n1_ := Aside0.mk (below_step (by repeat (first | (with_reducible first | exact HB.out | apply below_alloc | apply pw_below_drewN | apply below_drew1) | exact HB.out)) hb); clear HB; have HO289 := n0_; have HB := n1_; clear n0_ n1_; (try clear hb); (try clear hb2); (try clear hk); (try clear hi); (try clear ho0)) | ((with_reducible refine gate_callee (f := 36) rfl ?_); refine goesL_ (some 18) rfl rfl Tryd.func36 (by kernel_rfl) rfl #[.string a0] rfl (by (try simp only [List.map_toArray, List.map_cons, List.map_nil]); first | done | rfl | (simp only [List.length_drop, List.length_take]; rfl)) ?_; (with_reducible refine (impl_size.calls a0 t290 t291 _ (mx_of HMX.out (by repeat (first | (with_reducible first | exact HB.out | apply below_alloc | apply pw_below_drewN | apply below_drew1) | exact HB.out))) A4.out).mono ?_); rintro e w9 ⟨rfl, hb⟩; refine ⟨_, rfl, ?_⟩; have n0_ := Aside0.mk (Kd.S_below (by (with_reducible repeat (first | apply Kd.S_alloc | apply Kd.S_drewN | apply Kd.S_drew)); exact HO289.out) hb); have n1_ := Aside0.mk (below_step (by repeat (first | (with_reducible first | exact HB.out | apply below_alloc | apply pw_below_drewN | apply below_drew1) | exact HB.out)) hb); clear HO289; clear HB; have HO289 := n0_; have HB := n1_; clear n0_ n1_; (try clear hb); (try clear hb2); (try clear hk); (try clear hi)) | ((with_reducible refine gate_callee (f := 36) rfl ?_); refine goesL_ (some 23) rfl rfl Tryd.func36 (by kernel_rfl) rfl #[.string a1] rfl (by (try simp only [List.map_toArray, List.map_cons, List.map_nil]); first | done | rfl | (simp only [List.length_drop, List.length_take]; rfl)) ?_; (with_reducible refine (impl_size.calls a1 t292 t293 _ (mx_of HMX.out (by repeat (first | (with_reducible first | exact HB.out | apply below_alloc | apply pw_below_drewN | apply below_drew1) | exact HB.out))) A5.out).mono ?_); rintro e w10 ⟨rfl, hb⟩; refine ⟨_, rfl, ?_⟩; have n0_ := Aside0.mk (Kd.S_below (by (with_reducible repeat (first | apply Kd.S_alloc | apply Kd.S_drewN | apply Kd.S_drew)); exact HO289.out) hb); have n1_ := Aside0.mk (below_step (by repeat (first | (with_reducible first | exact HB.out | apply below_alloc | apply pw_below_drewN | apply below_drew1) | exact HB.out)) hb); clear HO289; clear HB; have HO289 := n0_; have HB := n1_; clear n0_ n1_; (try clear hb); (try clear hb2); (try clear hk); (try clear hi)))
      go_ret
      exact ⟨by first | rfl | (simp [errW_none, errW_some] <;> rfl) | (simp [*, errW_none, errW_some] <;> rfl), by repeat (first | (with_reducible first | exact HB.out | apply below_alloc | apply pw_below_drewN | apply below_drew1) | exact HB.out)⟩
    · rw [if_neg c7] at H
      have c7b0 : (t290 == t292) = false := beq_eq_false_iff_ne.mpr c7
      have c7b1 : (t290 != t292) = true := bne_iff_ne.mpr c7
      obtain rfl := Option.some.inj H
      go_enter Tryd.func46, Tryd.ntmps46
      go_wp2_with (first | ((with_reducible refine gate_callee (f := 55) rfl ?_); refine goesL_ (some 13) rfl rfl Tryd.func55 (by kernel_rfl) rfl #[.string a1] rfl (by (try simp only [List.map_toArray, List.map_cons, List.map_nil]); first | done | rfl | (simp only [List.length_drop, List.length_take]; rfl)) ?_; (with_reducible refine (impl_pairs.calls k a1 t286 true _ (mx_of HMX.out (by repeat (first | (with_reducible first | exact HB.out | apply below_alloc | apply pw_below_drewN | apply below_drew1) | exact HB.out))) A3.out).mono ?_); rintro e w11 ⟨v288, rfl, ho0, hb⟩; refine ⟨_, rfl, ?_⟩; have n0_ := Aside0.mk (Kd.S_lower ho0 (below_size (by repeat (first | (with_reducible first | exact HB.out | apply below_alloc | apply pw_below_drewN | apply below_drew1) | exact HB.out)))); have n1_ := Aside0.mk (below_step (by repeat (first | (with_reducible first | exact HB.out | apply below_alloc | apply pw_below_drewN | apply below_drew1) | exact HB.out)) hb); clear HB; have HO289 := n0_; have HB := n1_; clear n0_ n1_; (try clear hb); (try clear hb2); (try clear hk); (try clear hi); (try clear ho0)) | ((with_reducible refine gate_callee (f := 36) rfl ?_); refine goesL_ (some 18) rfl rfl Tryd.func36 (by kernel_rfl) rfl #[.string a0] rfl (by (try simp only [List.map_toArray, List.map_cons, List.map_nil]); first | done | rfl | (simp only [List.length_drop, List.length_take]; rfl)) ?_; (with_reducible refine (impl_size.calls a0 t290 t291 _ (mx_of HMX.out (by repeat (first | (with_reducible first | exact HB.out | apply below_alloc | apply pw_below_drewN | apply below_drew1) | exact HB.out))) A4.out).mono ?_); rintro e w12 ⟨rfl, hb⟩; refine ⟨_, rfl, ?_⟩; have n0_ := Aside0.mk (Kd.S_below (by (with_reducible repeat (first | apply Kd.S_alloc | apply Kd.S_drewN | apply Kd.S_drew)); exact HO289.out) hb); have n1_ := Aside0.mk (below_step (by repeat (first | (with_reducible first | exact HB.out | apply below_alloc | apply pw_below_drewN | apply below_drew1) | exact HB.out)) hb); clear HO289; clear HB; have HO289 := n0_; have HB := n1_; clear n0_ n1_; (try clear hb); (try clear hb2); (try clear hk); (try clear hi)) | ((with_reducible refine gate_callee (f := 36) rfl ?_); refine goesL_ (some 23) rfl rfl Tryd.func36 (by kernel_rfl) rfl #[.string a1] rfl (by (try simp only [List.map_toArray, List.map_cons, List.map_nil]); first | done | rfl | (simp only [List.length_drop, List.length_take]; rfl)) ?_; (with_reducible refine (impl_size.calls a1 t292 t293 _ (mx_of HMX.out (by repeat (first | (with_reducible first | exact HB.out | apply below_alloc | apply pw_below_drewN | apply below_drew1) | exact HB.out))) A5.out).mono ?_); rintro e w13 ⟨rfl, hb⟩; refine ⟨_, rfl, ?_⟩; have n0_ := Aside0.mk (Kd.S_below (by (with_reducible repeat (first | apply Kd.S_alloc | apply Kd.S_drewN | apply Kd.S_drew)); exact HO289.out) hb); have n1_ := Aside0.mk (below_step (by repeat (first | (with_reducible first | exact HB.out | apply below_alloc | apply pw_below_drewN | apply below_drew1) | exact HB.out)) hb); clear HO289; clear HB; have HO289 := n0_; have HB := n1_; clear n0_ n1_; (try clear hb); (try clear hb2); (try clear hk); (try clear hi)))
      go_ret
      exact ⟨by first | rfl | (simp [errW_none, errW_some] <;> rfl) | (simp [*, errW_none, errW_some] <;> rfl), by repeat (first | (with_reducible first | exact HB.out | apply below_alloc | apply pw_below_drewN | apply below_drew1) | exact HB.out)⟩
  · replace c6 := Bool.eq_false_iff.mpr c6
    subst c6
    have H1 : (some false) = some r := by rw [if_neg (show ¬ (false = true) by decide)] at H; exact H
    clear H
    have H := H1
    clear H1
    obtain rfl := Option.some.inj H
    go_enter Tryd.func46, Tryd.ntmps46
    go_wp2_with (first | ((with_reducible refine gate_callee (f := 55) rfl ?_); refine goesL_ (some 13) rfl rfl Tryd.func55 (by kernel_rfl) rfl #[.string a1] rfl (by (try simp only [List.map_toArray, List.map_cons, List.map_nil]); first | done | rfl | (simp only [List.length_drop, List.length_take]; rfl)) ?_; (with_reducible refine (impl_pairs.calls k a1 t286 false _ (mx_of HMX.out (by repeat (first | (with_reducible first | exact HB.out | apply below_alloc | apply pw_below_drewN | apply below_drew1) | exact HB.out))) A3.out).mono ?_); rintro e w14 ⟨v288, rfl, ho0, hb⟩; refine ⟨_, rfl, ?_⟩; have n0_ := Aside0.mk (Kd.S_lower ho0 (below_size (by repeat (first | (with_reducible first | exact HB.out | apply below_alloc | apply pw_below_drewN | apply below_drew1) | exact HB.out)))); have n1_ := Aside0.mk (below_step (by repeat (first | (with_reducible first | exact HB.out | apply below_alloc | apply pw_below_drewN | apply below_drew1) | exact HB.out)) hb); clear HB; have HO289 := n0_; have HB := n1_; clear n0_ n1_; (try clear hb); (try clear hb2); (try clear hk); (try clear hi); (try clear ho0)) | ((with_reducible refine gate_callee (f := 36) rfl ?_); refine goesL_ (some 18) rfl rfl Tryd.func36 (by kernel_rfl) rfl #[.string a0] rfl (by (try simp only [List.map_toArray, List.map_cons, List.map_nil]); first | done | rfl | (simp only [List.length_drop, List.length_take]; rfl)) ?_; (with_reducible refine (impl_size.calls a0 t290 t291 _ (mx_of HMX.out (by repeat (first | (with_reducible first | exact HB.out | apply below_alloc | apply pw_below_drewN | apply below_drew1) | exact HB.out))) A4.out).mono ?_); rintro e w15 ⟨rfl, hb⟩; refine ⟨_, rfl, ?_⟩; have n0_ := Aside0.mk (Kd.S_below (by (with_reducible repeat (first | apply Kd.S_alloc | apply Kd.S_drewN | apply Kd.S_drew)); exact HO289.out) hb); have n1_ := Aside0.mk (below_step (by repeat (first | (with_reducible first | exact HB.out | apply below_alloc | apply pw_below_drewN | apply below_drew1) | exact HB.out)) hb); clear HO289; clear HB; have HO289 := n0_; have HB := n1_; clear n0_ n1_; (try clear hb); (try clear hb2); (try clear hk); (try clear hi)) | ((with_reducible refine gate_callee (f := 36) rfl ?_); refine goesL_ (some 23) rfl rfl Tryd.func36 (by kernel_rfl) rfl #[.string a1] rfl (by (try simp only [List.map_toArray, List.map_cons, List.map_nil]); first | done | rfl | (simp only [List.length_drop, List.length_take]; rfl)) ?_; (with_reducible refine (impl_size.calls a1 t292 t293 _ (mx_of HMX.out (by repeat (first | (with_reducible first | exact HB.out | apply below_alloc | apply pw_below_drewN | apply below_drew1) | exact HB.out))) A5.out).mono ?_); rintro e w16 ⟨rfl, hb⟩; refine ⟨_, rfl, ?_⟩; have n0_ := Aside0.mk (Kd.S_below (by (with_reducible repeat (first | apply Kd.S_alloc | apply Kd.S_drewN | apply Kd.S_drew)); exact HO289.out) hb); have n1_ := Aside0.mk (below_step (by repeat (first | (with_reducible first | exact HB.out | apply below_alloc | apply pw_below_drewN | apply below_drew1) | exact HB.out)) hb); clear HO289; clear HB; have HO289 := n0_; have HB := n1_; clear n0_ n1_; (try clear hb); (try clear hb2); (try clear hk); (try clear hi)))
    go_ret
    exact ⟨by first | rfl | (simp [errW_none, errW_some] <;> rfl) | (simp [*, errW_none, errW_some] <;> rfl), by repeat (first | (with_reducible first | exact HB.out | apply below_alloc | apply pw_below_drewN | apply below_drew1) | exact HB.out)⟩

end
section
open Go.RowKit Go.Proofs.YtjhbnkplpaffoaaDoorW.PrintWords Go.Proofs.YtjhbnkplpaffoaaDoorW.PrintLast Go.Proofs.YtjhbnkplpaffoaaDoorW.PrintMore
attribute [local go_sem] max2_int min2_int max_two min_two max_three min_three max_four min_four   -- for this text's walks alone
set_option linter.unusedVariables false
set_option linter.unusedSimpArgs false

def impl_IsLayout.f (k : Nat) (a0 : ByteArray) (a1 : ByteArray) : Option (Bool × Bool) := (impl_IsTable.f k a0).bind fun t294 => (if t294 = true then ((impl_isLayout.f k a0 a1).bind fun t295 => (some (t295, true))) else (some (false, false)))
set_option maxRecDepth 100000 in
set_option maxHeartbeats 40000000 in
theorem impl_IsLayout.calls (k : Nat) (a0 : ByteArray) (a1 : ByteArray) (r1 : Bool) (r2 : Bool) (w : World) (hmx : ∃ m, w.cell? ⟨0, 0, none⟩ = some (.int .i64 m)) (h : impl_IsLayout.f k a0 a1 = some (r1, r2)) :
    Calls Tryd.prog 22 #[.string a0, .string a1] w fun e w' => e = .returned (.tuple #[.bool r1, .bool r2]) ∧ Below w.heap.size w w' := by
  obtain ⟨cs, hcs⟩ : ∃ cs, cs = [old w w.heap.size] := ⟨_, rfl⟩
  have hp : Hp w cs w := by rw [hcs]; exact Hp.old_start w
  have hc2 : ∀ W, Hp w cs W → Below w.heap.size w W := fun W h => by rw [hcs] at h; exact h.since 0 _ rfl
  have hM : ∀ W, Hp w cs W → ∃ m, W.cell? ⟨0, 0, none⟩ = some (.int .i64 m) := fun W h => hmx.imp fun m q => ((hc2 W h).cell (World.block_lt_of_cell? _ _ q)).trans q
  clear hcs
  unfold impl_IsLayout.f at h
  obtain ⟨t_2, hv_1, h⟩ := Option.bind_eq_some_iff.mp h
  try dsimp only at h
  refine sx_enter (N := 12) (l := [.string a0, .string a1]) Tryd.func22 rfl rfl rfl ?_
  refine wp_seq ?_
  refine sx_region ?_
  refine sx_rd 4 (.bool false) (by rfl) (by kernel_rfl) ?_
  refine sx_rd 5 (.bool false) (by rfl) (by kernel_rfl) ?_
  refine sx_nil ?_
  refine ex_then_n ?_
  refine wp_seq ?_
  refine wp_seq ?_
  refine sx_region ?_
  refine sx_rd 6 (.string a0) (by rfl) (by kernel_rfl) ?_
  refine sx_call 7 (by rfl) (by kernel_rfl) ((impl_IsTable.calls _ a0 _ _ (hM _ (hp)) hv_1).mono ?_)
  rintro _ W_3 ⟨rfl, hb⟩
  refine ⟨_, rfl, ?_⟩
  replace hp := hp.below hb
  clear hb
  refine sx_rd 8 (.bool (!t_2)) (by rfl) (by kernel_rfl) ?_
  refine sx_nil ?_
  refine ex_then_n ?_
  by_cases hc_4 : t_2 = true
  ·
    rw [if_pos hc_4] at h
    obtain ⟨t_6, hv_5, h⟩ := Option.bind_eq_some_iff.mp h
    try dsimp only at h
    refine sx_else (!t_2) (by rfl) (show (!t_2) = false from by rw [hc_4]; rfl) ?_
    refine wp_skip ?_
    refine ex_then_n ?_
    refine wp_seq ?_
    refine sx_region ?_
    refine sx_rd 9 (.string a0) (by rfl) (by kernel_rfl) ?_
    refine sx_rd 10 (.string a1) (by rfl) (by kernel_rfl) ?_
    refine sx_call 11 (by rfl) (by kernel_rfl) ((impl_isLayout.calls _ a0 a1 _ _ (hM _ (hp)) hv_5).mono ?_)
    rintro _ W_7 ⟨rfl, hb⟩
    refine ⟨_, rfl, ?_⟩
    replace hp := hp.below hb
    clear hb
    refine sx_rd 4 (.bool t_6) (by rfl) (by kernel_rfl) ?_
    refine sx_rd 5 (.bool true) (by rfl) (by kernel_rfl) ?_
    refine sx_nil ?_
    refine ex_then_n ?_
    refine wp_ret ?_
    refine sx_end (.tuple #[.bool t_6, .bool true]) (res2 4 5 (by rfl)) ?_
    simp only [Option.some.injEq, Prod.mk.injEq] at h; obtain ⟨rfl, rfl⟩ := h
    exact ⟨rfl, hc2 _ (hp)⟩
  ·
    rw [if_neg hc_4] at h
    refine sx_then (!t_2) (by rfl) (show (!t_2) = true from by rw [(Bool.eq_false_iff.mpr hc_4)]; rfl) ?_
    refine wp_seq ?_
    refine sx_region ?_
    refine sx_rd 4 (.bool false) (by rfl) (by kernel_rfl) ?_
    refine sx_rd 5 (.bool false) (by rfl) (by kernel_rfl) ?_
    refine sx_nil ?_
    refine ex_then_n ?_
    refine wp_ret ?_
    refine ex_then_r ?_
    refine sx_end (.tuple #[.bool false, .bool false]) (res2 4 5 (by rfl)) ?_
    simp only [Option.some.injEq, Prod.mk.injEq] at h; obtain ⟨rfl, rfl⟩ := h
    exact ⟨rfl, hc2 _ (hp)⟩
end
end Go.Proofs.YtjhbnkplpaffoaaDoor.Hd
