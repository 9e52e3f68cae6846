-- Printed by hprint.py and laid together by pack.py (this session's programs over the kit's print program). Lean checks it.
import Derived.Test.YtjhbnkplpaffoaaDoorMSx5
import Derived.Test.YtjhbnkplpaffoaaDoorMSxL
import Derived.Test.YtjhbnkplpaffoaaDoorG0
import Derived.Test.YtjhbnkplpaffoaaDoorG2
import Derived.Test.YtjhbnkplpaffoaaDoorG1
import Derived.Test.YtjhbnkplpaffoaaDoorMMx
import Derived.Test.YtjhbnkplpaffoaaDoorMStrs
namespace Go.Proofs.YtjhbnkplpaffoaaDoor.Hd
section
open Go.RowKit Go.Proofs.YtjhbnkplpaffoaaDoorW.PrintWords Go.Proofs.YtjhbnkplpaffoaaDoorW.PrintLast Go.Proofs.YtjhbnkplpaffoaaDoorW.PrintMore
attribute [local go_sem] max2_int min2_int max_two min_two max_three min_three max_four min_four   -- for this text's walks alone
set_option linter.unusedVariables false
set_option linter.unusedSimpArgs false

mutual
def spec_CountNumber.j0 : Nat → Int → Bool → Int → Int → List Int → Option (Int × Bool)
  | 0, _, _, _, _, _ => none
  | k + 1, x1, x22, x172000, x172001, x172002 => if x22 = true then (some (0, false)) else (spec_CountNumber.l0 k x1 0 x172002 (x172002.length : Int) 0)
def spec_CountNumber.l0 : Nat → Int → Int → List Int → Int → Int → Option (Int × Bool)
  | 0, _, _, _, _, _ => none
  | k + 1, x1, x8, x24, x25, x26 => if x26 < x25 then (if 0 ≤ x26 then (if x26 < (x24.length : Int) then (if (rd x24 x26) = x1 then (spec_CountNumber.l0 k x1 (wrap64 (x8 + 1)) x24 x25 (wrap64 (x26 + 1))) else (spec_CountNumber.l0 k x1 x8 x24 x25 (wrap64 (x26 + 1)))) else (none)) else (none)) else (some (x8, true))
end
def spec_CountNumber.f (k : Nat) (a0 : ByteArray) (a1 : Int) : Option (Int × Bool) := (spec_taRead.f k a0).bind fun bt165 => (if bt165.2.2.2 = true then ((spec_tiNumber.f a1).bind fun t172 => (spec_CountNumber.j0 k a1 (!t172) bt165.1 bt165.2.1 bt165.2.2.1)) else (spec_CountNumber.j0 k a1 true bt165.1 bt165.2.1 bt165.2.2.1))
set_option maxRecDepth 100000 in
set_option maxHeartbeats 40000000 in
theorem spec_CountNumber.calls (k : Nat) (a0 : ByteArray) (a1 : Int) (r1 : Int) (r2 : Bool) (w : World) (h : spec_CountNumber.f k a0 a1 = some (r1, r2)) :
    Calls Tryd.prog 15 #[.string a0, .int .i64 a1] w fun e w' => e = .returned (.tuple #[.int .i64 r1, .bool r2]) ∧ Below w.heap.size w w' := by
  obtain ⟨cs, hcs⟩ : ∃ cs, cs = [old w w.heap.size] := ⟨_, rfl⟩
  have hp : Hp w cs w := by rw [hcs]; exact Hp.old_start w
  have hc2 : ∀ W, Hp w cs W → Below w.heap.size w W := fun W h => by rw [hcs] at h; exact h.since 0 _ rfl
  clear hcs
  unfold spec_CountNumber.f at h
  obtain ⟨⟨t_2, t_3, t_4, t_5⟩, hv_1, h⟩ := Option.bind_eq_some_iff.mp h
  try dsimp only at h
  refine sx_enter (N := 37) (l := [.string a0, .int .i64 a1]) Tryd.func15 rfl rfl rfl ?_
  refine wp_seq ?_
  refine sx_region ?_
  refine sx_rd 4 (.int .i64 0) (by rfl) (by kernel_rfl) ?_
  refine sx_rd 5 (.bool false) (by rfl) (by kernel_rfl) ?_
  refine sx_nil ?_
  refine ex_then_n ?_
  refine wp_seq ?_
  refine sx_region ?_
  refine sx_rd 12 (.string a0) (by rfl) (by kernel_rfl) ?_
  refine sx_call 13 (by rfl) (by kernel_rfl) ((spec_taRead.calls _ a0 _ _ _ _ _ hv_1).mono ?_)
  rintro _ W_11 ⟨v_7, rfl, hR_6, hb⟩
  refine ⟨_, rfl, ?_⟩
  obtain ⟨A_8, c_9, rfl, hcc_c_9, _⟩ := Kd.R_reads hR_6
  obtain ⟨F_10, hp⟩ : ∃ F, Hp w (row (Kd.int .i64) 3 w.heap.size (.slice A_8 t_4.length c_9) t_4 F :: cs) _ := ⟨_, Hp.made hp hb hR_6⟩
  refine sx_rd 11 (.tuple #[.agg #[.int .i64 t_2, .int .i64 t_3, .slice A_8 t_4.length c_9], .bool t_5]) (by rfl) (by kernel_rfl) ?_
  refine sx_rd 14 (.agg #[.int .i64 t_2, .int .i64 t_3, .slice A_8 t_4.length c_9]) (by rfl) (by kernel_rfl) ?_
  refine sx_rd 15 (.bool t_5) (by rfl) (by kernel_rfl) ?_
  refine sx_box 6 hp #[.int .i64 0, .int .i64 0, .slice none 0 0] 50 (by rfl) (fun W => by kernel_rfl) ?_
  intro g_12 W_13 hp
  refine sx_store (t := 50) (p := (.tmp 6)) (x := (.tmp 14)) (by rfl) (by rfl) 0 (by rfl) 0 [.int .i64 t_2, .int .i64 t_3, .slice A_8 t_4.length c_9] (by rfl) (by rfl) (by kernel_rfl) (by simp [Value.oneCell']) (by show 3 ≤ 3; omega) #[.int .i64 t_2, .int .i64 t_3, .slice A_8 t_4.length c_9] (by rfl) hp ?_
  intro W_14 hp; simp only [List.set_cons_succ, List.set_cons_zero] at hp
  refine sx_rd 7 (.bool t_5) (by rfl) (by kernel_rfl) ?_
  refine sx_nil ?_
  refine ex_then_n ?_
  refine wp_seq ?_
  refine wp_seq ?_
  by_cases hc_15 : t_5 = true
  ·
    rw [if_pos hc_15] at h
    obtain ⟨t_17, hv_16, h⟩ := Option.bind_eq_some_iff.mp h
    try dsimp only at h
    rcases k with _ | k
    · simp [spec_CountNumber.j0] at h
    simp only [spec_CountNumber.j0] at h
    refine sx_region ?_
    refine sx_rd 16 (.bool t_5) (by rfl) (by kernel_rfl) ?_
    refine sx_rd 17 (.bool false) (by rfl) (bv (show (!t_5) = false from by rw [hc_15]; rfl) (by kernel_rfl)) ?_
    refine sx_rd 18 (.bool false) (by rfl) (by kernel_rfl) ?_
    refine sx_want (by rfl) ?_
    refine sx_rd 19 (.int .i64 a1) (by rfl) (by kernel_rfl) ?_
    refine sx_want (by rfl) ?_
    refine sx_call 20 (by rfl) (by kernel_rfl) ((spec_tiNumber.calls a1 _ _ hv_16).mono ?_)
    rintro _ W_18 ⟨rfl, hb⟩
    refine ⟨_, rfl, ?_⟩
    replace hp := hp.below hb.below
    clear hb
    refine sx_want (by rfl) ?_
    refine sx_rd 21 (.bool (!t_17)) (by rfl) (by kernel_rfl) ?_
    refine sx_rd 22 (.bool (!t_17)) (by rfl) (by kernel_rfl) ?_
    refine sx_nil ?_
    refine ex_then_n ?_
    by_cases hc_19 : (!t_17) = true
    ·
      rw [if_pos hc_19] at h
      refine sx_then (!t_17) (by rfl) hc_19 ?_
      refine wp_seq ?_
      refine sx_region ?_
      refine sx_rd 4 (.int .i64 0) (by rfl) (by kernel_rfl) ?_
      refine sx_rd 5 (.bool false) (by rfl) (by kernel_rfl) ?_
      refine sx_nil ?_
      refine ex_then_n ?_
      refine wp_ret ?_
      refine ex_then_r ?_
      refine sx_end (.tuple #[.int .i64 0, .bool false]) (res2 4 5 (by rfl)) ?_
      simp only [Option.some.injEq, Prod.mk.injEq] at h; obtain ⟨rfl, rfl⟩ := h
      exact ⟨rfl, hc2 _ (hp.tail.tail)⟩
    ·
      rw [if_neg hc_19] at h
      refine sx_else (!t_17) (by rfl) (Bool.eq_false_iff.mpr hc_19) ?_
      refine wp_skip ?_
      refine ex_then_n ?_
      refine wp_seq ?_
      refine sx_region ?_
      refine sx_rd 8 (.int .i64 0) (by rfl) (by kernel_rfl) ?_
      refine sx_nil ?_
      refine ex_then_n ?_
      refine wp_seq ?_
      refine wp_seq ?_
      refine sx_region ?_
      refine sx_rd 23 (.pointer (some ⟨g_12, 2, none⟩)) (by rfl) (by kernel_rfl) ?_
      refine sx_rd 24 (.slice A_8 t_4.length c_9) (by rfl) (ld1 (t := 48) (p := (.tmp 23)) (by rfl) (by rfl) (by kernel_rfl) (hp.cell 0 (by rfl) 2 _ (by rfl))) ?_
      refine sx_rd 25 (.int .i64 (t_4.length : Int)) (by rfl) (by kernel_rfl) ?_
      refine sx_rd 26 (.int .i64 0) (by rfl) (by kernel_rfl) ?_
      refine sx_nil ?_
      refine ex_then_n ?_
      refine wp_block ?_
      refine wp_loop_ghost (fun n_ a_ W => ∃ (r_ : List (Nat × Value)) (k_22 : Nat) (x_20 : Int) (x_21 : Int)  , n_ = k_22 + 1 ∧ a_ = fr 37 ([(1, .int .i64 a1), (8, .int .i64 x_20), (24, .slice A_8 t_4.length c_9), (25, .int .i64 (t_4.length : Int)), (26, .int .i64 x_21)] ++ r_) ∧ Hp w (blk g_12 #[.int .i64 t_2, .int .i64 t_3, .slice A_8 t_4.length c_9] 50 :: row (Kd.int .i64) 3 w.heap.size (.slice A_8 t_4.length c_9) t_4 F_10 :: cs) W ∧ (spec_CountNumber.l0 k_22 a1 x_20 t_4 (t_4.length : Int) x_21 = some (r1, r2)) ∧ (k_22 ≤ k)) _ ⟨_, k, 0, 0, rfl, fr_front [(1, .int .i64 a1), (8, .int .i64 0), (24, .slice A_8 t_4.length c_9), (25, .int .i64 (t_4.length : Int)), (26, .int .i64 0)] ⟨rfl, rfl, rfl, rfl, rfl, trivial⟩, (hp.take [0, 1] 2 (by decide) (by simp)), h, (Nat.le_refl _)⟩ ?_
      rintro _ _ W_24 ⟨r_, k_22, x_20, x_21, rfl, rfl, hp, h, hk_23⟩
      rcases k_22 with _ | k_22
      · simp [spec_CountNumber.l0] at h
      simp only [spec_CountNumber.l0] at h
      refine wp_seq ?_
      refine sx_region ?_
      refine sx_rd 27 (.bool (decide (x_21 < (t_4.length : Int)))) (by rfl) (by kernel_rfl) ?_
      refine sx_nil ?_
      refine ex_then_n ?_
      refine wp_seq ?_
      by_cases hc_25 : x_21 < (t_4.length : Int)
      ·
        rw [if_pos hc_25] at h
        by_cases hc_26 : 0 ≤ x_21
        case neg => rw [if_neg hc_26] at h; cases h
        rw [if_pos hc_26] at h
        by_cases hc_27 : x_21 < (t_4.length : Int)
        case neg => rw [if_neg hc_27] at h; cases h
        rw [if_pos hc_27] at h
        refine sx_then (decide (x_21 < (t_4.length : Int))) (by rfl) (decide_eq_true hc_25) ?_
        refine wp_skip ?_
        refine ex_then_n ?_
        refine wp_seq ?_
        refine wp_block ?_
        refine wp_seq ?_
        refine sx_region ?_
        refine sx_rd 28 (.pointer (some (adr A_8 x_21 1))) (by rfl) (ix_run (d := (Kd.int .i64)) (row_C (hp.at_ 1 _ (by rfl))) (t := 48) (by rfl) (by rfl) (by rfl) Tryd.underlying48 (by kernel_rfl) (by omega) (by omega)) ?_
        refine sx_rd 29 (.int .i64 (rd t_4 x_21)) (by rfl) (ld1 (t := 3) (p := (.tmp 28)) (by rfl) (by rfl) (by kernel_rfl) (el_cell (d := (Kd.int .i64)) (row_C (hp.at_ 1 _ (by rfl))) 0 x_21 (by omega) (by omega) (cells := [.int .i64 (rd t_4 x_21)]) (fun cs h => h) 0 _ (by rfl))) ?_
        refine sx_rd 10 (.int .i64 (rd t_4 x_21)) (by rfl) (by kernel_rfl) ?_
        refine sx_nil ?_
        refine ex_then_n ?_
        refine wp_seq ?_
        refine sx_region ?_
        refine sx_rd 30 (.int .i64 (rd t_4 x_21)) (by rfl) (by kernel_rfl) ?_
        refine sx_rd 31 (.int .i64 a1) (by rfl) (by kernel_rfl) ?_
        refine sx_rd 32 (.bool ((rd t_4 x_21) == a1)) (by rfl) (by kernel_rfl) ?_
        refine sx_nil ?_
        refine ex_then_n ?_
        by_cases hc_28 : (rd t_4 x_21) = a1
        ·
          rw [if_pos hc_28] at h
          refine sx_then ((rd t_4 x_21) == a1) (by rfl) (beq_iff_eq.mpr hc_28) ?_
          refine sx_region ?_
          refine sx_rd 33 (.int .i64 x_20) (by rfl) (by kernel_rfl) ?_
          refine sx_rd 34 (.int .i64 (wrap64 (x_20 + 1))) (by rfl) (wr_w (by kernel_rfl)) ?_
          refine sx_rd 8 (.int .i64 (wrap64 (x_20 + 1))) (by rfl) (by kernel_rfl) ?_
          refine sx_nil ?_
          refine ex_blk_n ?_
          refine ex_then_n ?_
          refine sx_region ?_
          refine sx_rd 35 (.int .i64 (wrap64 (x_21 + 1))) (by rfl) (wr_w (by kernel_rfl)) ?_
          refine sx_rd 26 (.int .i64 (wrap64 (x_21 + 1))) (by rfl) (by kernel_rfl) ?_
          refine sx_nil ?_
          refine ex_then_n ?_
          exact ⟨_, (by omega), _, k_22, (wrap64 (x_20 + 1)), (wrap64 (x_21 + 1)), rfl, fr_front [(1, .int .i64 a1), (8, .int .i64 (wrap64 (x_20 + 1))), (24, .slice A_8 t_4.length c_9), (25, .int .i64 (t_4.length : Int)), (26, .int .i64 (wrap64 (x_21 + 1)))] ⟨rfl, rfl, rfl, rfl, rfl, trivial⟩, (hp.take [0, 1] 2 (by decide) (by simp)), h, (by omega)⟩
        ·
          rw [if_neg hc_28] at h
          refine sx_else ((rd t_4 x_21) == a1) (by rfl) (beq_eq_false_iff_ne.mpr hc_28) ?_
          refine wp_skip ?_
          refine ex_blk_n ?_
          refine ex_then_n ?_
          refine sx_region ?_
          refine sx_rd 35 (.int .i64 (wrap64 (x_21 + 1))) (by rfl) (wr_w (by kernel_rfl)) ?_
          refine sx_rd 26 (.int .i64 (wrap64 (x_21 + 1))) (by rfl) (by kernel_rfl) ?_
          refine sx_nil ?_
          refine ex_then_n ?_
          exact ⟨_, (by omega), _, k_22, x_20, (wrap64 (x_21 + 1)), rfl, fr_front [(1, .int .i64 a1), (8, .int .i64 x_20), (24, .slice A_8 t_4.length c_9), (25, .int .i64 (t_4.length : Int)), (26, .int .i64 (wrap64 (x_21 + 1)))] ⟨rfl, rfl, rfl, rfl, rfl, trivial⟩, (hp.take [0, 1] 2 (by decide) (by simp)), h, (by omega)⟩
      ·
        rw [if_neg hc_25] at h
        refine sx_else (decide (x_21 < (t_4.length : Int))) (by rfl) (decide_eq_false hc_25) ?_
        refine wp_exit ?_
        refine ex_then_e (ex_then_e (ex_blk_here ?_))
        refine ex_then_n ?_
        refine wp_seq ?_
        refine sx_region ?_
        refine sx_rd 36 (.int .i64 x_20) (by rfl) (by kernel_rfl) ?_
        refine sx_rd 4 (.int .i64 x_20) (by rfl) (by kernel_rfl) ?_
        refine sx_rd 5 (.bool true) (by rfl) (by kernel_rfl) ?_
        refine sx_nil ?_
        refine ex_then_n ?_
        refine wp_ret ?_
        refine sx_end (.tuple #[.int .i64 x_20, .bool true]) (res2 4 5 (by rfl)) ?_
        simp only [Option.some.injEq, Prod.mk.injEq] at h; obtain ⟨rfl, rfl⟩ := h
        exact ⟨rfl, hc2 _ (hp.tail.tail)⟩
  ·
    rw [if_neg hc_15] at h
    rcases k with _ | k
    · simp [spec_CountNumber.j0] at h
    simp only [spec_CountNumber.j0] at h
    rw [if_pos (by simp)] at h
    refine sx_region ?_
    refine sx_rd 16 (.bool t_5) (by rfl) (by kernel_rfl) ?_
    refine sx_rd 17 (.bool true) (by rfl) (bv (show (!t_5) = true from by rw [(Bool.eq_false_iff.mpr hc_15)]; rfl) (by kernel_rfl)) ?_
    refine sx_rd 18 (.bool true) (by rfl) (by kernel_rfl) ?_
    refine sx_skip 19 (by rfl) (by rfl) (by rfl) ?_
    refine sx_skip 20 (by rfl) (by rfl) (by rfl) ?_
    refine sx_skip 21 (by rfl) (by rfl) (by rfl) ?_
    refine sx_rd 22 (.bool true) (by rfl) (by kernel_rfl) ?_
    refine sx_nil ?_
    refine ex_then_n ?_
    refine sx_then true (by rfl) rfl ?_
    refine wp_seq ?_
    refine sx_region ?_
    refine sx_rd 4 (.int .i64 0) (by rfl) (by kernel_rfl) ?_
    refine sx_rd 5 (.bool false) (by rfl) (by kernel_rfl) ?_
    refine sx_nil ?_
    refine ex_then_n ?_
    refine wp_ret ?_
    refine ex_then_r ?_
    refine sx_end (.tuple #[.int .i64 0, .bool false]) (res2 4 5 (by rfl)) ?_
    simp only [Option.some.injEq, Prod.mk.injEq] at h; obtain ⟨rfl, rfl⟩ := h
    exact ⟨rfl, hc2 _ (hp.tail.tail)⟩
end
section
open Go.RowKit Go.Proofs.YtjhbnkplpaffoaaDoorW.PrintWords Go.Proofs.YtjhbnkplpaffoaaDoorW.PrintLast Go.Proofs.YtjhbnkplpaffoaaDoorW.PrintMore
attribute [local go_sem] max2_int min2_int max_two min_two max_three min_three max_four min_four   -- for this text's walks alone
set_option linter.unusedVariables false
set_option linter.unusedSimpArgs false

def impl_CountNumber.f (k : Nat) (a0 : ByteArray) (a1 : Int) : Option (Int × Bool) := (impl_IsTable.f k a0).bind fun t175 => (if t175 = true then ((impl_isNumber.f a1).bind fun t176 => (if t176 = true then ((strings_Count.f a0 (strOfNums (([(wrap64 (48 + a1)) % 256] : List Int)))).bind fun t180 => (some (t180, true))) else (some (0, false)))) else (some (0, false)))
set_option maxHeartbeats 8000000 in
set_option maxRecDepth 100000 in
theorem impl_CountNumber.calls (k : Nat) (a0 : ByteArray) (a1 : Int) (r1 : Int) (r2 : Bool) (w : World) (hmx : ∃ m, w.cell? ⟨0, 0, none⟩ = some (.int .i64 m)) (h : impl_CountNumber.f k a0 a1 = some (r1, r2)) :
    Calls Tryd.prog 16 #[.string a0, .int .i64 a1] w fun e w' => e = .returned (.tuple #[.int .i64 r1, .bool r2]) ∧ Below w.heap.size w w' := by
  have HMX := Aside0.mk hmx
  clear hmx
  have HB := Aside0.mk (Below.refl w.heap.size w)
  have H : ((impl_IsTable.f k a0).bind fun t175 => (if t175 = true then ((impl_isNumber.f a1).bind fun t176 => (if t176 = true then ((strings_Count.f a0 (strOfNums (([(wrap64 (48 + a1)) % 256] : List Int)))).bind fun t180 => (some (t180, true))) else (some (0, false)))) else (some (0, false)))) = some (r1, r2) := h
  clear h
  replace H := Option.bind_eq_some_iff.mp H
  obtain ⟨t175, A30, H⟩ := H
  replace H : (if t175 = true then ((impl_isNumber.f a1).bind fun t176 => (if t176 = true then ((strings_Count.f a0 (strOfNums (([(wrap64 (48 + a1)) % 256] : List Int)))).bind fun t180 => (some (t180, true))) else (some (0, false)))) else (some (0, false))) = some (r1, r2) := H
  have A3 := Aside0.mk A30
  clear A30
  by_cases c4 : t175 = true
  · subst c4
    have H1 : ((impl_isNumber.f a1).bind fun t176 => (if t176 = true then ((strings_Count.f a0 (strOfNums (([(wrap64 (48 + a1)) % 256] : List Int)))).bind fun t180 => (some (t180, true))) else (some (0, false)))) = some (r1, r2) := by rw [if_pos rfl] at H; exact H
    clear H
    have H := H1
    clear H1
    replace H := Option.bind_eq_some_iff.mp H
    obtain ⟨t176, A50, H⟩ := H
    replace H : (if t176 = true then ((strings_Count.f a0 (strOfNums (([(wrap64 (48 + a1)) % 256] : List Int)))).bind fun t180 => (some (t180, true))) else (some (0, false))) = some (r1, r2) := H
    have A5 := Aside0.mk A50
    clear A50
    by_cases c6 : t176 = true
    · subst c6
      have H1 : ((strings_Count.f a0 (strOfNums (([(wrap64 (48 + a1)) % 256] : List Int)))).bind fun t180 => (some (t180, true))) = some (r1, r2) := by rw [if_pos rfl] at H; exact H
      clear H
      have H := H1
      clear H1
      obtain ⟨y177, hy177⟩ : ∃ y_ : List Int, y_ = (([(wrap64 (48 + a1)) % 256] : List Int)) := ⟨_, rfl⟩
      replace H : ((strings_Count.f a0 (strOfNums y177)).bind fun t180 => (some (t180, true))) = some (r1, r2) := by first | (rw [hy177]; with_reducible exact H) | (have H2_ := (Option.bind_some _ _).symm.trans H; rw [hy177]; with_reducible exact H2_) | (have H2_ := (Option.bind_some _ _).symm.trans H; with_reducible exact H2_) | with_reducible exact H | (rw [hy177]; exact H) | exact H
      have Ny177 := Aside0.mk hy177
      clear hy177
      replace H := Option.bind_eq_some_iff.mp H
      obtain ⟨t180, A70, H⟩ := H
      replace H : (some (t180, true)) = some (r1, r2) := H
      have A7 := Aside0.mk A70
      clear A70
      simp only [Option.some.injEq, Prod.mk.injEq] at H
      obtain ⟨rfl, rfl⟩ := H
      go_enter Tryd.func16, Tryd.ntmps16
      go_wp2_with (first | ((with_reducible refine gate_callee (f := 12) rfl ?_); refine goesL_ (some 7) rfl rfl Tryd.func12 (by kernel_rfl) rfl #[.string a0] rfl (by (try simp only [List.map_toArray, List.map_cons, List.map_nil]); first | done | rfl | (simp only [List.length_drop, List.length_take]; rfl)) ?_; (with_reducible refine (impl_IsTable.calls k a0 true _ (mx_of HMX.out (by repeat (first | (with_reducible first | exact HB.out | apply below_alloc | apply pw_below_drewN | apply below_drew1) | exact HB.out))) A3.out).mono ?_); rintro e w8 ⟨rfl, hb⟩; refine ⟨_, rfl, ?_⟩; have n0_ := Aside0.mk (below_step (by repeat (first | (with_reducible first | exact HB.out | apply below_alloc | apply pw_below_drewN | apply below_drew1) | exact HB.out)) hb); clear HB; have HB := n0_; clear n0_; (try clear hb); (try clear hb2); (try clear hk); (try clear hi)) | (go_at_call 38; (with_reducible refine (impl_isNumber.calls a1 true _ A5.out).mono ?_); rintro e w' ⟨rfl, ⟨nd, rfl⟩⟩) | ((with_reducible refine gate_dst (N := 18) rfl ?_); refine Kd.R_lit (Kd.int .u8) _ 5 ?hg (N := 18) ?hd (xs := ([(wrap64 (48 + a1)) % 256] : List Int)) (inner := [.int .u8 ((wrap64 (48 + a1)) % 256)]) (ok := fun _ => True) (okp := fun _ => True) ?hr ?hp (fun _ hk => hk) trivial (Below.refl _ _) (Nat.le_refl _) (by simp) ?_; (case hd => rfl); (case hg => rfl); (case hr => first | (go_simp; done) | (go_simp; rfl)); (case hp => exact (Reps.one (show Kd.M (Kd.int .u8) _ _ _ ((wrap64 (48 + a1)) % 256) [.int .u8 ((wrap64 (48 + a1)) % 256)] from rfl) (Reps.none _ _))); intro v178 w9 ho10 hb hg_ hnew_; clear hg_ hnew_; (first | rw [← Ny177.out] at ho10 | (simp only [Int.reduceToNat] at ho10; rw [← Ny177.out] at ho10)); have n0_ := Aside0.mk (Kd.R_lower ho10 (below_size (by repeat (first | (with_reducible first | exact HB.out | apply below_alloc | apply pw_below_drewN | apply below_drew1) | exact HB.out)))); have n1_ := Aside0.mk (below_step (by repeat (first | (with_reducible first | exact HB.out | apply below_alloc | apply pw_below_drewN | apply below_drew1) | exact HB.out)) hb); clear HB; have HO179 := n0_; have HB := n1_; clear n0_ n1_; clear hb ho10; have hcv11 := own_string (P := Tryd.prog) Tryd.underlying57 Tryd.underlying5 Tryd.underlying9 (Kd.own_of_R HO179.out)) | ((with_reducible refine gate_callee (f := 39) rfl ?_); refine goesL_ (some 20) rfl rfl Tryd.func39 (by kernel_rfl) rfl #[.string a0, .string (strOfNums y177)] rfl (by (try simp only [List.map_toArray, List.map_cons, List.map_nil]); first | done | rfl | (simp only [List.length_drop, List.length_take]; rfl)) ?_; (with_reducible refine (strings_Count.calls a0 (strOfNums y177) t180 _ A7.out).mono ?_); rintro e w12 ⟨rfl, hb⟩; refine ⟨_, rfl, ?_⟩; have n0_ := Aside0.mk (Kd.R_below (by (with_reducible repeat (first | apply Kd.R_alloc | apply Kd.R_drewN | apply Kd.R_drew)); exact HO179.out) hb); have n1_ := Aside0.mk (below_step (by repeat (first | (with_reducible first | exact HB.out | apply below_alloc | apply pw_below_drewN | apply below_drew1) | exact HB.out)) hb); clear HO179; clear HB; have HO179 := n0_; have HB := n1_; clear n0_ n1_; (try clear hb); (try clear hb2); (try clear hk); (try clear hi)))
      go_ret2
      exact ⟨by first | rfl | (simp [errW_none, errW_some] <;> rfl) | (simp [*, errW_none, errW_some] <;> rfl), by repeat (first | (with_reducible first | exact HB.out | apply below_alloc | apply pw_below_drewN | apply below_drew1) | exact HB.out)⟩
    · replace c6 := Bool.eq_false_iff.mpr c6
      subst c6
      have H1 : (some (0, false)) = some (r1, r2) := by rw [if_neg (show ¬ (false = true) by decide)] at H; exact H
      clear H
      have H := H1
      clear H1
      simp only [Option.some.injEq, Prod.mk.injEq] at H
      obtain ⟨rfl, rfl⟩ := H
      go_enter Tryd.func16, Tryd.ntmps16
      go_wp2_with (first | ((with_reducible refine gate_callee (f := 12) rfl ?_); refine goesL_ (some 7) rfl rfl Tryd.func12 (by kernel_rfl) rfl #[.string a0] rfl (by (try simp only [List.map_toArray, List.map_cons, List.map_nil]); first | done | rfl | (simp only [List.length_drop, List.length_take]; rfl)) ?_; (with_reducible refine (impl_IsTable.calls k a0 true _ (mx_of HMX.out (by repeat (first | (with_reducible first | exact HB.out | apply below_alloc | apply pw_below_drewN | apply below_drew1) | exact HB.out))) A3.out).mono ?_); rintro e w13 ⟨rfl, hb⟩; refine ⟨_, rfl, ?_⟩; have n0_ := Aside0.mk (below_step (by repeat (first | (with_reducible first | exact HB.out | apply below_alloc | apply pw_below_drewN | apply below_drew1) | exact HB.out)) hb); clear HB; have HB := n0_; clear n0_; (try clear hb); (try clear hb2); (try clear hk); (try clear hi)) | (go_at_call 38; (with_reducible refine (impl_isNumber.calls a1 false _ A5.out).mono ?_); rintro e w' ⟨rfl, ⟨nd, rfl⟩⟩))
      go_ret2
      exact ⟨by first | rfl | (simp [errW_none, errW_some] <;> rfl) | (simp [*, errW_none, errW_some] <;> rfl), by repeat (first | (with_reducible first | exact HB.out | apply below_alloc | apply pw_below_drewN | apply below_drew1) | exact HB.out)⟩
  · replace c4 := Bool.eq_false_iff.mpr c4
    subst c4
    have H1 : (some (0, false)) = some (r1, r2) := by rw [if_neg (show ¬ (false = true) by decide)] at H; exact H
    clear H
    have H := H1
    clear H1
    simp only [Option.some.injEq, Prod.mk.injEq] at H
    obtain ⟨rfl, rfl⟩ := H
    go_enter Tryd.func16, Tryd.ntmps16
    go_wp2_with (first | ((with_reducible refine gate_callee (f := 12) rfl ?_); refine goesL_ (some 7) rfl rfl Tryd.func12 (by kernel_rfl) rfl #[.string a0] rfl (by (try simp only [List.map_toArray, List.map_cons, List.map_nil]); first | done | rfl | (simp only [List.length_drop, List.length_take]; rfl)) ?_; (with_reducible refine (impl_IsTable.calls k a0 false _ (mx_of HMX.out (by repeat (first | (with_reducible first | exact HB.out | apply below_alloc | apply pw_below_drewN | apply below_drew1) | exact HB.out))) A3.out).mono ?_); rintro e w14 ⟨rfl, hb⟩; refine ⟨_, rfl, ?_⟩; have n0_ := Aside0.mk (below_step (by repeat (first | (with_reducible first | exact HB.out | apply below_alloc | apply pw_below_drewN | apply below_drew1) | exact HB.out)) hb); clear HB; have HB := n0_; clear n0_; (try clear hb); (try clear hb2); (try clear hk); (try clear hi)))
    go_ret2
    exact ⟨by first | rfl | (simp [errW_none, errW_some] <;> rfl) | (simp [*, errW_none, errW_some] <;> rfl), by repeat (first | (with_reducible first | exact HB.out | apply below_alloc | apply pw_below_drewN | apply below_drew1) | exact HB.out)⟩

end
section
open Go.RowKit Go.Proofs.YtjhbnkplpaffoaaDoorW.PrintWords Go.Proofs.YtjhbnkplpaffoaaDoorW.PrintLast Go.Proofs.YtjhbnkplpaffoaaDoorW.PrintMore
attribute [local go_sem] max2_int min2_int max_two min_two max_three min_three max_four min_four   -- for this text's walks alone
set_option linter.unusedVariables false
set_option linter.unusedSimpArgs false

def laws_FnExactCountNumber.f (k : Nat) (a0 : ByteArray) (a1 : Int) : Option (Bool) := if (a0.size : Int) > 1048576 then (some true) else ((spec_CountNumber.f k a0 a1).bind fun bt181 => ((impl_CountNumber.f k a0 a1).bind fun bt183 => (if bt183.1 = bt181.1 then (if (bt183.2 != bt181.2) = true then (none) else (some true)) else (none))))
set_option maxRecDepth 100000 in
set_option maxHeartbeats 40000000 in
theorem laws_FnExactCountNumber.calls (k : Nat) (a0 : ByteArray) (a1 : Int) (r : Bool) (w : World) (hmx : ∃ m, w.cell? ⟨0, 0, none⟩ = some (.int .i64 m)) (h : laws_FnExactCountNumber.f k a0 a1 = some r) :
    Calls Tryd.prog 5 #[.string a0, .int .i64 a1] w fun e w' => e = .returned (.bool r) ∧ Below w.heap.size w w' := by
  obtain ⟨cs, hcs⟩ : ∃ cs, cs = [old w w.heap.size] := ⟨_, rfl⟩
  have hp : Hp w cs w := by rw [hcs]; exact Hp.old_start w
  have hc2 : ∀ W, Hp w cs W → Below w.heap.size w W := fun W h => by rw [hcs] at h; exact h.since 0 _ rfl
  have hM : ∀ W, Hp w cs W → ∃ m, W.cell? ⟨0, 0, none⟩ = some (.int .i64 m) := fun W h => hmx.imp fun m q => ((hc2 W h).cell (World.block_lt_of_cell? _ _ q)).trans q
  clear hcs
  unfold laws_FnExactCountNumber.f at h
  refine sx_enter (N := 32) (l := [.string a0, .int .i64 a1]) Tryd.func5 rfl rfl rfl ?_
  refine wp_seq ?_
  refine sx_region ?_
  refine sx_rd 4 (.bool false) (by rfl) (by kernel_rfl) ?_
  refine sx_nil ?_
  refine ex_then_n ?_
  refine wp_seq ?_
  refine wp_seq ?_
  refine sx_region ?_
  refine sx_rd 9 (.string a0) (by rfl) (by kernel_rfl) ?_
  refine sx_rd 10 (.int .i64 (a0.size : Int)) (by rfl) (by kernel_rfl) ?_
  refine sx_rd 11 (.bool (decide ((a0.size : Int) > 1048576))) (by rfl) (by kernel_rfl) ?_
  refine sx_nil ?_
  refine ex_then_n ?_
  by_cases hc_1 : (a0.size : Int) > 1048576
  ·
    rw [if_pos hc_1] at h
    refine sx_then (decide ((a0.size : Int) > 1048576)) (by rfl) (decide_eq_true hc_1) ?_
    refine wp_seq ?_
    refine sx_region ?_
    refine sx_rd 4 (.bool true) (by rfl) (by kernel_rfl) ?_
    refine sx_nil ?_
    refine ex_then_n ?_
    refine wp_ret ?_
    refine ex_then_r ?_
    refine sx_end (.bool true) (res1 4 (by rfl)) ?_
    obtain rfl := Option.some.inj h
    exact ⟨rfl, hc2 _ (hp)⟩
  ·
    rw [if_neg hc_1] at h
    obtain ⟨⟨t_3, t_4⟩, hv_2, h⟩ := Option.bind_eq_some_iff.mp h
    try dsimp only at h
    obtain ⟨⟨t_6, t_7⟩, hv_5, h⟩ := Option.bind_eq_some_iff.mp h
    try dsimp only at h
    by_cases hc_8 : t_6 = t_3
    case neg => rw [if_neg hc_8] at h; cases h
    rw [if_pos hc_8] at h
    by_cases hc_9 : (t_7 != t_4) = true
    case pos => rw [if_pos hc_9] at h; cases h
    rw [if_neg hc_9] at h
    refine sx_else (decide ((a0.size : Int) > 1048576)) (by rfl) (decide_eq_false hc_1) ?_
    refine wp_skip ?_
    refine ex_then_n ?_
    refine wp_seq ?_
    refine sx_region ?_
    refine sx_rd 13 (.string a0) (by rfl) (by kernel_rfl) ?_
    refine sx_rd 14 (.int .i64 a1) (by rfl) (by kernel_rfl) ?_
    refine sx_call 15 (by rfl) (by kernel_rfl) ((spec_CountNumber.calls _ a0 a1 _ _ _ hv_2).mono ?_)
    rintro _ W_10 ⟨rfl, hb⟩
    refine ⟨_, rfl, ?_⟩
    replace hp := hp.below hb
    clear hb
    refine sx_rd 12 (.tuple #[.int .i64 t_3, .bool t_4]) (by rfl) (by kernel_rfl) ?_
    refine sx_rd 16 (.int .i64 t_3) (by rfl) (by kernel_rfl) ?_
    refine sx_rd 17 (.bool t_4) (by rfl) (by kernel_rfl) ?_
    refine sx_rd 5 (.int .i64 t_3) (by rfl) (by kernel_rfl) ?_
    refine sx_rd 6 (.bool t_4) (by rfl) (by kernel_rfl) ?_
    refine sx_nil ?_
    refine ex_then_n ?_
    refine wp_seq ?_
    refine sx_region ?_
    refine sx_rd 19 (.string a0) (by rfl) (by kernel_rfl) ?_
    refine sx_rd 20 (.int .i64 a1) (by rfl) (by kernel_rfl) ?_
    refine sx_call 21 (by rfl) (by kernel_rfl) ((impl_CountNumber.calls _ a0 a1 _ _ _ (hM _ (hp)) hv_5).mono ?_)
    rintro _ W_11 ⟨rfl, hb⟩
    refine ⟨_, rfl, ?_⟩
    replace hp := hp.below hb
    clear hb
    refine sx_rd 18 (.tuple #[.int .i64 t_6, .bool t_7]) (by rfl) (by kernel_rfl) ?_
    refine sx_rd 22 (.int .i64 t_6) (by rfl) (by kernel_rfl) ?_
    refine sx_rd 23 (.bool t_7) (by rfl) (by kernel_rfl) ?_
    refine sx_rd 7 (.int .i64 t_6) (by rfl) (by kernel_rfl) ?_
    refine sx_rd 8 (.bool t_7) (by rfl) (by kernel_rfl) ?_
    refine sx_nil ?_
    refine ex_then_n ?_
    refine wp_seq ?_
    refine wp_seq ?_
    refine sx_region ?_
    refine sx_rd 24 (.int .i64 t_6) (by rfl) (by kernel_rfl) ?_
    refine sx_rd 25 (.int .i64 t_3) (by rfl) (by kernel_rfl) ?_
    refine sx_rd 26 (.bool false) (by rfl) (bv (bne_eq_false_iff_eq.mpr hc_8) (by kernel_rfl)) ?_
    refine sx_rd 27 (.bool false) (by rfl) (by kernel_rfl) ?_
    refine sx_want (by rfl) ?_
    refine sx_rd 28 (.bool t_7) (by rfl) (by kernel_rfl) ?_
    refine sx_want (by rfl) ?_
    refine sx_rd 29 (.bool t_4) (by rfl) (by kernel_rfl) ?_
    refine sx_want (by rfl) ?_
    refine sx_rd 30 (.bool (t_7 != t_4)) (by rfl) (by kernel_rfl) ?_
    refine sx_rd 31 (.bool (t_7 != t_4)) (by rfl) (by kernel_rfl) ?_
    refine sx_nil ?_
    refine ex_then_n ?_
    refine sx_else (t_7 != t_4) (by rfl) (Bool.eq_false_iff.mpr hc_9) ?_
    refine wp_skip ?_
    refine ex_then_n ?_
    refine wp_seq ?_
    refine sx_region ?_
    refine sx_rd 4 (.bool true) (by rfl) (by kernel_rfl) ?_
    refine sx_nil ?_
    refine ex_then_n ?_
    refine wp_ret ?_
    refine sx_end (.bool true) (res1 4 (by rfl)) ?_
    obtain rfl := Option.some.inj h
    exact ⟨rfl, hc2 _ (hp)⟩
end
end Go.Proofs.YtjhbnkplpaffoaaDoor.Hd
