-- Printed by hprint.py and laid together by pack.py (this session's programs over the kit's print program). Lean checks it.
import Derived.Test.YtjhbnkplpaffoaaDoorMSx5
import Derived.Test.YtjhbnkplpaffoaaDoorMSxL
import Derived.Test.YtjhbnkplpaffoaaDoorG0
import Derived.Test.YtjhbnkplpaffoaaDoorG3
import Derived.Test.YtjhbnkplpaffoaaDoorG1
import Derived.Test.YtjhbnkplpaffoaaDoorMMx
import Derived.Test.YtjhbnkplpaffoaaDoorMStrs
import Derived.Test.YtjhbnkplpaffoaaDoorG2
namespace Go.Proofs.YtjhbnkplpaffoaaDoor.Hd
section
open Go.RowKit Go.Proofs.YtjhbnkplpaffoaaDoorW.PrintWords Go.Proofs.YtjhbnkplpaffoaaDoorW.PrintLast Go.Proofs.YtjhbnkplpaffoaaDoorW.PrintMore
attribute [local go_sem] max2_int min2_int max_two min_two max_three min_three max_four min_four   -- for this text's walks alone
set_option linter.unusedVariables false
set_option linter.unusedSimpArgs false

mutual
def spec_CountNumber.j0 : Nat → Int → Bool → Int → Int → List Int → Option (Int × Bool)
  | 0, _, _, _, _, _ => none
  | k + 1, x1, x22, x172000, x172001, x172002 => if x22 = true then (some (0, false)) else (spec_CountNumber.l0 k x1 0 x172002 (x172002.length : Int) 0)
def spec_CountNumber.l0 : Nat → Int → Int → List Int → Int → Int → Option (Int × Bool)
  | 0, _, _, _, _, _ => none
  | k + 1, x1, x8, x24, x25, x26 => if x26 < x25 then (if 0 ≤ x26 then (if x26 < (x24.length : Int) then (if (rd x24 x26) = x1 then (spec_CountNumber.l0 k x1 (wrap64 (x8 + 1)) x24 x25 (wrap64 (x26 + 1))) else (spec_CountNumber.l0 k x1 x8 x24 x25 (wrap64 (x26 + 1)))) else (none)) else (none)) else (some (x8, true))
end
end
section
open Go.RowKit Go.Proofs.YtjhbnkplpaffoaaDoorW.PrintWords Go.Proofs.YtjhbnkplpaffoaaDoorW.PrintLast Go.Proofs.YtjhbnkplpaffoaaDoorW.PrintMore
attribute [local go_sem] max2_int min2_int max_two min_two max_three min_three max_four min_four   -- for this text's walks alone
set_option linter.unusedVariables false
set_option linter.unusedSimpArgs false

end
section
open Go.RowKit Go.Proofs.YtjhbnkplpaffoaaDoorW.PrintWords Go.Proofs.YtjhbnkplpaffoaaDoorW.PrintLast Go.Proofs.YtjhbnkplpaffoaaDoorW.PrintMore
attribute [local go_sem] max2_int min2_int max_two min_two max_three min_three max_four min_four   -- for this text's walks alone
set_option linter.unusedVariables false
set_option linter.unusedSimpArgs false

def impl_at.f (a0 : ByteArray) (a1 : Int) (a2 : Int) : Option (Int × Int) := if 0 ≤ a1 then (if a1 < (a0.size : Int) then (if 0 ≤ a2 then (if a2 < (a0.size : Int) then ((impl_tile.f (((bt a0 a1) - 48) % 256) (((bt a0 a2) - 48) % 256)).bind fun bt357 => (some (bt357.1, bt357.2))) else (none)) else (none)) else (none)) else (none)
set_option maxRecDepth 100000 in
set_option maxHeartbeats 40000000 in
theorem impl_at.calls (a0 : ByteArray) (a1 : Int) (a2 : Int) (r1 : Int) (r2 : Int) (w : World) (h : impl_at.f a0 a1 a2 = some (r1, r2)) :
    Calls Tryd.prog 56 #[.string a0, .int .i64 a1, .int .i64 a2] w fun e w' => e = .returned (.agg #[.int .i64 r1, .int .i64 r2]) ∧ Below w.heap.size w w' := by
  obtain ⟨cs, hcs⟩ : ∃ cs, cs = [old w w.heap.size] := ⟨_, rfl⟩
  have hp : Hp w cs w := by rw [hcs]; exact Hp.old_start w
  have hc2 : ∀ W, Hp w cs W → Below w.heap.size w W := fun W h => by rw [hcs] at h; exact h.since 0 _ rfl
  clear hcs
  unfold impl_at.f at h
  by_cases hc_1 : 0 ≤ a1
  case neg => rw [if_neg hc_1] at h; cases h
  rw [if_pos hc_1] at h
  by_cases hc_2 : a1 < (a0.size : Int)
  case neg => rw [if_neg hc_2] at h; cases h
  rw [if_pos hc_2] at h
  by_cases hc_3 : 0 ≤ a2
  case neg => rw [if_neg hc_3] at h; cases h
  rw [if_pos hc_3] at h
  by_cases hc_4 : a2 < (a0.size : Int)
  case neg => rw [if_neg hc_4] at h; cases h
  rw [if_pos hc_4] at h
  obtain ⟨⟨t_6, t_7⟩, hv_5, h⟩ := Option.bind_eq_some_iff.mp h
  try dsimp only at h
  refine sx_enter (N := 18) (l := [.string a0, .int .i64 a1, .int .i64 a2]) Tryd.func56 rfl rfl rfl ?_
  refine wp_seq ?_
  refine sx_region ?_
  refine sx_box 6 hp #[.int .i64 0, .int .i64 0] 38 (by rfl) (fun W => by kernel_rfl) ?_
  intro g_8 W_9 hp
  refine sx_nil ?_
  refine ex_then_n ?_
  refine wp_seq ?_
  refine sx_drawT [0, 1, 2, 3, 4, 5, 6, 7, 8, 9] (.alt 10 (.fin) .non) 11 (C := Hp w (blk g_8 #[.int .i64 0, .int .i64 0] 38 :: cs)) (by kernel_rfl) (by kernel_rfl) (fun d _ _ _ _ h => by cases d <;> exact h) (fun W h => h.drew) hp ?_
  refine preI_read rfl ?_
  refine sxq_val 7 (.string a0) (by rfl) (fun W _ => (by kernel_rfl)) ?_
  refine sxq_nil ?_
  refine preI_read rfl ?_
  refine sxq_val 8 (.int .i64 a1) (by rfl) (fun W _ => (by kernel_rfl)) ?_
  refine sxq_nil ?_
  refine preI_read rfl ?_
  refine sxq_val 9 (.int .u8 (bt a0 a1)) (by rfl) (fun W _ => (stri_run (by rfl) (by rfl) (by rfl) Tryd.underlying9 (by omega) (by omega))) ?_
  refine sxq_nil ?_
  refine preI_read rfl ?_
  refine sxq_val 10 (.int .u8 (((bt a0 a1) - 48) % 256)) (by rfl) (fun W _ => (u8_w (by kernel_rfl))) ?_
  refine sxq_nil ?_
  refine preI_read rfl ?_
  refine sxq_val 11 (.int .i64 (((bt a0 a1) - 48) % 256)) (by rfl) (fun W _ => (wr_ok (by omega) (cvt_run (by rfl) (by rfl) Tryd.underlying5 Tryd.underlying3))) ?_
  refine sxq_nil ?_
  refine preI_read rfl ?_
  refine sxq_val 12 (.string a0) (by rfl) (fun W _ => (by kernel_rfl)) ?_
  refine sxq_nil ?_
  refine preI_read rfl ?_
  refine sxq_val 13 (.int .i64 a2) (by rfl) (fun W _ => (by kernel_rfl)) ?_
  refine sxq_nil ?_
  refine preI_read rfl ?_
  refine sxq_val 14 (.int .u8 (bt a0 a2)) (by rfl) (fun W _ => (stri_run (by rfl) (by rfl) (by rfl) Tryd.underlying9 (by omega) (by omega))) ?_
  refine sxq_nil ?_
  refine preI_read rfl ?_
  refine sxq_val 15 (.int .u8 (((bt a0 a2) - 48) % 256)) (by rfl) (fun W _ => (u8_w (by kernel_rfl))) ?_
  refine sxq_nil ?_
  refine preI_read rfl ?_
  refine sxq_val 16 (.int .i64 (((bt a0 a2) - 48) % 256)) (by rfl) (fun W _ => (wr_ok (by omega) (cvt_run (by rfl) (by rfl) Tryd.underlying5 Tryd.underlying3))) ?_
  refine sxq_nil ?_
  refine preI_nil ?_
  intro W_10 hp
  refine treeI_ev rfl ?_
  refine sx_call 17 (by rfl) (by kernel_rfl) ((impl_tile.calls (((bt a0 a1) - 48) % 256) (((bt a0 a2) - 48) % 256) _ _ _ hv_5).mono ?_)
  rintro _ W_11 ⟨rfl, hb⟩
  refine ⟨_, rfl, ?_⟩
  replace hp := hp.below hb
  clear hb
  refine step_fin hp ?_
  refine treeI_fin ?_
  refine tail_of [11] (by rfl) ?_
  refine tailI_op rfl ?_
  refine sx_store (t := 38) (p := (.tmp 6)) (x := (.tmp 17)) (by rfl) (by rfl) 0 (by rfl) 0 [.int .i64 t_6, .int .i64 t_7] (by rfl) (by rfl) (by kernel_rfl) (by simp [Value.oneCell']) (by show 2 ≤ 2; omega) #[.int .i64 t_6, .int .i64 t_7] (by rfl) hp ?_
  intro W_12 hp; simp only [List.set_cons_succ, List.set_cons_zero] at hp
  refine tailI_next ?_
  refine tailI_nil ?_
  refine ex_then_n ?_
  refine wp_ret ?_
  refine sx_end (.agg #[.int .i64 t_6, .int .i64 t_7]) (resc (by rfl) (by rfl) (by kernel_rfl) (by kernel_rfl) (hp.at_ 0 _ (by rfl))) ?_
  simp only [Option.some.injEq, Prod.mk.injEq] at h; obtain ⟨rfl, rfl⟩ := h
  exact ⟨rfl, hc2 _ (hp.tail)⟩
end
section
open Go.RowKit Go.Proofs.YtjhbnkplpaffoaaDoorW.PrintWords Go.Proofs.YtjhbnkplpaffoaaDoorW.PrintLast Go.Proofs.YtjhbnkplpaffoaaDoorW.PrintMore
attribute [local go_sem] max2_int min2_int max_two min_two max_three min_three max_four min_four   -- for this text's walks alone
set_option linter.unusedVariables false
set_option linter.unusedSimpArgs false

def spec_TilesOfLayout.f (k : Nat) (a0 : ByteArray) (a1 : ByteArray) : Option ((List (S_Tile)) × Bool) := (spec_taRead.f k a0).bind fun bt430 => (if bt430.2.2.2 = true then ((spec_taLayout.f k bt430.1 bt430.2.1 bt430.2.2.1 a1).bind fun bt437 => (if bt437.2 = true then ((spec_taTiles.f k bt430.1 bt430.2.1 bt430.2.2.1 bt437.1).bind fun t441 => (some (t441, true))) else (some (([] : List (S_Tile)), false)))) else (some (([] : List (S_Tile)), false)))
set_option maxHeartbeats 8000000 in
set_option maxRecDepth 100000 in
theorem spec_TilesOfLayout.calls (k : Nat) (a0 : ByteArray) (a1 : ByteArray) (r1 : List (S_Tile)) (r2 : Bool) (w : World) (h : spec_TilesOfLayout.f k a0 a1 = some (r1, r2)) :
    Calls Tryd.prog 29 #[.string a0, .string a1] w fun e w' => ∃ v0_ : Value, e = .returned (.tuple #[v0_, .bool r2]) ∧ Kd.R k38 38 w' w.heap.size (fun _ => True) v0_ r1 ∧ Below w.heap.size w w' := by
  have hu50 := Tryd.underlying50
  have HB := Aside0.mk (Below.refl w.heap.size w)
  have H : ((spec_taRead.f k a0).bind fun bt430 => (if bt430.2.2.2 = true then ((spec_taLayout.f k bt430.1 bt430.2.1 bt430.2.2.1 a1).bind fun bt437 => (if bt437.2 = true then ((spec_taTiles.f k bt430.1 bt430.2.1 bt430.2.2.1 bt437.1).bind fun t441 => (some (t441, true))) else (some (([] : List (S_Tile)), false)))) else (some (([] : List (S_Tile)), false)))) = some (r1, r2) := h
  clear h
  replace H := Option.bind_eq_some_iff.mp H
  obtain ⟨⟨t430, t431, t432, t435⟩, A30, H⟩ := H
  replace H : (if t435 = true then ((spec_taLayout.f k t430 t431 t432 a1).bind fun bt437 => (if bt437.2 = true then ((spec_taTiles.f k t430 t431 t432 bt437.1).bind fun t441 => (some (t441, true))) else (some (([] : List (S_Tile)), false)))) else (some (([] : List (S_Tile)), false))) = some (r1, r2) := H
  have A3 := Aside0.mk A30
  clear A30
  by_cases c4 : t435 = true
  · subst c4
    have H1 : ((spec_taLayout.f k t430 t431 t432 a1).bind fun bt437 => (if bt437.2 = true then ((spec_taTiles.f k t430 t431 t432 bt437.1).bind fun t441 => (some (t441, true))) else (some (([] : List (S_Tile)), false)))) = some (r1, r2) := by rw [if_pos rfl] at H; exact H
    clear H
    have H := H1
    clear H1
    replace H := Option.bind_eq_some_iff.mp H
    obtain ⟨⟨t437, t440⟩, A50, H⟩ := H
    replace H : (if t440 = true then ((spec_taTiles.f k t430 t431 t432 t437).bind fun t441 => (some (t441, true))) else (some (([] : List (S_Tile)), false))) = some (r1, r2) := H
    have A5 := Aside0.mk A50
    clear A50
    by_cases c6 : t440 = true
    · subst c6
      have H1 : ((spec_taTiles.f k t430 t431 t432 t437).bind fun t441 => (some (t441, true))) = some (r1, r2) := by rw [if_pos rfl] at H; exact H
      clear H
      have H := H1
      clear H1
      replace H := Option.bind_eq_some_iff.mp H
      obtain ⟨t441, A70, H⟩ := H
      replace H : (some (t441, true)) = some (r1, r2) := H
      have A7 := Aside0.mk A70
      clear A70
      simp only [Option.some.injEq, Prod.mk.injEq] at H
      obtain ⟨rfl, rfl⟩ := H
      go_enter Tryd.func29, Tryd.ntmps29
      go_wp2_with (first | ((with_reducible refine gate_callee (f := 34) rfl ?_); refine goesL_ (some 12) rfl rfl Tryd.func34 (by kernel_rfl) rfl #[.string a0] rfl (by (try simp only [List.map_toArray, List.map_cons, List.map_nil]); first | done | rfl | (simp only [List.length_drop, List.length_take]; rfl)) ?_; (with_reducible refine (spec_taRead.calls k a0 t430 t431 t432 true _ A3.out).mono ?_); rintro e w8 ⟨v433, rfl, ho0, hb⟩; refine ⟨_, rfl, ?_⟩; have n0_ := Aside0.mk (Kd.R_lower ho0 (below_size (by repeat (first | (with_reducible first | exact HB.out | apply below_alloc | apply pw_below_drewN | apply below_drew1) | exact HB.out)))); have n1_ := Aside0.mk (below_step (by repeat (first | (with_reducible first | exact HB.out | apply below_alloc | apply pw_below_drewN | apply below_drew1) | exact HB.out)) hb); clear HB; have HO434 := n0_; have HB := n1_; clear n0_ n1_; (try clear hb); (try clear hb2); (try clear hk); (try clear hi); (try clear ho0)) | ((with_reducible refine gate_dst (N := 6) rfl ?_); refine box_event ?hg (N := 6) ?hd (cs := #[.int .i64 0, .int .i64 0, .slice none 0 0]) (t := 50) ?hr ?_; (case hd => rfl); (case hg => rfl); (case hr => first | (go_simp; done) | (go_simp; rfl)); intro gb436 hg w9 hbox hb; have n0_ := Aside0.mk (Kd.R_below (by (with_reducible repeat (first | apply Kd.R_alloc | apply Kd.R_drewN | apply Kd.R_drew)); exact HO434.out) hb); have n1_ := Aside0.mk (below_step (by repeat (first | (with_reducible first | exact HB.out | apply below_alloc | apply pw_below_drewN | apply below_drew1) | exact HB.out)) hb); have n2_ := Aside0.mk (hbox); have n3_ := Aside0.mk ((by rw [hg]; exact (below_size (by repeat (first | (with_reducible first | exact HB.out | apply below_alloc | apply pw_below_drewN | apply below_drew1) | exact HB.out))) : w.heap.size ≤ gb436)); have n4_ := Aside0.mk ((by rw [hg]; exact (below_size (by repeat (first | (with_reducible first | exact HB.out | apply below_alloc | apply pw_below_drewN | apply below_drew1) | exact HB.out))) : w.heap.size ≤ gb436)); clear HO434; clear HB; have HO434 := n0_; have HB := n1_; have BK436 := n2_; have GW436 := n3_; have GE436 := n4_; clear n0_ n1_ n2_ n3_ n4_; clear hb hbox hg; have hcz10_0 : w9.cell? ⟨gb436, 0, none⟩ = some (.int .i64 0) := (blk_cell BK436.out 0).trans rfl; have hcz10_1 : w9.cell? ⟨gb436, 1, none⟩ = some (.int .i64 0) := (blk_cell BK436.out 1).trans rfl; have hcz10_2 : w9.cell? ⟨gb436, 2, none⟩ = some (.slice none 0 0) := (blk_cell BK436.out 2).trans rfl; have hfz10_0 := blk_frozen BK436.out 0; have hfz10_1 := blk_frozen BK436.out 1; have hfz10_2 := blk_frozen BK436.out 2; obtain ⟨Ao11, co11, eo11⟩ := Kd.R_slice HO434.out; subst eo11) | ((with_reducible refine gate_callee (f := 45) rfl ?_); refine goesL_ (some 20) rfl rfl Tryd.func45 (by kernel_rfl) rfl #[.agg #[.int .i64 t430, .int .i64 t431, .slice Ao11 t432.length co11], .string a1] rfl (by (try simp only [List.map_toArray, List.map_cons, List.map_nil]); first | done | rfl | (simp only [List.length_drop, List.length_take]; rfl)) ?_; (with_reducible refine (spec_taLayout.calls k t430 t431 _ _ t432 a1 t437 true _ ?side1 ?side2 A5.out).mono ?_); (case side1 => refine (Kd.R_reads' (e := 3) (base := w.heap.size) (ok := fun k_ => True) (n := t432.length) (c := co11) ?_).2.2; exact (by (with_reducible repeat (first | apply Kd.R_alloc | apply Kd.R_drewN | apply Kd.R_drew)); exact (Kd.R_mono (Kd.R_far (p := ⟨gb436, 2, none⟩) (Kd.R_far (p := ⟨gb436, 1, none⟩) (Kd.R_far (p := ⟨gb436, 0, none⟩) (Kd.R_types HO434.out BK436.out (by decide)) (fun _ hk => hk.2) (.int .i64 t430)) (fun _ hk => hk.2) (.int .i64 t431)) (fun _ hk => hk.2) (.slice Ao11 t432.length co11)) (fun _ h_ => h_.1)))); (case side2 => exact (Kd.R_reads' HO434.out).2.1); rintro e w12 ⟨v438, rfl, ho0, hb⟩; refine ⟨_, rfl, ?_⟩; have n0_ := Aside0.mk (Kd.R_below (by (with_reducible repeat (first | apply Kd.R_alloc | apply Kd.R_drewN | apply Kd.R_drew)); exact (Kd.R_mono (Kd.R_far (p := ⟨gb436, 2, none⟩) (Kd.R_far (p := ⟨gb436, 1, none⟩) (Kd.R_far (p := ⟨gb436, 0, none⟩) (Kd.R_types HO434.out BK436.out (by decide)) (fun _ hk => hk.2) (.int .i64 t430)) (fun _ hk => hk.2) (.int .i64 t431)) (fun _ hk => hk.2) (.slice Ao11 t432.length co11)) (fun _ h_ => h_.1))) hb); have n1_ := Aside0.mk (Kd.R_lower ho0 (below_size (by repeat (first | (with_reducible first | exact HB.out | apply below_alloc | apply pw_below_drewN | apply below_drew1 | refine below_set ?_ GE436.out) | exact HB.out)))); have n2_ := Aside0.mk (blk_below (g := gb436) (o := .cells #[.int .i64 t430, .int .i64 t431, .slice Ao11 t432.length co11] 50 (0, 0)) (by (with_reducible repeat (first | refine blk_drewN ?_ _ | refine blk_drew ?_ | refine blk_alloc ?_ _)); refine blk_put (cs := #[.int .i64 t430, .int .i64 t431, .slice none 0 0]) ?_ 2 _ rfl; (with_reducible repeat (first | refine blk_drewN ?_ _ | refine blk_drew ?_ | refine blk_alloc ?_ _)); refine blk_put (cs := #[.int .i64 t430, .int .i64 0, .slice none 0 0]) ?_ 1 _ rfl; (with_reducible repeat (first | refine blk_drewN ?_ _ | refine blk_drew ?_ | refine blk_alloc ?_ _)); refine blk_put (cs := #[.int .i64 0, .int .i64 0, .slice none 0 0]) ?_ 0 _ rfl; (with_reducible repeat (first | refine blk_drewN ?_ _ | refine blk_drew ?_ | refine blk_alloc ?_ _)); exact BK436.out) hb); have n3_ := Aside0.mk (below_step (by repeat (first | (with_reducible first | exact HB.out | apply below_alloc | apply pw_below_drewN | apply below_drew1 | refine below_set ?_ GE436.out) | exact HB.out)) hb); clear HO434; clear BK436; clear HB; have HO434 := n0_; have HO439 := n1_; have BK436 := n2_; have HB := n3_; clear n0_ n1_ n2_ n3_; (try clear hb); (try clear hb2); (try clear hk); (try clear hi); (try clear ho0); have hcz13_0 : w12.cell? ⟨gb436, 0, none⟩ = some (.int .i64 t430) := (blk_cell BK436.out 0).trans rfl; have hcz13_1 : w12.cell? ⟨gb436, 1, none⟩ = some (.int .i64 t431) := (blk_cell BK436.out 1).trans rfl; have hcz13_2 : w12.cell? ⟨gb436, 2, none⟩ = some (.slice Ao11 t432.length co11) := (blk_cell BK436.out 2).trans rfl; have hfz13_0 := blk_frozen BK436.out 0; have hfz13_1 := blk_frozen BK436.out 1; have hfz13_2 := blk_frozen BK436.out 2; obtain ⟨Ao14, co14, eo14⟩ := Kd.R_slice HO439.out; subst eo14) | ((with_reducible refine gate_callee (f := 54) rfl ?_); refine goesL_ (some 27) rfl rfl Tryd.func54 (by kernel_rfl) rfl #[.agg #[.int .i64 t430, .int .i64 t431, .slice Ao11 t432.length co11], .slice Ao14 t437.length co14] rfl (by (try simp only [List.map_toArray, List.map_cons, List.map_nil]); first | done | rfl | (simp only [List.length_drop, List.length_take]; rfl)) ?_; (with_reducible refine (spec_taTiles.calls k t430 t431 _ _ t432 _ _ t437 t441 _ ?side1 ?side2 ?side3 ?side4 A7.out).mono ?_); (case side1 => repeat (first | exact (Kd.R_reads' HO434.out).2.2 | (with_reducible refine Kd.C_alloc ?_ _) | (with_reducible refine Kd.C_drewN ?_ _) | (with_reducible refine Kd.C_drew ?_))); (case side2 => exact (Kd.R_reads' HO434.out).2.1); (case side3 => repeat (first | exact (Kd.R_reads' HO439.out).2.2 | (with_reducible refine Kd.C_alloc ?_ _) | (with_reducible refine Kd.C_drewN ?_ _) | (with_reducible refine Kd.C_drew ?_))); (case side4 => exact (Kd.R_reads' HO439.out).2.1); rintro e w15 ⟨v442, rfl, ho0, hb⟩; refine ⟨_, rfl, ?_⟩; have n0_ := Aside0.mk (Kd.R_below (by (with_reducible repeat (first | apply Kd.R_alloc | apply Kd.R_drewN | apply Kd.R_drew)); exact HO434.out) hb); have n1_ := Aside0.mk (Kd.R_below (by (with_reducible repeat (first | apply Kd.R_alloc | apply Kd.R_drewN | apply Kd.R_drew)); exact HO439.out) hb); have n2_ := Aside0.mk (Kd.R_lower ho0 (below_size (by repeat (first | (with_reducible first | exact HB.out | apply below_alloc | apply pw_below_drewN | apply below_drew1 | refine below_set ?_ GE436.out) | exact HB.out)))); have n3_ := Aside0.mk (blk_below (g := gb436) (o := .cells #[.int .i64 t430, .int .i64 t431, .slice Ao11 t432.length co11] 50 (0, 0)) (by (with_reducible repeat (first | refine blk_drewN ?_ _ | refine blk_drew ?_ | refine blk_alloc ?_ _)); exact BK436.out) hb); have n4_ := Aside0.mk (below_step (by repeat (first | (with_reducible first | exact HB.out | apply below_alloc | apply pw_below_drewN | apply below_drew1 | refine below_set ?_ GE436.out) | exact HB.out)) hb); clear HO434; clear HO439; clear BK436; clear HB; have HO434 := n0_; have HO439 := n1_; have HO443 := n2_; have BK436 := n3_; have HB := n4_; clear n0_ n1_ n2_ n3_ n4_; (try clear hb); (try clear hb2); (try clear hk); (try clear hi); (try clear ho0)))
      go_ret2
      exact ⟨_, by first | rfl | (simp [errW_none, errW_some] <;> rfl) | (simp [*, errW_none, errW_some] <;> rfl), by (with_reducible repeat (first | apply Kd.R_alloc | apply Kd.R_drewN | apply Kd.R_drew)); exact HO443.out, by repeat (first | (with_reducible first | exact HB.out | apply below_alloc | apply pw_below_drewN | apply below_drew1 | refine below_set ?_ GE436.out) | exact HB.out)⟩
    · replace c6 := Bool.eq_false_iff.mpr c6
      subst c6
      have H1 : (some (([] : List (S_Tile)), false)) = some (r1, r2) := by rw [if_neg (show ¬ (false = true) by decide)] at H; exact H
      clear H
      have H := H1
      clear H1
      simp only [Option.some.injEq, Prod.mk.injEq] at H
      obtain ⟨rfl, rfl⟩ := H
      go_enter Tryd.func29, Tryd.ntmps29
      go_wp2_with (first | ((with_reducible refine gate_callee (f := 34) rfl ?_); refine goesL_ (some 12) rfl rfl Tryd.func34 (by kernel_rfl) rfl #[.string a0] rfl (by (try simp only [List.map_toArray, List.map_cons, List.map_nil]); first | done | rfl | (simp only [List.length_drop, List.length_take]; rfl)) ?_; (with_reducible refine (spec_taRead.calls k a0 t430 t431 t432 true _ A3.out).mono ?_); rintro e w16 ⟨v433, rfl, ho0, hb⟩; refine ⟨_, rfl, ?_⟩; have n0_ := Aside0.mk (Kd.R_lower ho0 (below_size (by repeat (first | (with_reducible first | exact HB.out | apply below_alloc | apply pw_below_drewN | apply below_drew1) | exact HB.out)))); have n1_ := Aside0.mk (below_step (by repeat (first | (with_reducible first | exact HB.out | apply below_alloc | apply pw_below_drewN | apply below_drew1) | exact HB.out)) hb); clear HB; have HO434 := n0_; have HB := n1_; clear n0_ n1_; (try clear hb); (try clear hb2); (try clear hk); (try clear hi); (try clear ho0)) | ((with_reducible refine gate_dst (N := 6) rfl ?_); refine box_event ?hg (N := 6) ?hd (cs := #[.int .i64 0, .int .i64 0, .slice none 0 0]) (t := 50) ?hr ?_; (case hd => rfl); (case hg => rfl); (case hr => first | (go_simp; done) | (go_simp; rfl)); intro gb436 hg w17 hbox hb; have n0_ := Aside0.mk (Kd.R_below (by (with_reducible repeat (first | apply Kd.R_alloc | apply Kd.R_drewN | apply Kd.R_drew)); exact HO434.out) hb); have n1_ := Aside0.mk (below_step (by repeat (first | (with_reducible first | exact HB.out | apply below_alloc | apply pw_below_drewN | apply below_drew1) | exact HB.out)) hb); have n2_ := Aside0.mk (hbox); have n3_ := Aside0.mk ((by rw [hg]; exact (below_size (by repeat (first | (with_reducible first | exact HB.out | apply below_alloc | apply pw_below_drewN | apply below_drew1) | exact HB.out))) : w.heap.size ≤ gb436)); have n4_ := Aside0.mk ((by rw [hg]; exact (below_size (by repeat (first | (with_reducible first | exact HB.out | apply below_alloc | apply pw_below_drewN | apply below_drew1) | exact HB.out))) : w.heap.size ≤ gb436)); clear HO434; clear HB; have HO434 := n0_; have HB := n1_; have BK436 := n2_; have GW436 := n3_; have GE436 := n4_; clear n0_ n1_ n2_ n3_ n4_; clear hb hbox hg; have hcz18_0 : w17.cell? ⟨gb436, 0, none⟩ = some (.int .i64 0) := (blk_cell BK436.out 0).trans rfl; have hcz18_1 : w17.cell? ⟨gb436, 1, none⟩ = some (.int .i64 0) := (blk_cell BK436.out 1).trans rfl; have hcz18_2 : w17.cell? ⟨gb436, 2, none⟩ = some (.slice none 0 0) := (blk_cell BK436.out 2).trans rfl; have hfz18_0 := blk_frozen BK436.out 0; have hfz18_1 := blk_frozen BK436.out 1; have hfz18_2 := blk_frozen BK436.out 2; obtain ⟨Ao19, co19, eo19⟩ := Kd.R_slice HO434.out; subst eo19) | ((with_reducible refine gate_callee (f := 45) rfl ?_); refine goesL_ (some 20) rfl rfl Tryd.func45 (by kernel_rfl) rfl #[.agg #[.int .i64 t430, .int .i64 t431, .slice Ao19 t432.length co19], .string a1] rfl (by (try simp only [List.map_toArray, List.map_cons, List.map_nil]); first | done | rfl | (simp only [List.length_drop, List.length_take]; rfl)) ?_; (with_reducible refine (spec_taLayout.calls k t430 t431 _ _ t432 a1 t437 false _ ?side1 ?side2 A5.out).mono ?_); (case side1 => refine (Kd.R_reads' (e := 3) (base := w.heap.size) (ok := fun k_ => True) (n := t432.length) (c := co19) ?_).2.2; exact (by (with_reducible repeat (first | apply Kd.R_alloc | apply Kd.R_drewN | apply Kd.R_drew)); exact (Kd.R_mono (Kd.R_far (p := ⟨gb436, 2, none⟩) (Kd.R_far (p := ⟨gb436, 1, none⟩) (Kd.R_far (p := ⟨gb436, 0, none⟩) (Kd.R_types HO434.out BK436.out (by decide)) (fun _ hk => hk.2) (.int .i64 t430)) (fun _ hk => hk.2) (.int .i64 t431)) (fun _ hk => hk.2) (.slice Ao19 t432.length co19)) (fun _ h_ => h_.1)))); (case side2 => exact (Kd.R_reads' HO434.out).2.1); rintro e w20 ⟨v438, rfl, ho0, hb⟩; refine ⟨_, rfl, ?_⟩; have n0_ := Aside0.mk (Kd.R_below (by (with_reducible repeat (first | apply Kd.R_alloc | apply Kd.R_drewN | apply Kd.R_drew)); exact (Kd.R_mono (Kd.R_far (p := ⟨gb436, 2, none⟩) (Kd.R_far (p := ⟨gb436, 1, none⟩) (Kd.R_far (p := ⟨gb436, 0, none⟩) (Kd.R_types HO434.out BK436.out (by decide)) (fun _ hk => hk.2) (.int .i64 t430)) (fun _ hk => hk.2) (.int .i64 t431)) (fun _ hk => hk.2) (.slice Ao19 t432.length co19)) (fun _ h_ => h_.1))) hb); have n1_ := Aside0.mk (Kd.R_lower ho0 (below_size (by repeat (first | (with_reducible first | exact HB.out | apply below_alloc | apply pw_below_drewN | apply below_drew1 | refine below_set ?_ GE436.out) | exact HB.out)))); have n2_ := Aside0.mk (blk_below (g := gb436) (o := .cells #[.int .i64 t430, .int .i64 t431, .slice Ao19 t432.length co19] 50 (0, 0)) (by (with_reducible repeat (first | refine blk_drewN ?_ _ | refine blk_drew ?_ | refine blk_alloc ?_ _)); refine blk_put (cs := #[.int .i64 t430, .int .i64 t431, .slice none 0 0]) ?_ 2 _ rfl; (with_reducible repeat (first | refine blk_drewN ?_ _ | refine blk_drew ?_ | refine blk_alloc ?_ _)); refine blk_put (cs := #[.int .i64 t430, .int .i64 0, .slice none 0 0]) ?_ 1 _ rfl; (with_reducible repeat (first | refine blk_drewN ?_ _ | refine blk_drew ?_ | refine blk_alloc ?_ _)); refine blk_put (cs := #[.int .i64 0, .int .i64 0, .slice none 0 0]) ?_ 0 _ rfl; (with_reducible repeat (first | refine blk_drewN ?_ _ | refine blk_drew ?_ | refine blk_alloc ?_ _)); exact BK436.out) hb); have n3_ := Aside0.mk (below_step (by repeat (first | (with_reducible first | exact HB.out | apply below_alloc | apply pw_below_drewN | apply below_drew1 | refine below_set ?_ GE436.out) | exact HB.out)) hb); clear HO434; clear BK436; clear HB; have HO434 := n0_; have HO439 := n1_; have BK436 := n2_; have HB := n3_; clear n0_ n1_ n2_ n3_; (try clear hb); (try clear hb2); (try clear hk); (try clear hi); (try clear ho0)))
      go_ret2
      exact ⟨_, by first | rfl | (simp [errW_none, errW_some] <;> rfl) | (simp [*, errW_none, errW_some] <;> rfl), by first | exact Kd.R_nil _ _ _ _ _ | exact Kd.N_nil _ _ _ _ _ | exact Kd.V_nil _ _ _ _ _ | exact Kd.Q_nil _ _ _ _ _ | exact Kd.S_nil _ _ _ _ _, by repeat (first | (with_reducible first | exact HB.out | apply below_alloc | apply pw_below_drewN | apply below_drew1 | refine below_set ?_ GE436.out) | exact HB.out)⟩
  · replace c4 := Bool.eq_false_iff.mpr c4
    subst c4
    have H1 : (some (([] : List (S_Tile)), false)) = some (r1, r2) := by rw [if_neg (show ¬ (false = true) by decide)] at H; exact H
    clear H
    have H := H1
    clear H1
    simp only [Option.some.injEq, Prod.mk.injEq] at H
    obtain ⟨rfl, rfl⟩ := H
    go_enter Tryd.func29, Tryd.ntmps29
    go_wp2_with (first | ((with_reducible refine gate_callee (f := 34) rfl ?_); refine goesL_ (some 12) rfl rfl Tryd.func34 (by kernel_rfl) rfl #[.string a0] rfl (by (try simp only [List.map_toArray, List.map_cons, List.map_nil]); first | done | rfl | (simp only [List.length_drop, List.length_take]; rfl)) ?_; (with_reducible refine (spec_taRead.calls k a0 t430 t431 t432 false _ A3.out).mono ?_); rintro e w21 ⟨v433, rfl, ho0, hb⟩; refine ⟨_, rfl, ?_⟩; have n0_ := Aside0.mk (Kd.R_lower ho0 (below_size (by repeat (first | (with_reducible first | exact HB.out | apply below_alloc | apply pw_below_drewN | apply below_drew1) | exact HB.out)))); have n1_ := Aside0.mk (below_step (by repeat (first | (with_reducible first | exact HB.out | apply below_alloc | apply pw_below_drewN | apply below_drew1) | exact HB.out)) hb); clear HB; have HO434 := n0_; have HB := n1_; clear n0_ n1_; (try clear hb); (try clear hb2); (try clear hk); (try clear hi); (try clear ho0)) | ((with_reducible refine gate_dst (N := 6) rfl ?_); refine box_event ?hg (N := 6) ?hd (cs := #[.int .i64 0, .int .i64 0, .slice none 0 0]) (t := 50) ?hr ?_; (case hd => rfl); (case hg => rfl); (case hr => first | (go_simp; done) | (go_simp; rfl)); intro gb436 hg w22 hbox hb; have n0_ := Aside0.mk (Kd.R_below (by (with_reducible repeat (first | apply Kd.R_alloc | apply Kd.R_drewN | apply Kd.R_drew)); exact HO434.out) hb); have n1_ := Aside0.mk (below_step (by repeat (first | (with_reducible first | exact HB.out | apply below_alloc | apply pw_below_drewN | apply below_drew1) | exact HB.out)) hb); have n2_ := Aside0.mk (hbox); have n3_ := Aside0.mk ((by rw [hg]; exact (below_size (by repeat (first | (with_reducible first | exact HB.out | apply below_alloc | apply pw_below_drewN | apply below_drew1) | exact HB.out))) : w.heap.size ≤ gb436)); have n4_ := Aside0.mk ((by rw [hg]; exact (below_size (by repeat (first | (with_reducible first | exact HB.out | apply below_alloc | apply pw_below_drewN | apply below_drew1) | exact HB.out))) : w.heap.size ≤ gb436)); clear HO434; clear HB; have HO434 := n0_; have HB := n1_; have BK436 := n2_; have GW436 := n3_; have GE436 := n4_; clear n0_ n1_ n2_ n3_ n4_; clear hb hbox hg; have hcz23_0 : w22.cell? ⟨gb436, 0, none⟩ = some (.int .i64 0) := (blk_cell BK436.out 0).trans rfl; have hcz23_1 : w22.cell? ⟨gb436, 1, none⟩ = some (.int .i64 0) := (blk_cell BK436.out 1).trans rfl; have hcz23_2 : w22.cell? ⟨gb436, 2, none⟩ = some (.slice none 0 0) := (blk_cell BK436.out 2).trans rfl; have hfz23_0 := blk_frozen BK436.out 0; have hfz23_1 := blk_frozen BK436.out 1; have hfz23_2 := blk_frozen BK436.out 2; obtain ⟨Ao24, co24, eo24⟩ := Kd.R_slice HO434.out; subst eo24))
    go_ret2
    exact ⟨_, by first | rfl | (simp [errW_none, errW_some] <;> rfl) | (simp [*, errW_none, errW_some] <;> rfl), by first | exact Kd.R_nil _ _ _ _ _ | exact Kd.N_nil _ _ _ _ _ | exact Kd.V_nil _ _ _ _ _ | exact Kd.Q_nil _ _ _ _ _ | exact Kd.S_nil _ _ _ _ _, by repeat (first | (with_reducible first | exact HB.out | apply below_alloc | apply pw_below_drewN | apply below_drew1 | refine below_set ?_ GE436.out) | exact HB.out)⟩

end
section
open Go.RowKit Go.Proofs.YtjhbnkplpaffoaaDoorW.PrintWords Go.Proofs.YtjhbnkplpaffoaaDoorW.PrintLast Go.Proofs.YtjhbnkplpaffoaaDoorW.PrintMore
attribute [local go_sem] max2_int min2_int max_two min_two max_three min_three max_four min_four   -- for this text's walks alone
set_option linter.unusedVariables false
set_option linter.unusedSimpArgs false

mutual
def impl_TilesOfLayout.j0 : Nat → ByteArray → ByteArray → Bool → Option ((List (S_Tile)) × Bool)
  | 0, _, _, _ => none
  | k + 1, x0, x1, x19 => if x19 = true then (some (([] : List (S_Tile)), false)) else ((impl_pairs.f k x1).bind fun bt446 => (impl_TilesOfLayout.l0 k x0 (([] : List (S_Tile))) bt446.1 (bt446.1.length : Int) 0))
def impl_TilesOfLayout.l0 : Nat → ByteArray → List (S_Tile) → List (List Int) → Int → Int → Option ((List (S_Tile)) × Bool)
  | 0, _, _, _, _, _ => none
  | k + 1, x0, x8, x26, x27, x28 => if x28 < x27 then (if 0 ≤ x28 then (if x28 < (x26.length : Int) then ((impl_flat.f x0).bind fun t454 => (if 0 < ((rd_i64s x26 x28).length : Int) then (if 1 < ((rd_i64s x26 x28).length : Int) then ((impl_at.f t454 (rd (rd_i64s x26 x28) 0) (rd (rd_i64s x26 x28) 1)).bind fun bt457 => (if x8.length < 8796093022208 then (impl_TilesOfLayout.l0 k x0 (x8 ++ [(⟨bt457.1, bt457.2⟩ : S_Tile)]) x26 x27 (wrap64 (x28 + 1))) else (none))) else (none)) else (none))) else (none)) else (none)) else (some (x8, true))
end
def impl_TilesOfLayout.f (k : Nat) (a0 : ByteArray) (a1 : ByteArray) : Option ((List (S_Tile)) × Bool) := (impl_IsTable.f k a0).bind fun t444 => (if t444 = true then ((impl_isLayout.f k a0 a1).bind fun t445 => (impl_TilesOfLayout.j0 k a0 a1 (!t445))) else (impl_TilesOfLayout.j0 k a0 a1 true))
def impl_TilesOfLayout.T8 : Bool × List (List Nat × List Nat) := (true, [([], []), ([], []), ([1], [1]), ([], []), ([3], [3]), ([4], [4]), ([], []), ([6], [6]), ([7], [7]), ([2, 5, 8, 2], [2, 5, 8]), ([9], [9]), ([0, 10, 9], [0, 10]), ([11, 11, 0, 1, 2, 3, 4, 5, 6, 7, 8, 9, 10, 11], [0, 11])])
def impl_TilesOfLayout.B8 : List Nat := [0, 0, 2, 0, 8, 24, 0, 64, 192, 510, 1022, 2047, 4095]
theorem impl_TilesOfLayout.tab8 : rtab .any (opsOf Tryd.f30 8) = impl_TilesOfLayout.T8 := by kernel_rfl
theorem impl_TilesOfLayout.bits8 : waitsOk impl_TilesOfLayout.T8.2 impl_TilesOfLayout.B8 = true := by kernel_rfl
set_option maxHeartbeats 8000000 in
set_option maxRecDepth 100000 in
theorem impl_TilesOfLayout.calls (k : Nat) (a0 : ByteArray) (a1 : ByteArray) (r1 : List (S_Tile)) (r2 : Bool) (w : World) (hmx : ∃ m, w.cell? ⟨0, 0, none⟩ = some (.int .i64 m)) (h : impl_TilesOfLayout.f k a0 a1 = some (r1, r2)) :
    Calls Tryd.prog 30 #[.string a0, .string a1] w fun e w' => ∃ v0_ : Value, e = .returned (.tuple #[v0_, .bool r2]) ∧ Kd.R k38 38 w' w.heap.size (fun _ => True) v0_ r1 ∧ Below w.heap.size w w' := by
  have HMX := Aside0.mk hmx
  clear hmx
  have HB := Aside0.mk (Below.refl w.heap.size w)
  have H : ((impl_IsTable.f k a0).bind fun t444 => (if t444 = true then ((impl_isLayout.f k a0 a1).bind fun t445 => (impl_TilesOfLayout.j0 k a0 a1 (!t445))) else (impl_TilesOfLayout.j0 k a0 a1 true))) = some (r1, r2) := h
  clear h
  have HC3 := Aside0.mk H
  clear H
  go_enter Tryd.func30, Tryd.ntmps30
  go_upto_region 1 with (fail)
  go_cut [19] (fun v19 wc => ∃ (kq : Nat) (x19_2 : Bool), v19 = .bool x19_2 ∧ Aside0 (impl_TilesOfLayout.j0 kq a0 a1 x19_2 = some (r1, r2)) ∧ Aside0 (kq ≤ k) ∧ Aside0 (Below w.heap.size w wc))
  case first =>
    have H := HC3.out
    clear HC3
    replace H := Option.bind_eq_some_iff.mp H
    obtain ⟨t444, A40, H⟩ := H
    replace H : (if t444 = true then ((impl_isLayout.f k a0 a1).bind fun t445 => (impl_TilesOfLayout.j0 k a0 a1 (!t445))) else (impl_TilesOfLayout.j0 k a0 a1 true)) = some (r1, r2) := H
    have A4 := Aside0.mk A40
    clear A40
    by_cases c5 : t444 = true
    · subst c5
      have H1 : ((impl_isLayout.f k a0 a1).bind fun t445 => (impl_TilesOfLayout.j0 k a0 a1 (!t445))) = some (r1, r2) := by rw [if_pos rfl] at H; exact H
      clear H
      have H := H1
      clear H1
      replace H := Option.bind_eq_some_iff.mp H
      obtain ⟨t445, A60, H⟩ := H
      replace H : (impl_TilesOfLayout.j0 k a0 a1 (!t445)) = some (r1, r2) := H
      have A6 := Aside0.mk A60
      clear A60
      have H' := Aside0.mk H
      clear H
      go_wp2_with (first | ((with_reducible refine gate_callee (f := 12) rfl ?_); refine goesL_ (some 12) rfl rfl Tryd.func12 (by kernel_rfl) rfl #[.string a0] rfl (by (try simp only [List.map_toArray, List.map_cons, List.map_nil]); first | done | rfl | (simp only [List.length_drop, List.length_take]; rfl)) ?_; (with_reducible refine (impl_IsTable.calls k a0 true _ (mx_of HMX.out (by repeat (first | (with_reducible first | exact HB.out | apply below_alloc | apply pw_below_drewN | apply below_drew1) | exact HB.out))) A4.out).mono ?_); rintro e w7 ⟨rfl, hb⟩; refine ⟨_, rfl, ?_⟩; have n0_ := Aside0.mk (below_step (by repeat (first | (with_reducible first | exact HB.out | apply below_alloc | apply pw_below_drewN | apply below_drew1) | exact HB.out)) hb); clear HB; have HB := n0_; clear n0_; (try clear hb); (try clear hb2); (try clear hk); (try clear hi)) | (go_at_call 46; (with_reducible refine (impl_isLayout.calls k a0 a1 t445 _ (mx_of HMX.out (by repeat (first | (with_reducible first | exact HB.out | apply below_alloc | apply pw_below_drewN | apply below_drew1) | exact HB.out))) A6.out).mono ?_); rintro e w8 ⟨rfl, hb⟩; have n0_ := Aside0.mk (below_step (by repeat (first | (with_reducible first | exact HB.out | apply below_alloc | apply pw_below_drewN | apply below_drew1) | exact HB.out)) hb); clear HB; have HB := n0_; clear n0_; (try clear hb); (try clear hb2); (try clear hk); (try clear hi)))
      go_meet
      case rel => exact ⟨_, (!t445), (by first | rfl | (simp; done) | (simp [*]; done)), H', ⟨by first | omega | exact Nat.le_refl _⟩, ⟨by repeat (first | (with_reducible first | exact HB.out | apply below_alloc | apply pw_below_drewN | apply below_drew1) | exact HB.out)⟩⟩
    · replace c5 := Bool.eq_false_iff.mpr c5
      subst c5
      have H1 : (impl_TilesOfLayout.j0 k a0 a1 true) = some (r1, r2) := by rw [if_neg (show ¬ (false = true) by decide)] at H; exact H
      clear H
      have H := H1
      clear H1
      have H' := Aside0.mk H
      clear H
      go_wp2_with (first | ((with_reducible refine gate_callee (f := 12) rfl ?_); refine goesL_ (some 12) rfl rfl Tryd.func12 (by kernel_rfl) rfl #[.string a0] rfl (by (try simp only [List.map_toArray, List.map_cons, List.map_nil]); first | done | rfl | (simp only [List.length_drop, List.length_take]; rfl)) ?_; (with_reducible refine (impl_IsTable.calls k a0 false _ (mx_of HMX.out (by repeat (first | (with_reducible first | exact HB.out | apply below_alloc | apply pw_below_drewN | apply below_drew1) | exact HB.out))) A4.out).mono ?_); rintro e w9 ⟨rfl, hb⟩; refine ⟨_, rfl, ?_⟩; have n0_ := Aside0.mk (below_step (by repeat (first | (with_reducible first | exact HB.out | apply below_alloc | apply pw_below_drewN | apply below_drew1) | exact HB.out)) hb); clear HB; have HB := n0_; clear n0_; (try clear hb); (try clear hb2); (try clear hk); (try clear hi)))
      go_meet
      case rel => exact ⟨_, (true), (by first | rfl | (simp; done) | (simp [*]; done)), H', ⟨by first | omega | exact Nat.le_refl _⟩, ⟨by repeat (first | (with_reducible first | exact HB.out | apply below_alloc | apply pw_below_drewN | apply below_drew1) | exact HB.out)⟩⟩
  case rest =>
    clear HC3
    try clear c1
    try clear p2
    try clear c3
    try clear c5
    obtain ⟨kq, x19_2, rfl, HA, HJ2, HB⟩ := hcut
    cases kq with
    | zero => exact absurd HA.out (by simp [impl_TilesOfLayout.j0])
    | succ kj2 =>
      have H := HA.out
      clear HA
      simp only [impl_TilesOfLayout.j0] at H
      by_cases c10 : x19_2 = true
      · subst c10
        have H1 : (some (([] : List (S_Tile)), false)) = some (r1, r2) := by rw [if_pos rfl] at H; exact H
        clear H
        have H := H1
        clear H1
        simp only [Option.some.injEq, Prod.mk.injEq] at H
        obtain ⟨rfl, rfl⟩ := H
        go_wp2
        go_ret2
        exact ⟨_, by first | rfl | (simp [errW_none, errW_some] <;> rfl) | (simp [*, errW_none, errW_some] <;> rfl), by first | exact Kd.R_nil _ _ _ _ _ | exact Kd.N_nil _ _ _ _ _ | exact Kd.V_nil _ _ _ _ _ | exact Kd.Q_nil _ _ _ _ _ | exact Kd.S_nil _ _ _ _ _, by repeat (first | (with_reducible first | exact HB.out | apply below_alloc | apply pw_below_drewN | apply below_drew1) | exact HB.out)⟩
      · replace c10 := Bool.eq_false_iff.mpr c10
        subst c10
        have H1 : ((impl_pairs.f kj2 a1).bind fun bt446 => (impl_TilesOfLayout.l0 kj2 a0 (([] : List (S_Tile))) bt446.1 (bt446.1.length : Int) 0)) = some (r1, r2) := by rw [if_neg (show ¬ (false = true) by decide)] at H; exact H
        clear H
        have H := H1
        clear H1
        replace H := Option.bind_eq_some_iff.mp H
        obtain ⟨⟨t446, t447⟩, A110, H⟩ := H
        replace H : (impl_TilesOfLayout.l0 kj2 a0 (([] : List (S_Tile))) t446 (t446.length : Int) 0) = some (r1, r2) := H
        have A11 := Aside0.mk A110
        clear A110
        obtain ⟨y450, hy450⟩ : ∃ y_ : List (S_Tile), y_ = (([] : List (S_Tile))) := ⟨_, rfl⟩
        replace H : (impl_TilesOfLayout.l0 kj2 a0 y450 t446 (t446.length : Int) 0) = some (r1, r2) := by first | (rw [hy450]; with_reducible exact H) | (have H2_ := (Option.bind_some _ _).symm.trans H; rw [hy450]; with_reducible exact H2_) | (have H2_ := (Option.bind_some _ _).symm.trans H; with_reducible exact H2_) | with_reducible exact H | (rw [hy450]; exact H) | exact H
        have Ny450 := Aside0.mk hy450
        clear hy450
        have H' := Aside0.mk H
        clear H
        go_wp2_with (first | ((with_reducible refine gate_callee (f := 55) rfl ?_); refine goesL_ (some 22) rfl rfl Tryd.func55 (by kernel_rfl) rfl #[.string a1] rfl (by (try simp only [List.map_toArray, List.map_cons, List.map_nil]); first | done | rfl | (simp only [List.length_drop, List.length_take]; rfl)) ?_; (with_reducible refine (impl_pairs.calls kj2 a1 t446 t447 _ (mx_of HMX.out (by repeat (first | (with_reducible first | exact HB.out | apply below_alloc | apply pw_below_drewN | apply below_drew1) | exact HB.out))) A11.out).mono ?_); rintro e w12 ⟨v448, rfl, ho0, hb⟩; refine ⟨_, rfl, ?_⟩; have n0_ := Aside0.mk (Kd.S_lower ho0 (below_size (by repeat (first | (with_reducible first | exact HB.out | apply below_alloc | apply pw_below_drewN | apply below_drew1) | exact HB.out)))); have n1_ := Aside0.mk (below_step (by repeat (first | (with_reducible first | exact HB.out | apply below_alloc | apply pw_below_drewN | apply below_drew1) | exact HB.out)) hb); clear HB; have HO449 := n0_; have HB := n1_; clear n0_ n1_; (try clear hb); (try clear hb2); (try clear hk); (try clear hi); (try clear ho0)) | ((with_reducible refine gate_dst (N := 25) rfl ?_); refine Kd.R_lit k38 _ 38 ?hg (N := 25) ?hd (xs := ([] : List (S_Tile))) (inner := []) (ok := fun _ => True) (okp := fun _ => True) ?hr ?hp (fun _ hk => hk) trivial (Below.refl _ _) (Nat.le_refl _) (by simp) ?_; (case hd => rfl); (case hg => rfl); (case hr => first | (go_simp; done) | (go_simp; rfl)); (case hp => exact (Reps.none _ _)); intro v451 w13 ho14 hb hg_ hnew_; clear hg_ hnew_; (first | rw [← Ny450.out] at ho14 | (simp only [Int.reduceToNat] at ho14; rw [← Ny450.out] at ho14)); have n0_ := Aside0.mk (Kd.S_below (by (with_reducible repeat (first | apply Kd.S_alloc | apply Kd.S_drewN | apply Kd.S_drew)); exact HO449.out) hb); have n1_ := Aside0.mk (Kd.R_lower ho14 (below_size (by repeat (first | (with_reducible first | exact HB.out | apply below_alloc | apply pw_below_drewN | apply below_drew1) | exact HB.out)))); have n2_ := Aside0.mk (below_step (by repeat (first | (with_reducible first | exact HB.out | apply below_alloc | apply pw_below_drewN | apply below_drew1) | exact HB.out)) hb); clear HO449; clear HB; have HO449 := n0_; have HO452 := n1_; have HB := n2_; clear n0_ n1_ n2_; clear hb ho14; obtain ⟨Ao15, co15, eo15⟩ := Kd.S_slice HO449.out; subst eo15))
        go_loopg [8, 28] kj2 (fun kq v8 v28 w' => ∃ (x8_2 : List (S_Tile)) (x28_2 : Int), v28 = .int .i64 x28_2 ∧ Aside0 (impl_TilesOfLayout.l0 kq a0 x8_2 t446 (t446.length : Int) x28_2 = some (r1, r2)) ∧ Aside0 (kq ≤ kj2) ∧ Aside0 (Kd.R k38 38 w' w.heap.size (fun _ => True) v8 x8_2) ∧ Aside0 (Kd.S (Kd.slice 3 (Kd.int .i64)) 48 w' w.heap.size (fun _ => True) (.slice Ao15 t446.length co15) t446) ∧ Aside0 (Below w.heap.size w w'))
        case atStart => exact ⟨(y450), (0), (by first | rfl | (simp; done) | (simp [*]; done)), H', ⟨Nat.le_refl _⟩, ⟨by (with_reducible repeat (first | apply Kd.R_alloc | apply Kd.R_drewN | apply Kd.R_drew)); exact HO452.out⟩, ⟨by (with_reducible repeat (first | apply Kd.S_alloc | apply Kd.S_drewN | apply Kd.S_drew)); exact HO449.out⟩, ⟨by repeat (first | (with_reducible first | exact HB.out | apply below_alloc | apply pw_below_drewN | apply below_drew1) | exact HB.out)⟩⟩
        case round =>
          clear H'
          try clear c1
          try clear p2
          try clear c3
          try clear c5
          try clear c10
          try clear c12
          try clear p2
          obtain ⟨x8_2, x28_2, rfl, HA, HK2, HO_8, HO_26, HB⟩ := hrel
          cases gk with
          | zero => exact absurd HA.out (by simp [impl_TilesOfLayout.l0])
          | succ k2 =>
            have H := HA.out
            clear HA
            simp only [impl_TilesOfLayout.l0] at H
            by_cases c16 : x28_2 < (t446.length : Int)
            · rw [if_pos c16] at H
              have c16b0 : decide (x28_2 < (t446.length : Int)) = true := decide_eq_true c16
              clear c16
              by_cases c17 : 0 ≤ x28_2
              · rw [if_pos c17] at H
                have c17b0 : decide (0 ≤ x28_2) = true := decide_eq_true c17
                clear c17
                by_cases c18 : x28_2 < (t446.length : Int)
                · rw [if_pos c18] at H
                  have c18b0 : decide (x28_2 < (t446.length : Int)) = true := decide_eq_true c18
                  clear c18
                  replace H := Option.bind_eq_some_iff.mp H
                  obtain ⟨t454, A190, H⟩ := H
                  replace H : (if 0 < ((rd_i64s t446 x28_2).length : Int) then (if 1 < ((rd_i64s t446 x28_2).length : Int) then ((impl_at.f t454 (rd (rd_i64s t446 x28_2) 0) (rd (rd_i64s t446 x28_2) 1)).bind fun bt457 => (if x8_2.length < 8796093022208 then (impl_TilesOfLayout.l0 k2 a0 (x8_2 ++ [(⟨bt457.1, bt457.2⟩ : S_Tile)]) t446 (t446.length : Int) (wrap64 (x28_2 + 1))) else (none))) else (none)) else (none)) = some (r1, r2) := H
                  have A19 := Aside0.mk A190
                  clear A190
                  by_cases c20 : 0 < ((rd_i64s t446 x28_2).length : Int)
                  · rw [if_pos c20] at H
                    have c20b0 : decide (0 < ((rd_i64s t446 x28_2).length : Int)) = true := decide_eq_true c20
                    have c20b1 : decide (0 < (rd_i64s t446 x28_2).length) = true := decide_eq_true (by omega)
                    clear c20
                    by_cases c21 : 1 < ((rd_i64s t446 x28_2).length : Int)
                    · rw [if_pos c21] at H
                      have c21b0 : decide (1 < ((rd_i64s t446 x28_2).length : Int)) = true := decide_eq_true c21
                      have c21b1 : decide (1 < (rd_i64s t446 x28_2).length) = true := decide_eq_true (by omega)
                      clear c21
                      replace H := Option.bind_eq_some_iff.mp H
                      obtain ⟨⟨t457, t458⟩, A220, H⟩ := H
                      replace H : (if x8_2.length < 8796093022208 then (impl_TilesOfLayout.l0 k2 a0 (x8_2 ++ [(⟨t457, t458⟩ : S_Tile)]) t446 (t446.length : Int) (wrap64 (x28_2 + 1))) else (none)) = some (r1, r2) := H
                      have A22 := Aside0.mk A220
                      clear A220
                      by_cases c23 : x8_2.length < 8796093022208
                      · rw [if_pos c23] at H
                        have LMc23 := Aside0.mk c23
                        clear c23
                        obtain ⟨y459, hy459⟩ : ∃ y_ : List (S_Tile), y_ = (x8_2 ++ [(⟨t457, t458⟩ : S_Tile)]) := ⟨_, rfl⟩
                        replace H : (impl_TilesOfLayout.l0 k2 a0 y459 t446 (t446.length : Int) (wrap64 (x28_2 + 1))) = some (r1, r2) := by first | (rw [hy459]; with_reducible exact H) | (have H2_ := (Option.bind_some _ _).symm.trans H; rw [hy459]; with_reducible exact H2_) | (have H2_ := (Option.bind_some _ _).symm.trans H; with_reducible exact H2_) | with_reducible exact H | (rw [hy459]; exact H) | exact H
                        have Ny459 := Aside0.mk hy459
                        clear hy459
                        have H' := Aside0.mk H
                        clear H
                        have p453 : 0 ≤ (x28_2 : Int) := of_decide_eq_true (by first | (with_reducible assumption) | assumption)
                        have q453 : x28_2 < (t446.length : Int) := of_decide_eq_true (by first | (with_reducible assumption) | assumption)
                        obtain ⟨ad453, A453_0, c453_0, e453, hx453_0, hl453_0, hi453_0⟩ := at_i64s (Kd.S_reads' HO_26.out).2.2 x28_2 p453 q453
                        cases e453
                        obtain ⟨ce453, hce453, hMe453, hcc453⟩ := Kd.S_get HO_26.out [] x28_2 p453 (by first | exact q453 | exact of_decide_eq_true (by first | (with_reducible assumption) | assumption) | (have e_ := (Kd.S_reads' HO_26.out).1; omega))
                        obtain ⟨ve453_0, rfl, ge453_0⟩ := hMe453
                        have hv453_0 := hcc453 0 _ rfl
                        rw [Nat.add_zero, show ((Kd.slice 3 (Kd.int .i64))).sz = 1 from rfl, Nat.mul_one] at hv453_0
                        replace hv453_0 := Option.some.inj (hv453_0.symm.trans hx453_0)
                        rw [hv453_0] at ge453_0
                        have HL453_0 := Aside0.mk (show Kd.R (Kd.int .i64) 3 _ _ _ _ (rd_i64s t446 x28_2) from ge453_0)
                        clear hv453_0 ge453_0
                        clear hcc453 hce453
                        have HR453_0 := Aside0.mk hi453_0
                        have HC453_0 := Aside0.mk hl453_0
                        clear hi453_0 hl453_0
                        replace p453 := eq_true p453
                        replace q453 := eq_true q453
                        try go_wp2
                        have n0_ := Aside0.mk (Kd.R_drew HO_8.out)
                        have n1_ := Aside0.mk (Kd.S_drew HO_26.out)
                        have n2_ := Aside0.mk (Kd.R_drew HL453_0.out)
                        have n3_ := Aside0.mk (Kd.C_drew HR453_0.out)
                        have n4_ := Aside0.mk (below_drew1 HB.out)
                        clear HO_8
                        clear HO_26
                        clear HL453_0
                        clear HR453_0
                        clear HB
                        have HO_8 := n0_
                        have HO_26 := n1_
                        have HL453_0 := n2_
                        have HR453_0 := n3_
                        have HB := n4_
                        clear n0_ n1_ n2_ n3_ n4_
                        have p455 : 0 ≤ (0 : Int) := (by omega)
                        have q455 : 0 < ((rd_i64s t446 x28_2).length : Int) := of_decide_eq_true (by first | (with_reducible assumption) | assumption)
                        obtain ⟨ad455, e455, hx455_0⟩ := Kd.at_int (by repeat (first | (with_reducible exact HR453_0.out) | (with_reducible refine Kd.C_alloc ?_ _) | (with_reducible refine Kd.C_drewN ?_ _) | (with_reducible refine Kd.C_drew ?_) | exact HR453_0.out)) 0 p455 q455
                        cases e455
                        have qi455 : (0 < (rd_i64s t446 x28_2).length) = True := eq_true (by omega)
                        (try rw [show ((0 : Int)).toNat = 0 from rfl] at hx455_0)
                        (try rw [Addr.add_zero'] at hx455_0)
                        replace p455 := eq_true p455
                        replace q455 := eq_true q455
                        have p456 : 0 ≤ (1 : Int) := (by omega)
                        have q456 : 1 < ((rd_i64s t446 x28_2).length : Int) := of_decide_eq_true (by first | (with_reducible assumption) | assumption)
                        obtain ⟨ad456, e456, hx456_0⟩ := Kd.at_int (by repeat (first | (with_reducible exact HR453_0.out) | (with_reducible refine Kd.C_alloc ?_ _) | (with_reducible refine Kd.C_drewN ?_ _) | (with_reducible refine Kd.C_drew ?_) | exact HR453_0.out)) 1 p456 q456
                        obtain rfl : ad455 = ad456 := (by injection e456)
                        (try simp only [show (1 : Int).toNat = 1 from rfl, Nat.reduceMul, Nat.reduceEqDiff, Go.Addr.add, ↓reduceIte] at hx456_0)
                        have qi456 : (1 < (rd_i64s t446 x28_2).length) = True := eq_true (by omega)
                        (try rw [show ((1 : Int)).toNat = 1 from rfl] at hx456_0)
                        replace p456 := eq_true p456
                        replace q456 := eq_true q456
                        refine start_ (n := 13) (S := fun w' => w'.cell? ad455 = some (.int .i64 (rd (rd_i64s t446 x28_2) 0)) ∧ w'.cell? ⟨ad455.block, ad455.off + 1, none⟩ = some (.int .i64 (rd (rd_i64s t446 x28_2) 1))) (ds := [10, 11]) #[false, false, false, false, false, false, false, false, false, false, false, false, false] (by kernel_rfl) rfl rfl ⟨hx455_0, hx456_0⟩ (fun hHeld => ?_); refine with_tabW impl_TilesOfLayout.tab8 impl_TilesOfLayout.bits8 (fun HT_ HW_ => ?_)
                        generalize wr.drew = w24 at HO_8 HO_26 HL453_0 HR453_0 HB hx455_0 hx456_0 hHeld ⊢
                        refine pure_ (i := 0) (N := some 32) (v := ?_) (a' := ?_) #[true, false, false, false, false, false, false, false, false, false, false, false, false] rfl rfl (any_of HT_.out (by kernel_rfl)) (fun _ _ _ h => h) (Or.inl ⟨by rfl, ?_⟩) ?_ ?_
                        rotate_left
                        · intro w'
                          go_simp
                          with_reducible rfl
                        rotate_left
                        · simp only [Act.put, List.setIfInBounds_toArray, List.set_cons_zero, List.set_cons_succ, i64_w, i32_w]
                          rfl
                        refine pure_ (i := 1) (N := some 33) (v := ?_) (a' := ?_) #[true, true, false, false, false, false, false, false, false, false, false, false, false] rfl rfl (any_of HT_.out (by kernel_rfl)) (fun _ _ _ h => h) (Or.inl ⟨by rfl, ?_⟩) ?_ ?_
                        rotate_left
                        · intro w'
                          go_simp
                          with_reducible rfl
                        rotate_left
                        · simp only [Act.put, List.setIfInBounds_toArray, List.set_cons_zero, List.set_cons_succ, i64_w, i32_w]
                          rfl
                        refine pure_ (i := 3) (N := some 35) (v := ?_) (a' := ?_) #[true, true, false, true, false, false, false, false, false, false, false, false, false] rfl rfl (any_of HT_.out (by kernel_rfl)) (fun _ _ _ h => h) (Or.inl ⟨by rfl, ?_⟩) ?_ ?_
                        rotate_left
                        · intro w'
                          go_simp
                          with_reducible rfl
                        rotate_left
                        · simp only [Act.put, List.setIfInBounds_toArray, List.set_cons_zero, List.set_cons_succ, i64_w, i32_w]
                          rfl
                        refine pure_ (i := 4) (N := some 36) (v := ?_) (a' := ?_) #[true, true, false, true, true, false, false, false, false, false, false, false, false] rfl rfl (any_of HT_.out (by kernel_rfl)) (fun _ _ _ h => h) (Or.inl ⟨by rfl, ?_⟩) ?_ ?_
                        rotate_left
                        · intro w'
                          go_simp
                          with_reducible rfl
                        rotate_left
                        · simp only [Act.put, List.setIfInBounds_toArray, List.set_cons_zero, List.set_cons_succ, i64_w, i32_w]
                          rfl
                        refine pure_ (i := 6) (N := some 38) (v := ?_) (a' := ?_) #[true, true, false, true, true, false, true, false, false, false, false, false, false] rfl rfl (any_of HT_.out (by kernel_rfl)) (fun _ _ _ h => h) (Or.inl ⟨by rfl, ?_⟩) ?_ ?_
                        rotate_left
                        · intro w'
                          go_simp
                          with_reducible rfl
                        rotate_left
                        · simp only [Act.put, List.setIfInBounds_toArray, List.set_cons_zero, List.set_cons_succ, i64_w, i32_w]
                          rfl
                        refine pure_ (i := 7) (N := some 39) (v := ?_) (a' := ?_) #[true, true, false, true, true, false, true, true, false, false, false, false, false] rfl rfl (any_of HT_.out (by kernel_rfl)) (fun _ _ _ h => h) (Or.inl ⟨by rfl, ?_⟩) ?_ ?_
                        rotate_left
                        · intro w'
                          go_simp
                          with_reducible rfl
                        rotate_left
                        · simp only [Act.put, List.setIfInBounds_toArray, List.set_cons_zero, List.set_cons_succ, i64_w, i32_w]
                          rfl
                        refine take_ (i := 5) (N := some 37) (v := ?_) (a' := ?_) #[true, true, false, true, true, true, true, true, false, false, false, false, false] rfl rfl (take_ofW HT_.out HW_.out (by kernel_rfl)) (fun _ _ _ h => h) (Or.inl ⟨by rfl, ?_⟩) hHeld ?_ ?_
                        rotate_left
                        · rintro w' ⟨s0, s1⟩
                          go_simp
                          with_reducible rfl
                        rotate_left
                        · simp only [Act.put, List.setIfInBounds_toArray, List.set_cons_zero, List.set_cons_succ, i64_w, i32_w]
                          rfl
                        refine take_ (i := 8) (N := some 40) (v := ?_) (a' := ?_) #[true, true, false, true, true, true, true, true, true, false, false, false, false] rfl rfl (take_ofW HT_.out HW_.out (by kernel_rfl)) (fun _ _ _ h => h) (Or.inl ⟨by rfl, ?_⟩) hHeld ?_ ?_
                        rotate_left
                        · rintro w' ⟨s0, s1⟩
                          go_simp
                          with_reducible rfl
                        rotate_left
                        · simp only [Act.put, List.setIfInBounds_toArray, List.set_cons_zero, List.set_cons_succ, i64_w, i32_w]
                          rfl
                        refine one_ (i := 2) (N := some 34) #[true, true, true, true, true, true, true, true, true, false, false, false, false] rfl rfl (one_of HT_.out (by kernel_rfl)) (by decide) (fun K hK => ?_)
                        refine goes_ Tryd.func57 (by kernel_rfl) rfl #[.string a0] (by rfl) rfl rfl (by (try simp only [List.map_toArray, List.map_cons, List.map_nil]); first | done | rfl | (simp only [List.length_drop, List.length_take]; rfl)) ?_
                        with_reducible refine (impl_flat.calls a0 t454 _ (mx_of HMX.out (by repeat (first | (with_reducible first | exact HB.out | apply below_alloc | apply pw_below_drewN | apply below_drew1) | exact HB.out))) A19.out).mono ?_
                        rintro e w25 ⟨rfl, hb⟩
                        have HS0_ := (hb.cell (World.block_lt_of_cell? _ _ (hHeld.1))).trans (hHeld.1)
                        have HS1_ := (hb.cell (World.block_lt_of_cell? _ _ (hHeld.2))).trans (hHeld.2)
                        refine ⟨_, rfl, ?_⟩
                        have n0_ := Aside0.mk (Kd.R_below (by (with_reducible repeat (first | apply Kd.R_alloc | apply Kd.R_drewN | apply Kd.R_drew)); exact HO_8.out) hb)
                        have n1_ := Aside0.mk (Kd.S_below (by (with_reducible repeat (first | apply Kd.S_alloc | apply Kd.S_drewN | apply Kd.S_drew)); exact HO_26.out) hb)
                        have n2_ := Aside0.mk (Kd.R_below (by (with_reducible repeat (first | apply Kd.R_alloc | apply Kd.R_drewN | apply Kd.R_drew)); exact HL453_0.out) hb)
                        have n3_ := Aside0.mk (Kd.C_below (by repeat (first | (with_reducible exact HR453_0.out) | (with_reducible refine Kd.C_alloc ?_ _) | (with_reducible refine Kd.C_drewN ?_ _) | (with_reducible refine Kd.C_drew ?_) | exact HR453_0.out)) hb)
                        have n4_ := Aside0.mk (below_step (by repeat (first | (with_reducible first | exact HB.out | apply below_alloc | apply pw_below_drewN | apply below_drew1) | exact HB.out)) hb)
                        clear HO_8
                        clear HO_26
                        clear HL453_0
                        clear HR453_0
                        clear HB
                        have HO_8 := n0_
                        have HO_26 := n1_
                        have HL453_0 := n2_
                        have HR453_0 := n3_
                        have HB := n4_
                        clear n0_ n1_ n2_ n3_ n4_
                        (try clear hb)
                        (try clear hb2)
                        (try clear hk)
                        (try clear hi)
                        refine hK.out _ _ ⟨HS0_, HS1_⟩ (fun hHeld => ?_)
                        clear hK K
                        refine norm_ (a' := ?_) ?_ ?_
                        rotate_left
                        · show Act.put _ (some 34) _ = _
                          simp only [Act.put, List.setIfInBounds_toArray, List.set_cons_zero, List.set_cons_succ, i64_w, i32_w]
                          rfl
                        refine one_ (i := 9) (N := some 41) #[true, true, true, true, true, true, true, true, true, true, false, false, false] rfl rfl (one_of HT_.out (by kernel_rfl)) (by decide) (fun K hK => ?_)
                        refine goes_ Tryd.func56 (by kernel_rfl) rfl #[.string t454, .int .i64 (rd (rd_i64s t446 x28_2) 0), .int .i64 (rd (rd_i64s t446 x28_2) 1)] (by rfl) rfl rfl (by (try simp only [List.map_toArray, List.map_cons, List.map_nil]); first | done | rfl | (simp only [List.length_drop, List.length_take]; rfl)) ?_
                        with_reducible refine (impl_at.calls t454 (rd (rd_i64s t446 x28_2) 0) (rd (rd_i64s t446 x28_2) 1) t457 t458 _ A22.out).mono ?_
                        rintro e w26 ⟨rfl, hb⟩
                        have HS0_ := (hb.cell (World.block_lt_of_cell? _ _ (hHeld.1))).trans (hHeld.1)
                        have HS1_ := (hb.cell (World.block_lt_of_cell? _ _ (hHeld.2))).trans (hHeld.2)
                        refine ⟨_, rfl, ?_⟩
                        have n0_ := Aside0.mk (Kd.R_below (by (with_reducible repeat (first | apply Kd.R_alloc | apply Kd.R_drewN | apply Kd.R_drew)); exact HO_8.out) hb)
                        have n1_ := Aside0.mk (Kd.S_below (by (with_reducible repeat (first | apply Kd.S_alloc | apply Kd.S_drewN | apply Kd.S_drew)); exact HO_26.out) hb)
                        have n2_ := Aside0.mk (Kd.R_below (by (with_reducible repeat (first | apply Kd.R_alloc | apply Kd.R_drewN | apply Kd.R_drew)); exact HL453_0.out) hb)
                        have n3_ := Aside0.mk (Kd.C_below (by repeat (first | (with_reducible exact HR453_0.out) | (with_reducible refine Kd.C_alloc ?_ _) | (with_reducible refine Kd.C_drewN ?_ _) | (with_reducible refine Kd.C_drew ?_) | exact HR453_0.out)) hb)
                        have n4_ := Aside0.mk (below_step (by repeat (first | (with_reducible first | exact HB.out | apply below_alloc | apply pw_below_drewN | apply below_drew1) | exact HB.out)) hb)
                        clear HO_8
                        clear HO_26
                        clear HL453_0
                        clear HR453_0
                        clear HB
                        have HO_8 := n0_
                        have HO_26 := n1_
                        have HL453_0 := n2_
                        have HR453_0 := n3_
                        have HB := n4_
                        clear n0_ n1_ n2_ n3_ n4_
                        (try clear hb)
                        (try clear hb2)
                        (try clear hk)
                        (try clear hi)
                        refine hK.out _ _ ⟨HS0_, HS1_⟩ (fun hHeld => ?_)
                        clear hK K
                        refine norm_ (a' := ?_) ?_ ?_
                        rotate_left
                        · show Act.put _ (some 41) _ = _
                          simp only [Act.put, List.setIfInBounds_toArray, List.set_cons_zero, List.set_cons_succ, i64_w, i32_w]
                          rfl
                        refine last_ (i := 10) (N := some 42) #[true, true, true, true, true, true, true, true, true, true, true, false, false] rfl rfl (one_of HT_.out (by kernel_rfl)) (by decide) (fun K hK => ?_)
                        refine value_ (w1 := ?_) (v := ?_) (by rfl) rfl ?_ ?_
                        rotate_left 2
                        · go_simp
                          constructor
                          · rfl
                          · rfl
                        refine hK.out _ _ ?_
                        clear hK K
                        refine norm_ (a' := ?_) ?_ ?_
                        rotate_left
                        · show Act.put _ (some 42) _ = _
                          simp only [Act.put, List.setIfInBounds_toArray, List.set_cons_zero, List.set_cons_succ, i64_w, i32_w]
                          rfl
                        refine last_ (i := 11) (N := some 43) #[true, true, true, true, true, true, true, true, true, true, true, true, false] rfl rfl (one_of HT_.out (by kernel_rfl)) (by decide) (fun K hK => ?_)
                        refine Kd.R_append_step k38 (w0 := w) w.heap.size (by rfl) (.tmp 32) (.tmp 42) 43 38 (.agg #[(.int .i64 0), (.int .i64 0)]) 16 rfl Tryd.underlying43 info38 rfl (by decide) (by omega) u8 x8_2 (⟨t457, t458⟩ : S_Tile) [.int .i64 t457, .int .i64 t458] (fun _ => True) (fun _ => False) rfl rfl ?aP (fun _ hk => hk.elim) ?aF ?aO ?aB ?aS ?aL ?_
                        (case aP => exact k38_mkM _ _ _ (⟨t457, t458⟩ : S_Tile))
                        (case aB => exact (by repeat (first | (with_reducible first | exact HB.out | apply below_alloc | apply pw_below_drewN | apply below_drew1) | exact HB.out)))
                        (case aF => exact (fun _ _ => trivial))
                        (case aO => exact (by (with_reducible repeat (first | apply Kd.R_alloc | apply Kd.R_drewN | apply Kd.R_drew)); exact HO_8.out))
                        (case aS => exact (below_size (by repeat (first | (with_reducible first | exact HB.out | apply below_alloc | apply pw_below_drewN | apply below_drew1) | exact HB.out))))
                        (case aL => have := LMc23.out; omega)
                        intro v460 w27 ho hb hg hat
                        rw [← Ny459.out] at ho
                        have n0_ := Aside0.mk (Kd.S_over' (by (with_reducible repeat (first | apply Kd.S_alloc | apply Kd.S_drewN | apply Kd.S_drew)); exact HO_26.out) (Kd.R_typed (by (with_reducible repeat (first | apply Kd.R_alloc | apply Kd.R_drewN | apply Kd.R_drew)); exact HO_8.out)) (by decide) hg)
                        have n1_ := Aside0.mk (Kd.R_over' (by (with_reducible repeat (first | apply Kd.R_alloc | apply Kd.R_drewN | apply Kd.R_drew)); exact HL453_0.out) (Kd.R_typed (by (with_reducible repeat (first | apply Kd.R_alloc | apply Kd.R_drewN | apply Kd.R_drew)); exact HO_8.out)) (by decide) hg)
                        have n2_ := Aside0.mk (hb)
                        have n3_ := Aside0.mk (ho)
                        clear HO_26
                        clear HL453_0
                        clear HB
                        clear HO_8
                        have HO_26 := n0_
                        have HL453_0 := n1_
                        have HB := n2_
                        have HO461 := n3_
                        clear n0_ n1_ n2_ n3_
                        clear ho hb hg hat
                        refine hK.out _ _ ?_
                        clear hK K
                        refine norm_ (a' := ?_) ?_ ?_
                        rotate_left
                        · show Act.put _ (some 43) _ = _
                          simp only [Act.put, List.setIfInBounds_toArray, List.set_cons_zero, List.set_cons_succ, i64_w, i32_w]
                          rfl
                        refine pure_ (i := 12) (N := some 8) (v := ?_) (a' := ?_) #[true, true, true, true, true, true, true, true, true, true, true, true, true] rfl rfl (any_of HT_.out (by kernel_rfl)) (fun _ _ _ h => h) (Or.inl ⟨by rfl, ?_⟩) ?_ ?_
                        rotate_left
                        · intro w'
                          go_simp
                          with_reducible rfl
                        rotate_left
                        · simp only [Act.put, List.setIfInBounds_toArray, List.set_cons_zero, List.set_cons_succ, i64_w, i32_w]
                          rfl
                        refine done_ (done_of HT_.out (by kernel_rfl)) ?_
                        try go_wp2
                        go_roundg k2
                        case measure => have := HJ2.out; have := HK2.out; omega
                        case rel => exact ⟨(y459), (wrap64 (x28_2 + 1)), (by first | rfl | (simp; done) | (simp [*]; done)), H', ⟨by have := HJ2.out; have := HK2.out; omega⟩, ⟨by (with_reducible repeat (first | apply Kd.R_alloc | apply Kd.R_drewN | apply Kd.R_drew)); exact HO461.out⟩, ⟨by (with_reducible repeat (first | apply Kd.S_alloc | apply Kd.S_drewN | apply Kd.S_drew)); exact HO_26.out⟩, ⟨by repeat (first | (with_reducible first | exact HB.out | apply below_alloc | apply pw_below_drewN | apply below_drew1) | exact HB.out)⟩⟩
                      · rw [if_neg c23] at H
                        exact absurd H (by simp)
                    · rw [if_neg c21] at H
                      exact absurd H (by simp)
                  · rw [if_neg c20] at H
                    exact absurd H (by simp)
                · rw [if_neg c18] at H
                  exact absurd H (by simp)
              · rw [if_neg c17] at H
                exact absurd H (by simp)
            · rw [if_neg c16] at H
              have c16b0 : decide (x28_2 < (t446.length : Int)) = false := decide_eq_false c16
              clear c16
              simp only [Option.some.injEq, Prod.mk.injEq] at H
              obtain ⟨rfl, rfl⟩ := H
              go_wp2
              go_ret2
              exact ⟨_, by first | rfl | (simp [errW_none, errW_some] <;> rfl) | (simp [*, errW_none, errW_some] <;> rfl), by (with_reducible repeat (first | apply Kd.R_alloc | apply Kd.R_drewN | apply Kd.R_drew)); exact HO_8.out, by repeat (first | (with_reducible first | exact HB.out | apply below_alloc | apply pw_below_drewN | apply below_drew1) | exact HB.out)⟩

end
section
open Go.RowKit Go.Proofs.YtjhbnkplpaffoaaDoorW.PrintWords Go.Proofs.YtjhbnkplpaffoaaDoorW.PrintLast Go.Proofs.YtjhbnkplpaffoaaDoorW.PrintMore
attribute [local go_sem] max2_int min2_int max_two min_two max_three min_three max_four min_four   -- for this text's walks alone
set_option linter.unusedVariables false
set_option linter.unusedSimpArgs false

def laws_FnExactTilesOfLayout.f (k : Nat) (a0 : ByteArray) (a1 : ByteArray) : Option (Bool) := if (a0.size : Int) > 1048576 then (some true) else (if (a1.size : Int) > 1048576 then (some true) else ((spec_TilesOfLayout.f k a0 a1).bind fun bt471 => ((impl_TilesOfLayout.f k a0 a1).bind fun bt475 => ((laws_eqTileS.f k bt475.1 bt471.1).bind fun t479 => (if t479 = true then (if (bt475.2 != bt471.2) = true then (none) else ((laws_markTileS.f k bt475.1 1).bind fun bt480 => ((laws_heldTileS.f k bt480.2 1).bind fun t482 => (if t482 < 0 then (none) else (if t482 = bt480.1 then ((impl_TilesOfLayout.f k a0 a1).bind fun bt483 => ((laws_eqTileS.f k bt483.1 bt471.1).bind fun t487 => (if t487 = true then (if (bt483.2 != bt471.2) = true then (none) else ((laws_heldTileS.f k bt480.2 1).bind fun t488 => (if t488 < 0 then (none) else (if t488 = bt480.1 then (some true) else (none))))) else (none)))) else (none)))))) else (none))))))
set_option maxRecDepth 100000 in
set_option maxHeartbeats 40000000 in
theorem laws_FnExactTilesOfLayout.calls (k : Nat) (a0 : ByteArray) (a1 : ByteArray) (r : Bool) (w : World) (hmx : ∃ m, w.cell? ⟨0, 0, none⟩ = some (.int .i64 m)) (h : laws_FnExactTilesOfLayout.f k a0 a1 = some r) :
    Calls Tryd.prog 10 #[.string a0, .string a1] w fun e w' => e = .returned (.bool r) ∧ Below w.heap.size w w' := by
  obtain ⟨cs, hcs⟩ : ∃ cs, cs = [old w w.heap.size] := ⟨_, rfl⟩
  have hp : Hp w cs w := by rw [hcs]; exact Hp.old_start w
  have hc2 : ∀ W, Hp w cs W → Below w.heap.size w W := fun W h => by rw [hcs] at h; exact h.since 0 _ rfl
  have hM : ∀ W, Hp w cs W → ∃ m, W.cell? ⟨0, 0, none⟩ = some (.int .i64 m) := fun W h => hmx.imp fun m q => ((hc2 W h).cell (World.block_lt_of_cell? _ _ q)).trans q
  clear hcs
  unfold laws_FnExactTilesOfLayout.f at h
  refine sx_enter (N := 74) (l := [.string a0, .string a1]) Tryd.func10 rfl rfl rfl ?_
  refine wp_seq ?_
  refine sx_region ?_
  refine sx_rd 4 (.bool false) (by rfl) (by kernel_rfl) ?_
  refine sx_nil ?_
  refine ex_then_n ?_
  refine wp_seq ?_
  refine wp_seq ?_
  refine sx_region ?_
  refine sx_rd 13 (.string a0) (by rfl) (by kernel_rfl) ?_
  refine sx_rd 14 (.int .i64 (a0.size : Int)) (by rfl) (by kernel_rfl) ?_
  refine sx_rd 15 (.bool (decide ((a0.size : Int) > 1048576))) (by rfl) (by kernel_rfl) ?_
  refine sx_nil ?_
  refine ex_then_n ?_
  by_cases hc_1 : (a0.size : Int) > 1048576
  ·
    rw [if_pos hc_1] at h
    refine sx_then (decide ((a0.size : Int) > 1048576)) (by rfl) (decide_eq_true hc_1) ?_
    refine wp_seq ?_
    refine sx_region ?_
    refine sx_rd 4 (.bool true) (by rfl) (by kernel_rfl) ?_
    refine sx_nil ?_
    refine ex_then_n ?_
    refine wp_ret ?_
    refine ex_then_r ?_
    refine sx_end (.bool true) (res1 4 (by rfl)) ?_
    obtain rfl := Option.some.inj h
    exact ⟨rfl, hc2 _ (hp)⟩
  ·
    rw [if_neg hc_1] at h
    refine sx_else (decide ((a0.size : Int) > 1048576)) (by rfl) (decide_eq_false hc_1) ?_
    refine wp_skip ?_
    refine ex_then_n ?_
    refine wp_seq ?_
    refine wp_seq ?_
    refine sx_region ?_
    refine sx_rd 16 (.string a1) (by rfl) (by kernel_rfl) ?_
    refine sx_rd 17 (.int .i64 (a1.size : Int)) (by rfl) (by kernel_rfl) ?_
    refine sx_rd 18 (.bool (decide ((a1.size : Int) > 1048576))) (by rfl) (by kernel_rfl) ?_
    refine sx_nil ?_
    refine ex_then_n ?_
    by_cases hc_2 : (a1.size : Int) > 1048576
    ·
      rw [if_pos hc_2] at h
      refine sx_then (decide ((a1.size : Int) > 1048576)) (by rfl) (decide_eq_true hc_2) ?_
      refine wp_seq ?_
      refine sx_region ?_
      refine sx_rd 4 (.bool true) (by rfl) (by kernel_rfl) ?_
      refine sx_nil ?_
      refine ex_then_n ?_
      refine wp_ret ?_
      refine ex_then_r ?_
      refine sx_end (.bool true) (res1 4 (by rfl)) ?_
      obtain rfl := Option.some.inj h
      exact ⟨rfl, hc2 _ (hp)⟩
    ·
      rw [if_neg hc_2] at h
      obtain ⟨⟨t_4, t_5⟩, hv_3, h⟩ := Option.bind_eq_some_iff.mp h
      try dsimp only at h
      obtain ⟨⟨t_7, t_8⟩, hv_6, h⟩ := Option.bind_eq_some_iff.mp h
      try dsimp only at h
      obtain ⟨t_10, hv_9, h⟩ := Option.bind_eq_some_iff.mp h
      try dsimp only at h
      by_cases hc_11 : t_10 = true
      case neg => rw [if_neg hc_11] at h; cases h
      rw [if_pos hc_11] at h
      by_cases hc_12 : (t_8 != t_5) = true
      case pos => rw [if_pos hc_12] at h; cases h
      rw [if_neg hc_12] at h
      obtain ⟨⟨t_14, t_15⟩, hv_13, h⟩ := Option.bind_eq_some_iff.mp h
      try dsimp only at h
      obtain ⟨t_17, hv_16, h⟩ := Option.bind_eq_some_iff.mp h
      try dsimp only at h
      by_cases hc_18 : t_17 < 0
      case pos => rw [if_pos hc_18] at h; cases h
      rw [if_neg hc_18] at h
      by_cases hc_19 : t_17 = t_14
      case neg => rw [if_neg hc_19] at h; cases h
      rw [if_pos hc_19] at h
      obtain ⟨⟨t_21, t_22⟩, hv_20, h⟩ := Option.bind_eq_some_iff.mp h
      try dsimp only at h
      obtain ⟨t_24, hv_23, h⟩ := Option.bind_eq_some_iff.mp h
      try dsimp only at h
      by_cases hc_25 : t_24 = true
      case neg => rw [if_neg hc_25] at h; cases h
      rw [if_pos hc_25] at h
      by_cases hc_26 : (t_22 != t_5) = true
      case pos => rw [if_pos hc_26] at h; cases h
      rw [if_neg hc_26] at h
      obtain ⟨t_28, hv_27, h⟩ := Option.bind_eq_some_iff.mp h
      try dsimp only at h
      by_cases hc_29 : t_28 < 0
      case pos => rw [if_pos hc_29] at h; cases h
      rw [if_neg hc_29] at h
      by_cases hc_30 : t_28 = t_14
      case neg => rw [if_neg hc_30] at h; cases h
      rw [if_pos hc_30] at h
      refine sx_else (decide ((a1.size : Int) > 1048576)) (by rfl) (decide_eq_false hc_2) ?_
      refine wp_skip ?_
      refine ex_then_n ?_
      refine wp_seq ?_
      refine sx_region ?_
      refine sx_rd 20 (.string a0) (by rfl) (by kernel_rfl) ?_
      refine sx_rd 21 (.string a1) (by rfl) (by kernel_rfl) ?_
      refine sx_call 22 (by rfl) (by kernel_rfl) ((spec_TilesOfLayout.calls _ a0 a1 _ _ _ hv_3).mono ?_)
      rintro _ W_36 ⟨v_32, rfl, hR_31, hb⟩
      refine ⟨_, rfl, ?_⟩
      obtain ⟨A_33, c_34, rfl, hcc_c_34, _⟩ := Kd.R_reads hR_31
      obtain ⟨F_35, hp⟩ : ∃ F, Hp w (row k38 38 w.heap.size (.slice A_33 t_4.length c_34) t_4 F :: cs) _ := ⟨_, Hp.made hp hb hR_31⟩
      refine sx_rd 19 (.tuple #[.slice A_33 t_4.length c_34, .bool t_5]) (by rfl) (by kernel_rfl) ?_
      refine sx_rd 23 (.slice A_33 t_4.length c_34) (by rfl) (by kernel_rfl) ?_
      refine sx_rd 24 (.bool t_5) (by rfl) (by kernel_rfl) ?_
      refine sx_rd 5 (.slice A_33 t_4.length c_34) (by rfl) (by kernel_rfl) ?_
      refine sx_rd 6 (.bool t_5) (by rfl) (by kernel_rfl) ?_
      refine sx_nil ?_
      refine ex_then_n ?_
      refine wp_seq ?_
      refine sx_region ?_
      refine sx_rd 26 (.string a0) (by rfl) (by kernel_rfl) ?_
      refine sx_rd 27 (.string a1) (by rfl) (by kernel_rfl) ?_
      refine sx_call 28 (by rfl) (by kernel_rfl) ((impl_TilesOfLayout.calls _ a0 a1 _ _ _ (hM _ (hp.tail)) hv_6).mono ?_)
      rintro _ W_42 ⟨v_38, rfl, hR_37, hb⟩
      refine ⟨_, rfl, ?_⟩
      obtain ⟨A_39, c_40, rfl, hcc_c_40, _⟩ := Kd.R_reads hR_37
      obtain ⟨F_41, hp⟩ : ∃ F, Hp w (row k38 38 w.heap.size (.slice A_39 t_7.length c_40) t_7 F :: row k38 38 w.heap.size (.slice A_33 t_4.length c_34) t_4 F_35 :: cs) _ := ⟨_, Hp.made hp hb hR_37⟩
      refine sx_rd 25 (.tuple #[.slice A_39 t_7.length c_40, .bool t_8]) (by rfl) (by kernel_rfl) ?_
      refine sx_rd 29 (.slice A_39 t_7.length c_40) (by rfl) (by kernel_rfl) ?_
      refine sx_rd 30 (.bool t_8) (by rfl) (by kernel_rfl) ?_
      refine sx_rd 7 (.slice A_39 t_7.length c_40) (by rfl) (by kernel_rfl) ?_
      refine sx_rd 8 (.bool t_8) (by rfl) (by kernel_rfl) ?_
      refine sx_nil ?_
      refine ex_then_n ?_
      refine wp_seq ?_
      refine wp_seq ?_
      refine sx_region ?_
      refine sx_rd 31 (.slice A_39 t_7.length c_40) (by rfl) (by kernel_rfl) ?_
      refine sx_rd 32 (.slice A_33 t_4.length c_34) (by rfl) (by kernel_rfl) ?_
      refine sx_call 33 (by rfl) (by kernel_rfl) ((laws_eqTileS.calls _ A_39 c_40 t_7 A_33 c_34 t_4 _ _ (row_C (hp.at_ 0 _ (by rfl))) (row_len (hp.at_ 0 _ (by rfl))).2 (row_C (hp.at_ 1 _ (by rfl))) (row_len (hp.at_ 1 _ (by rfl))).2 hv_9).mono ?_)
      rintro _ W_43 ⟨rfl, hb⟩
      refine ⟨_, rfl, ?_⟩
      replace hp := hp.below hb
      clear hb
      refine sx_rd 34 (.bool false) (by rfl) (bv (show (!t_10) = false from by rw [hc_11]; rfl) (by kernel_rfl)) ?_
      refine sx_rd 35 (.bool false) (by rfl) (by kernel_rfl) ?_
      refine sx_want (by rfl) ?_
      refine sx_rd 36 (.bool t_8) (by rfl) (by kernel_rfl) ?_
      refine sx_want (by rfl) ?_
      refine sx_rd 37 (.bool t_5) (by rfl) (by kernel_rfl) ?_
      refine sx_want (by rfl) ?_
      refine sx_rd 38 (.bool (t_8 != t_5)) (by rfl) (by kernel_rfl) ?_
      refine sx_rd 39 (.bool (t_8 != t_5)) (by rfl) (by kernel_rfl) ?_
      refine sx_nil ?_
      refine ex_then_n ?_
      refine sx_else (t_8 != t_5) (by rfl) (Bool.eq_false_iff.mpr hc_12) ?_
      refine wp_skip ?_
      refine ex_then_n ?_
      refine wp_seq ?_
      refine sx_region ?_
      refine sx_rd 9 (.int .i64 1) (by rfl) (by kernel_rfl) ?_
      refine sx_nil ?_
      refine ex_then_n ?_
      refine wp_seq ?_
      refine sx_region ?_
      refine sx_rd 40 (.slice A_39 t_7.length c_40) (by rfl) (by kernel_rfl) ?_
      refine sx_rd 41 (.int .i64 1) (by rfl) (by kernel_rfl) ?_
      refine sx_call 42 (by rfl) (by kernel_rfl) ((laws_markTileS.calls _ F_41 (.slice A_39 t_7.length c_40) t_7 1 _ _ w _ (hc2 _ (hp.tail.tail)) (row_R (hp.at_ 0 _ (by rfl))) hv_13).mono ?_)
      rintro _ W_48 ⟨rfl, hR_44, hB_45, hK_46⟩
      refine ⟨_, rfl, ?_⟩
      have hp := (hp.take [0, 1] 2 (by decide) (by simp))
      obtain ⟨F_47, hp⟩ : ∃ F_47, Hp w (row k38 38 w.heap.size (.slice A_39 t_7.length c_40) t_15 F_47 :: row k38 38 w.heap.size (.slice A_33 t_4.length c_34) t_4 F_35 :: cs) _ := ⟨_, Hp.marked1 hp hB_45 hK_46 rfl hR_44⟩
      obtain ⟨hn_49, -⟩ := row_len (hp.at_ 0 _ (by rfl))
      rw [hn_49] at hp
      try rw [hn_49]
      refine sx_rd 9 (.int .i64 t_14) (by rfl) (by kernel_rfl) ?_
      refine sx_nil ?_
      refine ex_then_n ?_
      refine wp_seq ?_
      refine sx_region ?_
      refine sx_rd 10 (.int .i64 1) (by rfl) (by kernel_rfl) ?_
      refine sx_nil ?_
      refine ex_then_n ?_
      refine wp_seq ?_
      refine sx_region ?_
      refine sx_rd 43 (.slice A_39 t_15.length c_40) (by rfl) (by kernel_rfl) ?_
      refine sx_rd 44 (.int .i64 1) (by rfl) (by kernel_rfl) ?_
      refine sx_call 45 (by rfl) (by kernel_rfl) ((laws_heldTileS.calls _ A_39 c_40 t_15 1 _ _ (row_C (hp.at_ 0 _ (by rfl))) (row_len (hp.at_ 0 _ (by rfl))).2 hv_16).mono ?_)
      rintro _ W_50 ⟨rfl, hb⟩
      refine ⟨_, rfl, ?_⟩
      replace hp := hp.below hb.below
      clear hb
      refine sx_rd 10 (.int .i64 t_17) (by rfl) (by kernel_rfl) ?_
      refine sx_nil ?_
      refine ex_then_n ?_
      refine wp_seq ?_
      refine wp_seq ?_
      refine sx_region ?_
      refine sx_rd 46 (.int .i64 t_17) (by rfl) (by kernel_rfl) ?_
      refine sx_rd 47 (.bool (decide (t_17 < 0))) (by rfl) (by kernel_rfl) ?_
      refine sx_nil ?_
      refine ex_then_n ?_
      refine sx_else (decide (t_17 < 0)) (by rfl) (decide_eq_false hc_18) ?_
      refine wp_skip ?_
      refine ex_then_n ?_
      refine wp_seq ?_
      refine wp_seq ?_
      refine sx_region ?_
      refine sx_rd 48 (.int .i64 t_17) (by rfl) (by kernel_rfl) ?_
      refine sx_rd 49 (.int .i64 t_14) (by rfl) (by kernel_rfl) ?_
      refine sx_rd 50 (.bool (t_17 != t_14)) (by rfl) (by kernel_rfl) ?_
      refine sx_nil ?_
      refine ex_then_n ?_
      refine sx_else (t_17 != t_14) (by rfl) (bne_eq_false_iff_eq.mpr hc_19) ?_
      refine wp_skip ?_
      refine ex_then_n ?_
      refine wp_seq ?_
      refine sx_region ?_
      refine sx_rd 52 (.string a0) (by rfl) (by kernel_rfl) ?_
      refine sx_rd 53 (.string a1) (by rfl) (by kernel_rfl) ?_
      refine sx_call 54 (by rfl) (by kernel_rfl) ((impl_TilesOfLayout.calls _ a0 a1 _ _ _ (hM _ (hp.tail.tail)) hv_20).mono ?_)
      rintro _ W_56 ⟨v_52, rfl, hR_51, hb⟩
      refine ⟨_, rfl, ?_⟩
      obtain ⟨A_53, c_54, rfl, hcc_c_54, _⟩ := Kd.R_reads hR_51
      obtain ⟨F_55, hp⟩ : ∃ F, Hp w (row k38 38 w.heap.size (.slice A_53 t_21.length c_54) t_21 F :: row k38 38 w.heap.size (.slice A_39 t_15.length c_40) t_15 F_47 :: row k38 38 w.heap.size (.slice A_33 t_4.length c_34) t_4 F_35 :: cs) _ := ⟨_, Hp.made hp hb hR_51⟩
      refine sx_rd 51 (.tuple #[.slice A_53 t_21.length c_54, .bool t_22]) (by rfl) (by kernel_rfl) ?_
      refine sx_rd 55 (.slice A_53 t_21.length c_54) (by rfl) (by kernel_rfl) ?_
      refine sx_rd 56 (.bool t_22) (by rfl) (by kernel_rfl) ?_
      refine sx_rd 11 (.slice A_53 t_21.length c_54) (by rfl) (by kernel_rfl) ?_
      refine sx_rd 12 (.bool t_22) (by rfl) (by kernel_rfl) ?_
      refine sx_nil ?_
      refine ex_then_n ?_
      refine wp_seq ?_
      refine wp_seq ?_
      refine sx_region ?_
      refine sx_rd 57 (.slice A_53 t_21.length c_54) (by rfl) (by kernel_rfl) ?_
      refine sx_rd 58 (.slice A_33 t_4.length c_34) (by rfl) (by kernel_rfl) ?_
      refine sx_call 59 (by rfl) (by kernel_rfl) ((laws_eqTileS.calls _ A_53 c_54 t_21 A_33 c_34 t_4 _ _ (row_C (hp.at_ 0 _ (by rfl))) (row_len (hp.at_ 0 _ (by rfl))).2 (row_C (hp.at_ 2 _ (by rfl))) (row_len (hp.at_ 2 _ (by rfl))).2 hv_23).mono ?_)
      rintro _ W_57 ⟨rfl, hb⟩
      refine ⟨_, rfl, ?_⟩
      replace hp := hp.below hb
      clear hb
      refine sx_rd 60 (.bool false) (by rfl) (bv (show (!t_24) = false from by rw [hc_25]; rfl) (by kernel_rfl)) ?_
      refine sx_rd 61 (.bool false) (by rfl) (by kernel_rfl) ?_
      refine sx_want (by rfl) ?_
      refine sx_rd 62 (.bool t_22) (by rfl) (by kernel_rfl) ?_
      refine sx_want (by rfl) ?_
      refine sx_rd 63 (.bool t_5) (by rfl) (by kernel_rfl) ?_
      refine sx_want (by rfl) ?_
      refine sx_rd 64 (.bool (t_22 != t_5)) (by rfl) (by kernel_rfl) ?_
      refine sx_rd 65 (.bool (t_22 != t_5)) (by rfl) (by kernel_rfl) ?_
      refine sx_nil ?_
      refine ex_then_n ?_
      refine sx_else (t_22 != t_5) (by rfl) (Bool.eq_false_iff.mpr hc_26) ?_
      refine wp_skip ?_
      refine ex_then_n ?_
      refine wp_seq ?_
      refine sx_region ?_
      refine sx_rd 10 (.int .i64 1) (by rfl) (by kernel_rfl) ?_
      refine sx_nil ?_
      refine ex_then_n ?_
      refine wp_seq ?_
      refine sx_region ?_
      refine sx_rd 66 (.slice A_39 t_15.length c_40) (by rfl) (by kernel_rfl) ?_
      refine sx_rd 67 (.int .i64 1) (by rfl) (by kernel_rfl) ?_
      refine sx_call 68 (by rfl) (by kernel_rfl) ((laws_heldTileS.calls _ A_39 c_40 t_15 1 _ _ (row_C (hp.at_ 1 _ (by rfl))) (row_len (hp.at_ 1 _ (by rfl))).2 hv_27).mono ?_)
      rintro _ W_58 ⟨rfl, hb⟩
      refine ⟨_, rfl, ?_⟩
      replace hp := hp.below hb.below
      clear hb
      refine sx_rd 10 (.int .i64 t_28) (by rfl) (by kernel_rfl) ?_
      refine sx_nil ?_
      refine ex_then_n ?_
      refine wp_seq ?_
      refine wp_seq ?_
      refine sx_region ?_
      refine sx_rd 69 (.int .i64 t_28) (by rfl) (by kernel_rfl) ?_
      refine sx_rd 70 (.bool (decide (t_28 < 0))) (by rfl) (by kernel_rfl) ?_
      refine sx_nil ?_
      refine ex_then_n ?_
      refine sx_else (decide (t_28 < 0)) (by rfl) (decide_eq_false hc_29) ?_
      refine wp_skip ?_
      refine ex_then_n ?_
      refine wp_seq ?_
      refine wp_seq ?_
      refine sx_region ?_
      refine sx_rd 71 (.int .i64 t_28) (by rfl) (by kernel_rfl) ?_
      refine sx_rd 72 (.int .i64 t_14) (by rfl) (by kernel_rfl) ?_
      refine sx_rd 73 (.bool (t_28 != t_14)) (by rfl) (by kernel_rfl) ?_
      refine sx_nil ?_
      refine ex_then_n ?_
      refine sx_else (t_28 != t_14) (by rfl) (bne_eq_false_iff_eq.mpr hc_30) ?_
      refine wp_skip ?_
      refine ex_then_n ?_
      refine wp_seq ?_
      refine sx_region ?_
      refine sx_rd 4 (.bool true) (by rfl) (by kernel_rfl) ?_
      refine sx_nil ?_
      refine ex_then_n ?_
      refine wp_ret ?_
      refine sx_end (.bool true) (res1 4 (by rfl)) ?_
      obtain rfl := Option.some.inj h
      exact ⟨rfl, hc2 _ (hp.tail.tail.tail)⟩
end
end Go.Proofs.YtjhbnkplpaffoaaDoor.Hd
