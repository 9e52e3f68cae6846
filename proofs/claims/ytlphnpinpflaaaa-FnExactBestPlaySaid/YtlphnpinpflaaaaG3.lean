-- Printed by hprint.py and laid together by pack.py (this session's programs over the kit's print program). Lean checks it.
import Derived.Test.YtlphnpinpflaaaaG0
import Derived.Test.YtlphnpinpflaaaaMSpreadOf
import Derived.Test.YtlphnpinpflaaaaG1
import Derived.Test.YtlphnpinpflaaaaMSorted2
import Derived.Test.YtlphnpinpflaaaaMHand
namespace Go.Proofs.Ytlphnpinpflaaaa.Hd
section
open Go.RowKit Go.Proofs.YtlphnpinpflaaaaW.PrintWords Go.Proofs.YtlphnpinpflaaaaW.PrintLast Go.Proofs.YtlphnpinpflaaaaW.PrintMore
attribute [local go_sem] max2_int min2_int max_two min_two max_three min_three max_four min_four   -- for this text's walks alone
set_option linter.unusedVariables false
set_option linter.unusedSimpArgs false

def impl_IsSpread.f (l0 : List (S_Play)) : Option (Bool) := (impl_spreadOf.f l0).bind fun bt227 => (some bt227.2.2.2.2.2)
set_option maxHeartbeats 8000000 in
set_option maxRecDepth 100000 in
theorem impl_IsSpread.calls (A0 : Option Addr) (c0 : Nat) (l0 : List (S_Play)) (r : Bool) (w : World) (hr0 : Kd.C k53 w A0 l0.length l0) (hc0 : l0.length ≤ c0) (h : impl_IsSpread.f l0 = some r) :
    Calls Try.prog 53 #[.slice A0 l0.length c0] w fun e w' => e = .returned (.bool r) ∧ Below w.heap.size w w' := by
  have hu70 := Try.underlying70
  have HR0 := Aside0.mk hr0
  have HC0 := Aside0.mk hc0
  clear hr0 hc0
  have HB := Aside0.mk (Below.refl w.heap.size w)
  have H : ((impl_spreadOf.f l0).bind fun bt227 => (some bt227.2.2.2.2.2)) = some r := h
  clear h
  replace H := Option.bind_eq_some_iff.mp H
  obtain ⟨⟨t227, t230, t233, t234, t235, t236⟩, A20, H⟩ := H
  replace H : (some t236) = some r := H
  have A2 := Aside0.mk A20
  clear A20
  obtain rfl := Option.some.inj H
  go_enter Try.func53, Try.ntmps53
  go_wp2_with (first | ((with_reducible refine gate_callee (f := 47) rfl ?_); refine goesL_ (some 7) rfl rfl Try.func47 (by kernel_rfl) rfl #[.slice A0 l0.length c0] rfl (by (try simp only [List.map_toArray, List.map_cons, List.map_nil]); first | done | rfl | (simp only [List.length_drop, List.length_take]; rfl)) ?_; (with_reducible refine (impl_spreadOf.calls _ _ l0 t227 t230 t233 t234 t235 t236 _ ?side1 ?side2 A2.out).mono ?_); (case side1 => repeat (first | exact HR0.out | (with_reducible refine Kd.C_alloc ?_ _) | (with_reducible refine Kd.C_drewN ?_ _) | (with_reducible refine Kd.C_drew ?_))); (case side2 => exact HC0.out); rintro e w3 ⟨v228, v231, rfl, ho0, ho1, hb⟩; refine ⟨_, rfl, ?_⟩; have n0_ := Aside0.mk (Kd.R_lower ho0 (below_size (by repeat (first | (with_reducible first | exact HB.out | apply below_alloc | apply pw_below_drewN | apply below_drew1) | exact HB.out)))); have n1_ := Aside0.mk (Kd.R_lower ho1 (below_size (by repeat (first | (with_reducible first | exact HB.out | apply below_alloc | apply pw_below_drewN | apply below_drew1) | exact HB.out)))); have n2_ := Aside0.mk (below_step (by repeat (first | (with_reducible first | exact HB.out | apply below_alloc | apply pw_below_drewN | apply below_drew1) | exact HB.out)) hb); clear HB; have HO229 := n0_; have HO232 := n1_; have HB := n2_; clear n0_ n1_ n2_; (try clear hb); (try clear hb2); (try clear hk); (try clear hi); (try clear ho0); (try clear ho1)) | ((with_reducible refine gate_dst (N := 3) rfl ?_); refine box_event ?hg (N := 3) ?hd (cs := #[.slice none 0 0, .slice none 0 0, .int .i64 0, .bool false, .bool false]) (t := 70) ?hr ?_; (case hd => rfl); (case hg => rfl); (case hr => first | (go_simp; done) | (go_simp; rfl)); intro gb237 hg w4 hbox hb; have n0_ := Aside0.mk (Kd.R_below (by (with_reducible repeat (first | apply Kd.R_alloc | apply Kd.R_drewN | apply Kd.R_drew)); exact HO229.out) hb); have n1_ := Aside0.mk (Kd.R_below (by (with_reducible repeat (first | apply Kd.R_alloc | apply Kd.R_drewN | apply Kd.R_drew)); exact HO232.out) hb); have n2_ := Aside0.mk (below_step (by repeat (first | (with_reducible first | exact HB.out | apply below_alloc | apply pw_below_drewN | apply below_drew1) | exact HB.out)) hb); have n3_ := Aside0.mk (hbox); have n4_ := Aside0.mk ((by rw [hg]; exact (below_size (by repeat (first | (with_reducible first | exact HB.out | apply below_alloc | apply pw_below_drewN | apply below_drew1) | exact HB.out))) : w.heap.size ≤ gb237)); have n5_ := Aside0.mk ((by rw [hg]; exact (below_size (by repeat (first | (with_reducible first | exact HB.out | apply below_alloc | apply pw_below_drewN | apply below_drew1) | exact HB.out))) : w.heap.size ≤ gb237)); clear HO229; clear HO232; clear HB; have HO229 := n0_; have HO232 := n1_; have HB := n2_; have BK237 := n3_; have GW237 := n4_; have GE237 := n5_; clear n0_ n1_ n2_ n3_ n4_ n5_; clear hb hbox hg; obtain ⟨Ao5, co5, eo5⟩ := Kd.R_slice HO229.out; subst eo5; have hcz6_0 : w4.cell? ⟨gb237, 0, none⟩ = some (.slice none 0 0) := (blk_cell BK237.out 0).trans rfl; have hcz6_1 : w4.cell? ⟨gb237, 1, none⟩ = some (.slice none 0 0) := (blk_cell BK237.out 1).trans rfl; have hcz6_2 : w4.cell? ⟨gb237, 2, none⟩ = some (.int .i64 0) := (blk_cell BK237.out 2).trans rfl; have hcz6_3 : w4.cell? ⟨gb237, 3, none⟩ = some (.bool false) := (blk_cell BK237.out 3).trans rfl; have hcz6_4 : w4.cell? ⟨gb237, 4, none⟩ = some (.bool false) := (blk_cell BK237.out 4).trans rfl; have hfz6_0 := blk_frozen BK237.out 0; have hfz6_1 := blk_frozen BK237.out 1; have hfz6_2 := blk_frozen BK237.out 2; have hfz6_3 := blk_frozen BK237.out 3; have hfz6_4 := blk_frozen BK237.out 4; obtain ⟨Ao7, co7, eo7⟩ := Kd.R_slice HO232.out; subst eo7))
  go_ret
  exact ⟨by first | rfl | (simp [errW_none, errW_some] <;> rfl) | (simp [*, errW_none, errW_some] <;> rfl), by repeat (first | (with_reducible first | exact HB.out | apply below_alloc | apply pw_below_drewN | apply below_drew1 | refine below_set ?_ GE237.out) | exact HB.out)⟩

end
section
open Go.RowKit Go.Proofs.YtlphnpinpflaaaaW.PrintWords Go.Proofs.YtlphnpinpflaaaaW.PrintLast Go.Proofs.YtlphnpinpflaaaaW.PrintMore
attribute [local go_sem] max2_int min2_int max_two min_two max_three min_three max_four min_four   -- for this text's walks alone
set_option linter.unusedVariables false
set_option linter.unusedSimpArgs false

mutual
def impl_playsFor.l0 : Nat → List (S_Play) → List (S_Play) → List (S_Tile) → Int → Int → List (S_Arm) → List (S_Tile) → Int → Bool → Bool → Option ((List (S_Play)))
  | 0, _, _, _, _, _, _, _, _, _, _ => none
  | k + 1, x0, x7, x19, x20, x21, x623000, x623001, x623002, x623003, x623004 => if x21 < x20 then (if 0 ≤ x21 then (if x21 < (x19.length : Int) then (impl_playsFor.l1 k x0 x7 x19 x20 x21 (mx 1 (x623000.length : Int)) 0 x623000 x623001 x623002 x623003 x623004 ((rd_Tile x19 x21).f0) ((rd_Tile x19 x21).f1)) else (none)) else (none)) else (some x7)
def impl_playsFor.l1 : Nat → List (S_Play) → List (S_Play) → List (S_Tile) → Int → Int → Int → Int → List (S_Arm) → List (S_Tile) → Int → Bool → Bool → Int → Int → Option ((List (S_Play)))
  | 0, _, _, _, _, _, _, _, _, _, _, _, _, _, _ => none
  | k + 1, x0, x7, x19, x20, x21, x28, x29, x623000, x623001, x623002, x623003, x623004, x631000, x631001 => if x29 < x28 then ((slices_Clone_impl_Play_impl_Play.f x0).bind fun t631 => ((some (([(⟨(⟨x631000, x631001⟩ : S_Tile), x29⟩ : S_Play)] : List (S_Play)) : List (S_Play))).bind fun y634 => (if t631.length + y634.length < 5864062014805 then ((impl_IsSpread.f (t631 ++ y634)).bind fun t640 => (if t640 = true then ((some (([(⟨(⟨x631000, x631001⟩ : S_Tile), x29⟩ : S_Play)] : List (S_Play)) : List (S_Play))).bind fun y641 => (if x7.length + y641.length < 5864062014805 then (impl_playsFor.l1 k x0 (x7 ++ y641) x19 x20 x21 x28 (wrap64 (x29 + 1)) x623000 x623001 x623002 x623003 x623004 x631000 x631001) else (none))) else (impl_playsFor.l1 k x0 x7 x19 x20 x21 x28 (wrap64 (x29 + 1)) x623000 x623001 x623002 x623003 x623004 x631000 x631001))) else (none)))) else (impl_playsFor.l0 k x0 x7 x19 x20 (wrap64 (x21 + 1)) x623000 x623001 x623002 x623003 x623004)
end
def impl_playsFor.f (k : Nat) (l0 : List (S_Play)) (l1 : List (S_Tile)) : Option ((List (S_Play))) := (impl_spreadOf.f l0).bind fun bt612 => ((impl_sorted.f l1).bind fun t626 => (impl_playsFor.l0 k l0 (([] : List (S_Play))) t626 (t626.length : Int) 0 bt612.1 bt612.2.1 bt612.2.2.1 bt612.2.2.2.1 bt612.2.2.2.2.1))
def impl_playsFor.T9 : Bool × List (List Nat × List Nat) := (true, [([], []), ([0], [0]), ([], []), ([], []), ([2, 3], [2, 3]), ([4], [4]), ([1, 5, 1], [1, 5]), ([6, 6, 0, 1, 2, 3, 4, 5, 6], [6])])
def impl_playsFor.B9 : List Nat := [0, 1, 0, 0, 12, 28, 63, 127]
theorem impl_playsFor.tab9 : rtab .any (opsOf Try.f66 9) = impl_playsFor.T9 := by kernel_rfl
theorem impl_playsFor.bits9 : waitsOk impl_playsFor.T9.2 impl_playsFor.B9 = true := by kernel_rfl
set_option maxHeartbeats 8000000 in
set_option maxRecDepth 100000 in
theorem impl_playsFor.calls (k : Nat) (A0 : Option Addr) (c0 : Nat) (l0 : List (S_Play)) (A1 : Option Addr) (c1 : Nat) (l1 : List (S_Tile)) (r : List (S_Play)) (w : World) (hr0 : Kd.C k53 w A0 l0.length l0) (hc0 : l0.length ≤ c0) (hr1 : Kd.C k51 w A1 l1.length l1) (hc1 : l1.length ≤ c1) (h : impl_playsFor.f k l0 l1 = some r) :
    Calls Try.prog 66 #[.slice A0 l0.length c0, .slice A1 l1.length c1] w fun e w' => ∃ v0_ : Value, e = .returned (v0_) ∧ Kd.R k53 53 w' w.heap.size (fun _ => True) v0_ r ∧ Below w.heap.size w w' := by
  have hu70 := Try.underlying70
  have hu51 := Try.underlying51
  have hu53 := Try.underlying53
  have HR0 := Aside0.mk hr0
  have HC0 := Aside0.mk hc0
  clear hr0 hc0
  have HR1 := Aside0.mk hr1
  have HC1 := Aside0.mk hc1
  clear hr1 hc1
  have HB := Aside0.mk (Below.refl w.heap.size w)
  have H : ((impl_spreadOf.f l0).bind fun bt612 => ((impl_sorted.f l1).bind fun t626 => (impl_playsFor.l0 k l0 (([] : List (S_Play))) t626 (t626.length : Int) 0 bt612.1 bt612.2.1 bt612.2.2.1 bt612.2.2.2.1 bt612.2.2.2.2.1))) = some r := h
  clear h
  replace H := Option.bind_eq_some_iff.mp H
  obtain ⟨⟨t612, t615, t618, t619, t620, t621⟩, A30, H⟩ := H
  replace H : ((impl_sorted.f l1).bind fun t626 => (impl_playsFor.l0 k l0 (([] : List (S_Play))) t626 (t626.length : Int) 0 t612 t615 t618 t619 t620)) = some r := H
  have A3 := Aside0.mk A30
  clear A30
  obtain ⟨y623, hy623⟩ : ∃ y_ : List (S_Play), y_ = (([] : List (S_Play))) := ⟨_, rfl⟩
  replace H : ((impl_sorted.f l1).bind fun t626 => (impl_playsFor.l0 k l0 y623 t626 (t626.length : Int) 0 t612 t615 t618 t619 t620)) = some r := by first | (rw [hy623]; with_reducible exact H) | (have H2_ := (Option.bind_some _ _).symm.trans H; rw [hy623]; with_reducible exact H2_) | (have H2_ := (Option.bind_some _ _).symm.trans H; with_reducible exact H2_) | with_reducible exact H | (rw [hy623]; exact H) | exact H
  have Ny623 := Aside0.mk hy623
  clear hy623
  replace H := Option.bind_eq_some_iff.mp H
  obtain ⟨t626, A40, H⟩ := H
  replace H : (impl_playsFor.l0 k l0 y623 t626 (t626.length : Int) 0 t612 t615 t618 t619 t620) = some r := H
  have A4 := Aside0.mk A40
  clear A40
  have H' := Aside0.mk H
  clear H
  go_enter Try.func66, Try.ntmps66
  go_wp2_with (first | ((with_reducible refine gate_callee (f := 47) rfl ?_); refine goesL_ (some 14) rfl rfl Try.func47 (by kernel_rfl) rfl #[.slice A0 l0.length c0] rfl (by (try simp only [List.map_toArray, List.map_cons, List.map_nil]); first | done | rfl | (simp only [List.length_drop, List.length_take]; rfl)) ?_; (with_reducible refine (impl_spreadOf.calls _ _ l0 t612 t615 t618 t619 t620 t621 _ ?side1 ?side2 A3.out).mono ?_); (case side1 => repeat (first | exact HR0.out | (with_reducible refine Kd.C_alloc ?_ _) | (with_reducible refine Kd.C_drewN ?_ _) | (with_reducible refine Kd.C_drew ?_))); (case side2 => exact HC0.out); rintro e w5 ⟨v613, v616, rfl, ho0, ho1, hb⟩; refine ⟨_, rfl, ?_⟩; have n0_ := Aside0.mk (Kd.R_lower ho0 (below_size (by repeat (first | (with_reducible first | exact HB.out | apply below_alloc | apply pw_below_drewN | apply below_drew1) | exact HB.out)))); have n1_ := Aside0.mk (Kd.R_lower ho1 (below_size (by repeat (first | (with_reducible first | exact HB.out | apply below_alloc | apply pw_below_drewN | apply below_drew1) | exact HB.out)))); have n2_ := Aside0.mk (below_step (by repeat (first | (with_reducible first | exact HB.out | apply below_alloc | apply pw_below_drewN | apply below_drew1) | exact HB.out)) hb); clear HB; have HO614 := n0_; have HO617 := n1_; have HB := n2_; clear n0_ n1_ n2_; (try clear hb); (try clear hb2); (try clear hk); (try clear hi); (try clear ho0); (try clear ho1)) | ((with_reducible refine gate_dst (N := 5) rfl ?_); refine box_event ?hg (N := 5) ?hd (cs := #[.slice none 0 0, .slice none 0 0, .int .i64 0, .bool false, .bool false]) (t := 70) ?hr ?_; (case hd => rfl); (case hg => rfl); (case hr => first | (go_simp; done) | (go_simp; rfl)); intro gb622 hg w6 hbox hb; have n0_ := Aside0.mk (Kd.R_below (by (with_reducible repeat (first | apply Kd.R_alloc | apply Kd.R_drewN | apply Kd.R_drew)); exact HO614.out) hb); have n1_ := Aside0.mk (Kd.R_below (by (with_reducible repeat (first | apply Kd.R_alloc | apply Kd.R_drewN | apply Kd.R_drew)); exact HO617.out) hb); have n2_ := Aside0.mk (below_step (by repeat (first | (with_reducible first | exact HB.out | apply below_alloc | apply pw_below_drewN | apply below_drew1) | exact HB.out)) hb); have n3_ := Aside0.mk (hbox); have n4_ := Aside0.mk ((by rw [hg]; exact (below_size (by repeat (first | (with_reducible first | exact HB.out | apply below_alloc | apply pw_below_drewN | apply below_drew1) | exact HB.out))) : w.heap.size ≤ gb622)); have n5_ := Aside0.mk ((by rw [hg]; exact (below_size (by repeat (first | (with_reducible first | exact HB.out | apply below_alloc | apply pw_below_drewN | apply below_drew1) | exact HB.out))) : w.heap.size ≤ gb622)); clear HO614; clear HO617; clear HB; have HO614 := n0_; have HO617 := n1_; have HB := n2_; have BK622 := n3_; have GW622 := n4_; have GE622 := n5_; clear n0_ n1_ n2_ n3_ n4_ n5_; clear hb hbox hg; obtain ⟨Ao7, co7, eo7⟩ := Kd.R_slice HO614.out; subst eo7; have hcz8_0 : w6.cell? ⟨gb622, 0, none⟩ = some (.slice none 0 0) := (blk_cell BK622.out 0).trans rfl; have hcz8_1 : w6.cell? ⟨gb622, 1, none⟩ = some (.slice none 0 0) := (blk_cell BK622.out 1).trans rfl; have hcz8_2 : w6.cell? ⟨gb622, 2, none⟩ = some (.int .i64 0) := (blk_cell BK622.out 2).trans rfl; have hcz8_3 : w6.cell? ⟨gb622, 3, none⟩ = some (.bool false) := (blk_cell BK622.out 3).trans rfl; have hcz8_4 : w6.cell? ⟨gb622, 4, none⟩ = some (.bool false) := (blk_cell BK622.out 4).trans rfl; have hfz8_0 := blk_frozen BK622.out 0; have hfz8_1 := blk_frozen BK622.out 1; have hfz8_2 := blk_frozen BK622.out 2; have hfz8_3 := blk_frozen BK622.out 3; have hfz8_4 := blk_frozen BK622.out 4; obtain ⟨Ao9, co9, eo9⟩ := Kd.R_slice HO617.out; subst eo9) | ((with_reducible refine gate_dst (N := 17) rfl ?_); refine Kd.R_lit k53 _ 53 ?hg (N := 17) ?hd (xs := ([] : List (S_Play))) (inner := []) (ok := fun _ => True) (okp := fun _ => True) ?hr ?hp (fun _ hk => hk) trivial (Below.refl _ _) (Nat.le_refl _) (by simp) ?_; (case hd => rfl); (case hg => rfl); (case hr => first | (go_simp; done) | (go_simp; rfl)); (case hp => exact (Reps.none _ _)); intro v624 w10 ho11 hb hg_ hnew_; clear hg_ hnew_; (first | rw [← Ny623.out] at ho11 | (simp only [Int.reduceToNat] at ho11; rw [← Ny623.out] at ho11)); have n0_ := Aside0.mk (Kd.R_below (by (with_reducible repeat (first | apply Kd.R_alloc | apply Kd.R_drewN | apply Kd.R_drew)); exact (Kd.R_mono (Kd.R_far (p := ⟨gb622, 4, none⟩) (Kd.R_far (p := ⟨gb622, 3, none⟩) (Kd.R_far (p := ⟨gb622, 2, none⟩) (Kd.R_far (p := ⟨gb622, 1, none⟩) (Kd.R_far (p := ⟨gb622, 0, none⟩) (Kd.R_types HO614.out BK622.out (by decide)) (fun _ hk => hk.2) (.slice Ao7 t612.length co7)) (fun _ hk => hk.2) (.slice Ao9 t615.length co9)) (fun _ hk => hk.2) (.int .i64 t618)) (fun _ hk => hk.2) (.bool t619)) (fun _ hk => hk.2) (.bool t620)) (fun _ h_ => h_.1))) hb); have n1_ := Aside0.mk (Kd.R_below (by (with_reducible repeat (first | apply Kd.R_alloc | apply Kd.R_drewN | apply Kd.R_drew)); exact (Kd.R_mono (Kd.R_far (p := ⟨gb622, 4, none⟩) (Kd.R_far (p := ⟨gb622, 3, none⟩) (Kd.R_far (p := ⟨gb622, 2, none⟩) (Kd.R_far (p := ⟨gb622, 1, none⟩) (Kd.R_far (p := ⟨gb622, 0, none⟩) (Kd.R_types HO617.out BK622.out (by decide)) (fun _ hk => hk.2) (.slice Ao7 t612.length co7)) (fun _ hk => hk.2) (.slice Ao9 t615.length co9)) (fun _ hk => hk.2) (.int .i64 t618)) (fun _ hk => hk.2) (.bool t619)) (fun _ hk => hk.2) (.bool t620)) (fun _ h_ => h_.1))) hb); have n2_ := Aside0.mk (Kd.R_lower ho11 (below_size (by repeat (first | (with_reducible first | exact HB.out | apply below_alloc | apply pw_below_drewN | apply below_drew1 | refine below_set ?_ GE622.out) | exact HB.out)))); have n3_ := Aside0.mk (blk_below (g := gb622) (o := .cells #[.slice Ao7 t612.length co7, .slice Ao9 t615.length co9, .int .i64 t618, .bool t619, .bool t620] 70 (0, 0)) (by (with_reducible repeat (first | refine blk_drewN ?_ _ | refine blk_drew ?_ | refine blk_alloc ?_ _)); refine blk_put (cs := #[.slice Ao7 t612.length co7, .slice Ao9 t615.length co9, .int .i64 t618, .bool t619, .bool false]) ?_ 4 _ rfl; (with_reducible repeat (first | refine blk_drewN ?_ _ | refine blk_drew ?_ | refine blk_alloc ?_ _)); refine blk_put (cs := #[.slice Ao7 t612.length co7, .slice Ao9 t615.length co9, .int .i64 t618, .bool false, .bool false]) ?_ 3 _ rfl; (with_reducible repeat (first | refine blk_drewN ?_ _ | refine blk_drew ?_ | refine blk_alloc ?_ _)); refine blk_put (cs := #[.slice Ao7 t612.length co7, .slice Ao9 t615.length co9, .int .i64 0, .bool false, .bool false]) ?_ 2 _ rfl; (with_reducible repeat (first | refine blk_drewN ?_ _ | refine blk_drew ?_ | refine blk_alloc ?_ _)); refine blk_put (cs := #[.slice Ao7 t612.length co7, .slice none 0 0, .int .i64 0, .bool false, .bool false]) ?_ 1 _ rfl; (with_reducible repeat (first | refine blk_drewN ?_ _ | refine blk_drew ?_ | refine blk_alloc ?_ _)); refine blk_put (cs := #[.slice none 0 0, .slice none 0 0, .int .i64 0, .bool false, .bool false]) ?_ 0 _ rfl; (with_reducible repeat (first | refine blk_drewN ?_ _ | refine blk_drew ?_ | refine blk_alloc ?_ _)); exact BK622.out) hb); have n4_ := Aside0.mk (below_step (by repeat (first | (with_reducible first | exact HB.out | apply below_alloc | apply pw_below_drewN | apply below_drew1 | refine below_set ?_ GE622.out) | exact HB.out)) hb); clear HO614; clear HO617; clear BK622; clear HB; have HO614 := n0_; have HO617 := n1_; have HO625 := n2_; have BK622 := n3_; have HB := n4_; clear n0_ n1_ n2_ n3_ n4_; clear hb ho11) | ((with_reducible refine gate_callee (f := 91) rfl ?_); refine goesL_ (some 19) rfl rfl Try.func91 (by kernel_rfl) rfl #[.slice A1 l1.length c1] rfl (by (try simp only [List.map_toArray, List.map_cons, List.map_nil]); first | done | rfl | (simp only [List.length_drop, List.length_take]; rfl)) ?_; (with_reducible refine (impl_sorted.calls _ _ l1 t626 _ ?side1 ?side2 A4.out).mono ?_); (case side1 => repeat (first | exact (Kd.C_below HR1.out HB.out) | (with_reducible refine Kd.C_alloc ?_ _) | (with_reducible refine Kd.C_drewN ?_ _) | (with_reducible refine Kd.C_drew ?_))); (case side2 => exact HC1.out); rintro e w12 ⟨v627, rfl, ho0, hb⟩; refine ⟨_, rfl, ?_⟩; have n0_ := Aside0.mk (Kd.R_below (by (with_reducible repeat (first | apply Kd.R_alloc | apply Kd.R_drewN | apply Kd.R_drew)); exact HO614.out) hb); have n1_ := Aside0.mk (Kd.R_elder' (by (with_reducible repeat (first | apply Kd.R_alloc | apply Kd.R_drewN | apply Kd.R_drew)); exact HO617.out) (Kd.R_base ho0) hb); have n2_ := Aside0.mk (Kd.R_below (by (with_reducible repeat (first | apply Kd.R_alloc | apply Kd.R_drewN | apply Kd.R_drew)); exact HO625.out) hb); have n3_ := Aside0.mk (Kd.R_lower (Kd.R_new' ho0 (Kd.R_lt (by (with_reducible repeat (first | apply Kd.R_alloc | apply Kd.R_drewN | apply Kd.R_drew)); exact HO617.out))) (below_size (by repeat (first | (with_reducible first | exact HB.out | apply below_alloc | apply pw_below_drewN | apply below_drew1 | refine below_set ?_ GE622.out) | exact HB.out)))); have n4_ := Aside0.mk (blk_below (g := gb622) (o := .cells #[.slice Ao7 t612.length co7, .slice Ao9 t615.length co9, .int .i64 t618, .bool t619, .bool t620] 70 (0, 0)) (by (with_reducible repeat (first | refine blk_drewN ?_ _ | refine blk_drew ?_ | refine blk_alloc ?_ _)); exact BK622.out) hb); have n5_ := Aside0.mk (below_step (by repeat (first | (with_reducible first | exact HB.out | apply below_alloc | apply pw_below_drewN | apply below_drew1 | refine below_set ?_ GE622.out) | exact HB.out)) hb); clear HO614; clear HO617; clear HO625; clear BK622; clear HB; have HO614 := n0_; have HO617 := n1_; have HO625 := n2_; have HO628 := n3_; have BK622 := n4_; have HB := n5_; clear n0_ n1_ n2_ n3_ n4_ n5_; (try clear hb); (try clear hb2); (try clear hk); (try clear hi); (try clear ho0); obtain ⟨Ao13, co13, eo13⟩ := Kd.R_slice HO628.out; subst eo13))
  go_loopg [7, 21] k (fun kq v7 v21 w' => ∃ (x7_1 : List (S_Play)) (x21_1 : Int), v21 = .int .i64 x21_1 ∧ Aside0 (impl_playsFor.l0 kq l0 x7_1 t626 (t626.length : Int) x21_1 t612 t615 t618 t619 t620 = some r) ∧ Aside0 (kq ≤ k) ∧ Aside0 (Kd.R k53 53 w' w.heap.size (fun _ => True) v7 x7_1) ∧ Aside0 (Kd.R k51 51 w' w.heap.size (fun k_ => some k_ ≠ ((.slice Ao9 t615.length co9) : Value).ownBlock) (.slice Ao13 t626.length co13) t626) ∧ Aside0 (Kd.R k85 85 w' w.heap.size (fun _ => True) (.slice Ao7 t612.length co7) t612) ∧ Aside0 (Kd.R k51 51 w' w.heap.size (fun k_ => some k_ ≠ ((.slice Ao13 t626.length co13) : Value).ownBlock) (.slice Ao9 t615.length co9) t615) ∧ Aside0 (w'.heap[gb622]? = some (.cells #[(.slice Ao7 t612.length co7), (.slice Ao9 t615.length co9), .int .i64 t618, .bool t619, .bool t620] 70 (0, 0))) ∧ Aside0 (Below w.heap.size w w'))
  case atStart => exact ⟨(y623), (0), (by first | rfl | (simp; done) | (simp [*]; done)), H', ⟨Nat.le_refl _⟩, ⟨by (with_reducible repeat (first | apply Kd.R_alloc | apply Kd.R_drewN | apply Kd.R_drew)); exact HO625.out⟩, ⟨by (with_reducible repeat (first | apply Kd.R_alloc | apply Kd.R_drewN | apply Kd.R_drew)); exact Kd.R_mono HO628.out (fun _ hk => hk.2)⟩, ⟨by (with_reducible repeat (first | apply Kd.R_alloc | apply Kd.R_drewN | apply Kd.R_drew)); exact HO614.out⟩, ⟨by (with_reducible repeat (first | apply Kd.R_alloc | apply Kd.R_drewN | apply Kd.R_drew)); exact Kd.R_mono HO617.out (fun _ hk => hk.2)⟩, ⟨by (with_reducible repeat (first | refine blk_drewN ?_ _ | refine blk_drew ?_ | refine blk_alloc ?_ _)); exact BK622.out⟩, ⟨by repeat (first | (with_reducible first | exact HB.out | apply below_alloc | apply pw_below_drewN | apply below_drew1 | refine below_set ?_ GE622.out) | exact HB.out)⟩⟩
  case round =>
    clear H'
    try clear c1
    try clear p2
    try clear c4
    try clear c6
    try clear c9
    try clear hcz8_0
    try clear hcz8_1
    try clear hcz8_2
    try clear hcz8_3
    try clear hcz8_4
    try clear hfz8_0
    try clear hfz8_1
    try clear hfz8_2
    try clear hfz8_3
    try clear hfz8_4
    obtain ⟨x7_1, x21_1, rfl, HA, HK1, HO_7, HO_19, HO_623000, HO_623001, BK622, HB⟩ := hrel
    cases gk with
    | zero => exact absurd HA.out (by simp [impl_playsFor.l0])
    | succ k1 =>
      have H := HA.out
      clear HA
      simp only [impl_playsFor.l0] at H
      by_cases c14 : x21_1 < (t626.length : Int)
      · rw [if_pos c14] at H
        have c14b0 : decide (x21_1 < (t626.length : Int)) = true := decide_eq_true c14
        clear c14
        by_cases c15 : 0 ≤ x21_1
        · rw [if_pos c15] at H
          have c15b0 : decide (0 ≤ x21_1) = true := decide_eq_true c15
          clear c15
          by_cases c16 : x21_1 < (t626.length : Int)
          · rw [if_pos c16] at H
            have c16b0 : decide (x21_1 < (t626.length : Int)) = true := decide_eq_true c16
            clear c16
            obtain ⟨ji17, hji17⟩ : ∃ j_ : Int, (mx 1 (t612.length : Int)) = j_ := ⟨_, rfl⟩
            replace H : (impl_playsFor.l1 k1 l0 x7_1 t626 (t626.length : Int) x21_1 ji17 0 t612 t615 t618 t619 t620 ((rd_Tile t626 x21_1).f0) ((rd_Tile t626 x21_1).f1)) = some r := by first | (rw [hji17] at H; exact H) | (simp only [hji17] at H ⊢; exact H)
            have hji17_ : (if 1 < (t612.length : Int) then (t612.length : Int) else 1) = ji17 := hji17
            have H' := Aside0.mk H
            clear H
            have p629 : 0 ≤ (x21_1 : Int) := of_decide_eq_true (by first | (with_reducible assumption) | assumption)
            have q629 : x21_1 < (t626.length : Int) := of_decide_eq_true (by first | (with_reducible assumption) | assumption)
            obtain ⟨ad629, e629, hx629_0, hx629_1⟩ := at_T51 (Kd.R_reads' HO_19.out).2.2 x21_1 p629 q629
            cases e629
            replace p629 := eq_true p629
            replace q629 := eq_true q629
            go_wp2_with (first | ((with_reducible refine gate_dst (N := 9) rfl ?_); refine box_event ?hg (N := 9) ?hd (cs := #[.int .i64 0, .int .i64 0]) (t := 51) ?hr ?_; (case hd => rfl); (case hg => rfl); (case hr => first | (go_simp; done) | (go_simp; rfl)); intro gb630 hg w18 hbox hb; have n0_ := Aside0.mk (Kd.R_below (by (with_reducible repeat (first | apply Kd.R_alloc | apply Kd.R_drewN | apply Kd.R_drew)); exact HO_7.out) hb); have n1_ := Aside0.mk (Kd.R_below (Kd.R_elderB (by (with_reducible repeat (first | apply Kd.R_alloc | apply Kd.R_drewN | apply Kd.R_drew)); exact HO_19.out) gb630 (Nat.le_of_eq hg.symm)) hb); have n2_ := Aside0.mk (Kd.R_below (by (with_reducible repeat (first | apply Kd.R_alloc | apply Kd.R_drewN | apply Kd.R_drew)); exact HO_623000.out) hb); have n3_ := Aside0.mk (Kd.R_below (Kd.R_elderB (by (with_reducible repeat (first | apply Kd.R_alloc | apply Kd.R_drewN | apply Kd.R_drew)); exact HO_623001.out) gb630 (Nat.le_of_eq hg.symm)) hb); have n4_ := Aside0.mk (blk_below (g := gb622) (o := .cells #[.slice Ao7 t612.length co7, .slice Ao9 t615.length co9, .int .i64 t618, .bool t619, .bool t620] 70 (0, 0)) (by (with_reducible repeat (first | refine blk_drewN ?_ _ | refine blk_drew ?_ | refine blk_alloc ?_ _)); exact BK622.out) hb); have n5_ := Aside0.mk (below_step (by repeat (first | (with_reducible first | exact HB.out | apply below_alloc | apply pw_below_drewN | apply below_drew1 | refine below_set ?_ GE622.out) | exact HB.out)) hb); have n6_ := Aside0.mk (hbox); have n7_ := Aside0.mk ((by rw [hg]; exact (below_size (by repeat (first | (with_reducible first | exact HB.out | apply below_alloc | apply pw_below_drewN | apply below_drew1 | refine below_set ?_ GE622.out) | exact HB.out))) : w.heap.size ≤ gb630)); have n8_ := Aside0.mk ((by rw [hg]; exact (below_size (by repeat (first | (with_reducible first | exact HB.out | apply below_alloc | apply pw_below_drewN | apply below_drew1 | refine below_set ?_ GE622.out) | exact HB.out))) : w.heap.size ≤ gb630)); have n9_ := Aside0.mk ((by rw [hg]; exact Nat.ne_of_lt (blk_lt (g := gb622) (o := .cells #[.slice Ao7 t612.length co7, .slice Ao9 t615.length co9, .int .i64 t618, .bool t619, .bool t620] 70 (0, 0)) (by (with_reducible repeat (first | refine blk_drewN ?_ _ | refine blk_drew ?_ | refine blk_alloc ?_ _)); exact BK622.out)) : gb622 ≠ gb630)); have n10_ := Aside0.mk ((by rw [hg]; exact Nat.ne_of_gt (blk_lt (g := gb622) (o := .cells #[.slice Ao7 t612.length co7, .slice Ao9 t615.length co9, .int .i64 t618, .bool t619, .bool t620] 70 (0, 0)) (by (with_reducible repeat (first | refine blk_drewN ?_ _ | refine blk_drew ?_ | refine blk_alloc ?_ _)); exact BK622.out)) : gb630 ≠ gb622)); clear HO_7; clear HO_19; clear HO_623000; clear HO_623001; clear BK622; clear HB; have HO_7 := n0_; have HO_19 := n1_; have HO_623000 := n2_; have HO_623001 := n3_; have BK622 := n4_; have HB := n5_; have BK630 := n6_; have GW630 := n7_; have GE630 := n8_; have NB622_630 := n9_; have NB630_622 := n10_; clear n0_ n1_ n2_ n3_ n4_ n5_ n6_ n7_ n8_ n9_ n10_; clear hb hbox hg; have hnb19 := NB630_622.out; have hnc19 := NB622_630.out; have hcz20_0 : w18.cell? ⟨gb630, 0, none⟩ = some (.int .i64 0) := (blk_cell BK630.out 0).trans rfl; have hcz20_1 : w18.cell? ⟨gb630, 1, none⟩ = some (.int .i64 0) := (blk_cell BK630.out 1).trans rfl; have hfz20_0 := blk_frozen BK630.out 0; have hfz20_1 := blk_frozen BK630.out 1; have hcz21_0 : w18.cell? ⟨gb622, 0, none⟩ = some (.slice Ao7 t612.length co7) := (blk_cell BK622.out 0).trans rfl; have hcz21_1 : w18.cell? ⟨gb622, 1, none⟩ = some (.slice Ao9 t615.length co9) := (blk_cell BK622.out 1).trans rfl; have hcz21_2 : w18.cell? ⟨gb622, 2, none⟩ = some (.int .i64 t618) := (blk_cell BK622.out 2).trans rfl; have hcz21_3 : w18.cell? ⟨gb622, 3, none⟩ = some (.bool t619) := (blk_cell BK622.out 3).trans rfl; have hcz21_4 : w18.cell? ⟨gb622, 4, none⟩ = some (.bool t620) := (blk_cell BK622.out 4).trans rfl; have hfz21_0 := blk_frozen BK622.out 0; have hfz21_1 := blk_frozen BK622.out 1; have hfz21_2 := blk_frozen BK622.out 2; have hfz21_3 := blk_frozen BK622.out 3; have hfz21_4 := blk_frozen BK622.out 4))
            go_loopg [7, 29] k1 (fun kq v7 v29 w' => ∃ (x7_2 : List (S_Play)) (x29_2 : Int), v29 = .int .i64 x29_2 ∧ Aside0 (impl_playsFor.l1 kq l0 x7_2 t626 (t626.length : Int) x21_1 ji17 x29_2 t612 t615 t618 t619 t620 ((rd_Tile t626 x21_1).f0) ((rd_Tile t626 x21_1).f1) = some r) ∧ Aside0 (kq ≤ k1) ∧ Aside0 (Kd.R k53 53 w' w.heap.size (fun _ => True) v7 x7_2) ∧ Aside0 (Kd.R k51 51 w' w.heap.size (fun k_ => some k_ ≠ ((.slice Ao9 t615.length co9) : Value).ownBlock ∧ k_ ≠ gb630) (.slice (some ad629) t626.length co13) t626) ∧ Aside0 (Kd.R k85 85 w' w.heap.size (fun _ => True) (.slice Ao7 t612.length co7) t612) ∧ Aside0 (Kd.R k51 51 w' w.heap.size (fun k_ => some k_ ≠ ((.slice (some ad629) t626.length co13) : Value).ownBlock ∧ k_ ≠ gb630) (.slice Ao9 t615.length co9) t615) ∧ Aside0 (w'.heap[gb622]? = some (.cells #[(.slice Ao7 t612.length co7), (.slice Ao9 t615.length co9), .int .i64 t618, .bool t619, .bool t620] 70 (0, 0))) ∧ Aside0 (w'.heap[gb630]? = some (.cells #[.int .i64 ((rd_Tile t626 x21_1).f0), .int .i64 ((rd_Tile t626 x21_1).f1)] 51 (0, 0))) ∧ Aside0 (Below w.heap.size w w'))
            case atStart => exact ⟨(x7_1), (0), (by first | rfl | (simp; done) | (simp [*]; done)), H', ⟨Nat.le_refl _⟩, ⟨by (with_reducible repeat (first | apply Kd.R_alloc | apply Kd.R_drewN | apply Kd.R_drew)); exact Kd.R_mono (Kd.R_far (p := ⟨gb630, 1, none⟩) (Kd.R_far (p := ⟨gb630, 0, none⟩) (Kd.R_types HO_7.out BK630.out (by decide)) (fun _ hk => hk.2) (.int .i64 ((rd_Tile t626 x21_1).f0))) (fun _ hk => hk.2) (.int .i64 ((rd_Tile t626 x21_1).f1))) (fun _ hk => trivial)⟩, ⟨by (with_reducible repeat (first | apply Kd.R_alloc | apply Kd.R_drewN | apply Kd.R_drew)); exact Kd.R_mono (Kd.R_far (p := ⟨gb630, 1, none⟩) (Kd.R_far (p := ⟨gb630, 0, none⟩) (Kd.R_mono HO_19.out (fun k_ hk => (⟨hk, hk.2⟩ : _ ∧ k_ ≠ gb630))) (fun _ hk => hk.2) (.int .i64 ((rd_Tile t626 x21_1).f0))) (fun _ hk => hk.2) (.int .i64 ((rd_Tile t626 x21_1).f1))) (fun _ hk => ⟨hk.1.1, hk.1.2⟩)⟩, ⟨by (with_reducible repeat (first | apply Kd.R_alloc | apply Kd.R_drewN | apply Kd.R_drew)); exact Kd.R_mono (Kd.R_far (p := ⟨gb630, 1, none⟩) (Kd.R_far (p := ⟨gb630, 0, none⟩) (Kd.R_types HO_623000.out BK630.out (by decide)) (fun _ hk => hk.2) (.int .i64 ((rd_Tile t626 x21_1).f0))) (fun _ hk => hk.2) (.int .i64 ((rd_Tile t626 x21_1).f1))) (fun _ hk => trivial)⟩, ⟨by (with_reducible repeat (first | apply Kd.R_alloc | apply Kd.R_drewN | apply Kd.R_drew)); exact Kd.R_mono (Kd.R_far (p := ⟨gb630, 1, none⟩) (Kd.R_far (p := ⟨gb630, 0, none⟩) (Kd.R_mono HO_623001.out (fun k_ hk => (⟨hk, hk.2⟩ : _ ∧ k_ ≠ gb630))) (fun _ hk => hk.2) (.int .i64 ((rd_Tile t626 x21_1).f0))) (fun _ hk => hk.2) (.int .i64 ((rd_Tile t626 x21_1).f1))) (fun _ hk => ⟨hk.1.1, hk.1.2⟩)⟩, ⟨by (with_reducible repeat (first | refine blk_drewN ?_ _ | refine blk_drew ?_ | refine blk_alloc ?_ _)); refine blk_far ?_ NB622_630.out _; (with_reducible repeat (first | refine blk_drewN ?_ _ | refine blk_drew ?_ | refine blk_alloc ?_ _)); refine blk_far ?_ NB622_630.out _; (with_reducible repeat (first | refine blk_drewN ?_ _ | refine blk_drew ?_ | refine blk_alloc ?_ _)); exact BK622.out⟩, ⟨by (with_reducible repeat (first | refine blk_drewN ?_ _ | refine blk_drew ?_ | refine blk_alloc ?_ _)); refine blk_put (cs := #[.int .i64 ((rd_Tile t626 x21_1).f0), .int .i64 0]) ?_ 1 _ rfl; (with_reducible repeat (first | refine blk_drewN ?_ _ | refine blk_drew ?_ | refine blk_alloc ?_ _)); refine blk_put (cs := #[.int .i64 0, .int .i64 0]) ?_ 0 _ rfl; (with_reducible repeat (first | refine blk_drewN ?_ _ | refine blk_drew ?_ | refine blk_alloc ?_ _)); exact BK630.out⟩, ⟨by repeat (first | (with_reducible first | exact HB.out | apply below_alloc | apply pw_below_drewN | apply below_drew1 | refine below_set ?_ GE622.out | refine below_set ?_ GE630.out) | exact HB.out)⟩⟩
            case round =>
              clear H'
              try clear c1
              try clear p2
              try clear c4
              try clear c6
              try clear p6
              try clear q6
              try clear hx6
              try clear c9
              try clear c14
              try clear c14b0
              try clear c15
              try clear c15b0
              try clear c16
              try clear c16b0
              try clear c19
              try clear hcz20_0
              try clear hcz20_1
              try clear hcz21_0
              try clear hcz21_1
              try clear hcz21_2
              try clear hcz21_3
              try clear hcz21_4
              try clear hcz8_0
              try clear hcz8_1
              try clear hcz8_2
              try clear hcz8_3
              try clear hcz8_4
              try clear hfz20_0
              try clear hfz20_1
              try clear hfz21_0
              try clear hfz21_1
              try clear hfz21_2
              try clear hfz21_3
              try clear hfz21_4
              try clear hfz8_0
              try clear hfz8_1
              try clear hfz8_2
              try clear hfz8_3
              try clear hfz8_4
              try clear hx629_0
              try clear hx629_1
              try clear p2
              try clear p629
              try clear q629
              obtain ⟨x7_2, x29_2, rfl, HA, HK2, HO_7, HO_19, HO_623000, HO_623001, BK622, BK630, HB⟩ := hrel
              cases gk with
              | zero => exact absurd HA.out (by simp [impl_playsFor.l1])
              | succ k2 =>
                have H := HA.out
                clear HA
                simp only [impl_playsFor.l1] at H
                by_cases c22 : x29_2 < ji17
                · rw [if_pos c22] at H
                  have c22b0 : decide (x29_2 < ji17) = true := decide_eq_true c22
                  clear c22
                  replace H := Option.bind_eq_some_iff.mp H
                  obtain ⟨t631, A230, H⟩ := H
                  replace H : ((some (([(⟨(⟨((rd_Tile t626 x21_1).f0), ((rd_Tile t626 x21_1).f1)⟩ : S_Tile), x29_2⟩ : S_Play)] : List (S_Play)) : List (S_Play))).bind fun y634 => (if t631.length + y634.length < 5864062014805 then ((impl_IsSpread.f (t631 ++ y634)).bind fun t640 => (if t640 = true then ((some (([(⟨(⟨((rd_Tile t626 x21_1).f0), ((rd_Tile t626 x21_1).f1)⟩ : S_Tile), x29_2⟩ : S_Play)] : List (S_Play)) : List (S_Play))).bind fun y641 => (if x7_2.length + y641.length < 5864062014805 then (impl_playsFor.l1 k2 l0 (x7_2 ++ y641) t626 (t626.length : Int) x21_1 ji17 (wrap64 (x29_2 + 1)) t612 t615 t618 t619 t620 ((rd_Tile t626 x21_1).f0) ((rd_Tile t626 x21_1).f1)) else (none))) else (impl_playsFor.l1 k2 l0 x7_2 t626 (t626.length : Int) x21_1 ji17 (wrap64 (x29_2 + 1)) t612 t615 t618 t619 t620 ((rd_Tile t626 x21_1).f0) ((rd_Tile t626 x21_1).f1)))) else (none))) = some r := H
                  have A23 := Aside0.mk A230
                  clear A230
                  obtain ⟨y634, hy634⟩ : ∃ y_ : List (S_Play), y_ = (([(⟨(⟨((rd_Tile t626 x21_1).f0), ((rd_Tile t626 x21_1).f1)⟩ : S_Tile), x29_2⟩ : S_Play)] : List (S_Play))) := ⟨_, rfl⟩
                  replace H : (if t631.length + y634.length < 5864062014805 then ((impl_IsSpread.f (t631 ++ y634)).bind fun t640 => (if t640 = true then ((some (([(⟨(⟨((rd_Tile t626 x21_1).f0), ((rd_Tile t626 x21_1).f1)⟩ : S_Tile), x29_2⟩ : S_Play)] : List (S_Play)) : List (S_Play))).bind fun y641 => (if x7_2.length + y641.length < 5864062014805 then (impl_playsFor.l1 k2 l0 (x7_2 ++ y641) t626 (t626.length : Int) x21_1 ji17 (wrap64 (x29_2 + 1)) t612 t615 t618 t619 t620 ((rd_Tile t626 x21_1).f0) ((rd_Tile t626 x21_1).f1)) else (none))) else (impl_playsFor.l1 k2 l0 x7_2 t626 (t626.length : Int) x21_1 ji17 (wrap64 (x29_2 + 1)) t612 t615 t618 t619 t620 ((rd_Tile t626 x21_1).f0) ((rd_Tile t626 x21_1).f1)))) else (none)) = some r := by first | (rw [hy634]; with_reducible exact H) | (have H2_ := (Option.bind_some _ _).symm.trans H; rw [hy634]; with_reducible exact H2_) | (have H2_ := (Option.bind_some _ _).symm.trans H; with_reducible exact H2_) | with_reducible exact H | (rw [hy634]; exact H) | exact H
                  have Ny634 := Aside0.mk hy634
                  clear hy634
                  by_cases c24 : t631.length + y634.length < 5864062014805
                  · rw [if_pos c24] at H
                    have LMc24 := Aside0.mk c24
                    clear c24
                    obtain ⟨y637, hy637⟩ : ∃ y_ : List (S_Play), y_ = (t631 ++ y634) := ⟨_, rfl⟩
                    replace H : ((impl_IsSpread.f y637).bind fun t640 => (if t640 = true then ((some (([(⟨(⟨((rd_Tile t626 x21_1).f0), ((rd_Tile t626 x21_1).f1)⟩ : S_Tile), x29_2⟩ : S_Play)] : List (S_Play)) : List (S_Play))).bind fun y641 => (if x7_2.length + y641.length < 5864062014805 then (impl_playsFor.l1 k2 l0 (x7_2 ++ y641) t626 (t626.length : Int) x21_1 ji17 (wrap64 (x29_2 + 1)) t612 t615 t618 t619 t620 ((rd_Tile t626 x21_1).f0) ((rd_Tile t626 x21_1).f1)) else (none))) else (impl_playsFor.l1 k2 l0 x7_2 t626 (t626.length : Int) x21_1 ji17 (wrap64 (x29_2 + 1)) t612 t615 t618 t619 t620 ((rd_Tile t626 x21_1).f0) ((rd_Tile t626 x21_1).f1)))) = some r := by first | (rw [hy637]; with_reducible exact H) | (have H2_ := (Option.bind_some _ _).symm.trans H; rw [hy637]; with_reducible exact H2_) | (have H2_ := (Option.bind_some _ _).symm.trans H; with_reducible exact H2_) | with_reducible exact H | (rw [hy637]; exact H) | exact H
                    have Ny637 := Aside0.mk hy637
                    clear hy637
                    replace H := Option.bind_eq_some_iff.mp H
                    obtain ⟨t640, A250, H⟩ := H
                    replace H : (if t640 = true then ((some (([(⟨(⟨((rd_Tile t626 x21_1).f0), ((rd_Tile t626 x21_1).f1)⟩ : S_Tile), x29_2⟩ : S_Play)] : List (S_Play)) : List (S_Play))).bind fun y641 => (if x7_2.length + y641.length < 5864062014805 then (impl_playsFor.l1 k2 l0 (x7_2 ++ y641) t626 (t626.length : Int) x21_1 ji17 (wrap64 (x29_2 + 1)) t612 t615 t618 t619 t620 ((rd_Tile t626 x21_1).f0) ((rd_Tile t626 x21_1).f1)) else (none))) else (impl_playsFor.l1 k2 l0 x7_2 t626 (t626.length : Int) x21_1 ji17 (wrap64 (x29_2 + 1)) t612 t615 t618 t619 t620 ((rd_Tile t626 x21_1).f0) ((rd_Tile t626 x21_1).f1))) = some r := H
                    have A25 := Aside0.mk A250
                    clear A250
                    by_cases c26 : t640 = true
                    · subst c26
                      have H1 : ((some (([(⟨(⟨((rd_Tile t626 x21_1).f0), ((rd_Tile t626 x21_1).f1)⟩ : S_Tile), x29_2⟩ : S_Play)] : List (S_Play)) : List (S_Play))).bind fun y641 => (if x7_2.length + y641.length < 5864062014805 then (impl_playsFor.l1 k2 l0 (x7_2 ++ y641) t626 (t626.length : Int) x21_1 ji17 (wrap64 (x29_2 + 1)) t612 t615 t618 t619 t620 ((rd_Tile t626 x21_1).f0) ((rd_Tile t626 x21_1).f1)) else (none))) = some r := by rw [if_pos rfl] at H; exact H
                      clear H
                      have H := H1
                      clear H1
                      obtain ⟨y641, hy641⟩ : ∃ y_ : List (S_Play), y_ = (([(⟨(⟨((rd_Tile t626 x21_1).f0), ((rd_Tile t626 x21_1).f1)⟩ : S_Tile), x29_2⟩ : S_Play)] : List (S_Play))) := ⟨_, rfl⟩
                      replace H : (if x7_2.length + y641.length < 5864062014805 then (impl_playsFor.l1 k2 l0 (x7_2 ++ y641) t626 (t626.length : Int) x21_1 ji17 (wrap64 (x29_2 + 1)) t612 t615 t618 t619 t620 ((rd_Tile t626 x21_1).f0) ((rd_Tile t626 x21_1).f1)) else (none)) = some r := by first | (rw [hy641]; with_reducible exact H) | (have H2_ := (Option.bind_some _ _).symm.trans H; rw [hy641]; with_reducible exact H2_) | (have H2_ := (Option.bind_some _ _).symm.trans H; with_reducible exact H2_) | with_reducible exact H | (rw [hy641]; exact H) | exact H
                      have Ny641 := Aside0.mk hy641
                      clear hy641
                      by_cases c27 : x7_2.length + y641.length < 5864062014805
                      · rw [if_pos c27] at H
                        have LMc27 := Aside0.mk c27
                        clear c27
                        obtain ⟨y644, hy644⟩ : ∃ y_ : List (S_Play), y_ = (x7_2 ++ y641) := ⟨_, rfl⟩
                        replace H : (impl_playsFor.l1 k2 l0 y644 t626 (t626.length : Int) x21_1 ji17 (wrap64 (x29_2 + 1)) t612 t615 t618 t619 t620 ((rd_Tile t626 x21_1).f0) ((rd_Tile t626 x21_1).f1)) = some r := by first | (rw [hy644]; with_reducible exact H) | (have H2_ := (Option.bind_some _ _).symm.trans H; rw [hy644]; with_reducible exact H2_) | (have H2_ := (Option.bind_some _ _).symm.trans H; with_reducible exact H2_) | with_reducible exact H | (rw [hy644]; exact H) | exact H
                        have Ny644 := Aside0.mk hy644
                        clear hy644
                        have H' := Aside0.mk H
                        clear H
                        try go_wp2
                        have n0_ := Aside0.mk (Kd.R_drew HO_7.out)
                        have n1_ := Aside0.mk (Kd.R_drew HO_19.out)
                        have n2_ := Aside0.mk (Kd.R_drew HO_623000.out)
                        have n3_ := Aside0.mk (Kd.R_drew HO_623001.out)
                        have n4_ := Aside0.mk (blk_drew BK622.out)
                        have n5_ := Aside0.mk (blk_drew BK630.out)
                        have n6_ := Aside0.mk (below_drew1 HB.out)
                        clear HO_7
                        clear HO_19
                        clear HO_623000
                        clear HO_623001
                        clear BK622
                        clear BK630
                        clear HB
                        have HO_7 := n0_
                        have HO_19 := n1_
                        have HO_623000 := n2_
                        have HO_623001 := n3_
                        have BK622 := n4_
                        have BK630 := n5_
                        have HB := n6_
                        clear n0_ n1_ n2_ n3_ n4_ n5_ n6_
                        refine start_ (n := 8) (S := fun w' => w'.cell? ⟨gb630, 0, none⟩ = some (.int .i64 ((rd_Tile t626 x21_1).f0)) ∧ w'.cell? ⟨gb630, 1, none⟩ = some (.int .i64 ((rd_Tile t626 x21_1).f1))) (ds := []) #[false, false, false, false, false, false, false, false] (by kernel_rfl) rfl rfl ⟨(blk_cell BK630.out 0).trans rfl, (blk_cell BK630.out 1).trans rfl⟩ (fun hHeld => ?_); refine with_tabW impl_playsFor.tab9 impl_playsFor.bits9 (fun HT_ HW_ => ?_)
                        generalize wr.drew = w28 at HO_7 HO_19 HO_623000 HO_623001 BK622 BK630 HB hHeld ⊢
                        refine pure_ (i := 0) (N := some 32) (v := ?_) (a' := ?_) #[true, false, false, false, false, false, false, false] rfl rfl (any_of HT_.out (by kernel_rfl)) (fun _ _ _ h => h) (Or.inl ⟨by rfl, ?_⟩) ?_ ?_
                        rotate_left
                        · intro w'
                          go_simp
                          with_reducible rfl
                        rotate_left
                        · simp only [Act.put, List.setIfInBounds_toArray, List.set_cons_zero, List.set_cons_succ, i64_w, i32_w]
                          rfl
                        refine pure_ (i := 3) (N := some 35) (v := ?_) (a' := ?_) #[true, false, false, true, false, false, false, false] rfl rfl (any_of HT_.out (by kernel_rfl)) (fun _ _ _ h => h) (Or.inl ⟨by rfl, ?_⟩) ?_ ?_
                        rotate_left
                        · intro w'
                          go_simp
                          with_reducible rfl
                        rotate_left
                        · simp only [Act.put, List.setIfInBounds_toArray, List.set_cons_zero, List.set_cons_succ, i64_w, i32_w]
                          rfl
                        refine take_ (i := 2) (N := some 34) (v := ?_) (a' := ?_) #[true, false, true, true, false, false, false, false] rfl rfl (take_ofW HT_.out HW_.out (by kernel_rfl)) (fun _ _ _ h => h) (Or.inl ⟨by rfl, ?_⟩) hHeld ?_ ?_
                        rotate_left
                        · rintro w' ⟨s0, s1⟩
                          go_simp
                          with_reducible rfl
                        rotate_left
                        · simp only [Act.put, List.setIfInBounds_toArray, List.set_cons_zero, List.set_cons_succ, i64_w, i32_w]
                          rfl
                        refine pure_ (i := 4) (N := some 36) (v := ?_) (a' := ?_) #[true, false, true, true, true, false, false, false] rfl rfl (any_of HT_.out (by kernel_rfl)) (fun _ _ _ h => h) (Or.inl ⟨by rfl, ?_⟩) ?_ ?_
                        rotate_left
                        · intro w'
                          go_simp
                          with_reducible rfl
                        rotate_left
                        · simp only [Act.put, List.setIfInBounds_toArray, List.set_cons_zero, List.set_cons_succ, i64_w, i32_w]
                          rfl
                        refine join_ (σ := Value × Value) 2 #[true, true, true, true, true, true, false, false] (fun s_ => [(33, s_.1), (37, s_.2)]) (fun s_ w' => (w'.cell? ⟨gb630, 0, none⟩ = some (.int .i64 ((rd_Tile t626 x21_1).f0)) ∧ w'.cell? ⟨gb630, 1, none⟩ = some (.int .i64 ((rd_Tile t626 x21_1).f1))) ∧ (Kd.R k53 53 w' w.heap.size (fun k_ => some k_ ≠ (s_.2 : Value).ownBlock ∧ some k_ ≠ (u7 : Value).ownBlock) s_.1 t631) ∧ (Kd.R k53 53 w' w.heap.size (fun k_ => some k_ ≠ (s_.1 : Value).ownBlock ∧ some k_ ≠ (u7 : Value).ownBlock) s_.2 y634) ∧ (Kd.R k51 51 w' w.heap.size (fun k_ => some k_ ≠ (.slice Ao9 t615.length co9 : Value).ownBlock ∧ k_ ≠ gb630) (.slice (some ad629) t626.length co13) t626) ∧ (Kd.R k85 85 w' w.heap.size (fun _ => True) (.slice Ao7 t612.length co7) t612) ∧ (Kd.R k51 51 w' w.heap.size (fun k_ => some k_ ≠ (.slice (some ad629) t626.length co13 : Value).ownBlock ∧ k_ ≠ gb630) (.slice Ao9 t615.length co9) t615) ∧ (Kd.R k53 53 w' w.heap.size (fun k_ => some k_ ≠ (s_.1 : Value).ownBlock ∧ some k_ ≠ (s_.2 : Value).ownBlock) u7 x7_2) ∧ (w'.heap[gb622]? = some (.cells #[.slice Ao7 t612.length co7, .slice Ao9 t615.length co9, .int .i64 t618, .bool t619, .bool t620] 70 (0, 0))) ∧ (w'.heap[gb630]? = some (.cells #[.int .i64 ((rd_Tile t626 x21_1).f0), .int .i64 ((rd_Tile t626 x21_1).f1)] 51 (0, 0))) ∧ (Below w.heap.size w w')) ?_ ?_
                        rotate_left
                        · intro hCont
                          refine two_ (i := 1) (j := 5) (Ni := some 33) (Nj := some 37) #[true, true, true, true, true, false, false, false] #[true, false, true, true, true, true, false, false] rfl rfl rfl rfl (two_of HT_.out (by kernel_rfl)) (by decide) (by decide) (fun K hK => ?_) (fun K hK => ?_)
                          · skip
                            refine goes_ Try.func68 (by kernel_rfl) rfl #[.slice A0 l0.length c0] (by rfl) rfl rfl (by (try simp only [List.map_toArray, List.map_cons, List.map_nil]); first | done | rfl | (simp only [List.length_drop, List.length_take]; rfl)) ?_
                            with_reducible refine (slices_Clone_impl_Play_impl_Play.calls _ _ l0 t631 _ ?side1 ?side2 A23.out).mono ?_
                            (case side1 => repeat (first | exact (Kd.C_below HR0.out HB.out) | (with_reducible refine Kd.C_alloc ?_ _) | (with_reducible refine Kd.C_drewN ?_ _) | (with_reducible refine Kd.C_drew ?_)))
                            (case side2 => exact HC0.out)
                            rintro e w29 ⟨v632, rfl, ho0, hb⟩
                            refine ⟨_, rfl, ?_⟩
                            have n0_ := Aside0.mk (Kd.R_elder' (by (with_reducible repeat (first | apply Kd.R_alloc | apply Kd.R_drewN | apply Kd.R_drew)); exact HO_7.out) (Kd.R_base ho0) hb)
                            have n1_ := Aside0.mk (Kd.R_below (by (with_reducible repeat (first | apply Kd.R_alloc | apply Kd.R_drewN | apply Kd.R_drew)); exact HO_19.out) hb)
                            have n2_ := Aside0.mk (Kd.R_below (by (with_reducible repeat (first | apply Kd.R_alloc | apply Kd.R_drewN | apply Kd.R_drew)); exact HO_623000.out) hb)
                            have n3_ := Aside0.mk (Kd.R_below (by (with_reducible repeat (first | apply Kd.R_alloc | apply Kd.R_drewN | apply Kd.R_drew)); exact HO_623001.out) hb)
                            have n4_ := Aside0.mk (Kd.R_lower (Kd.R_new' ho0 (Kd.R_lt (by (with_reducible repeat (first | apply Kd.R_alloc | apply Kd.R_drewN | apply Kd.R_drew)); exact HO_7.out))) (below_size (by repeat (first | (with_reducible first | exact HB.out | apply below_alloc | apply pw_below_drewN | apply below_drew1 | refine below_set ?_ GE622.out | refine below_set ?_ GE630.out) | exact HB.out))))
                            have n5_ := Aside0.mk (blk_below (g := gb622) (o := .cells #[.slice Ao7 t612.length co7, .slice Ao9 t615.length co9, .int .i64 t618, .bool t619, .bool t620] 70 (0, 0)) (by (with_reducible repeat (first | refine blk_drewN ?_ _ | refine blk_drew ?_ | refine blk_alloc ?_ _)); exact BK622.out) hb)
                            have n6_ := Aside0.mk (blk_below (g := gb630) (o := .cells #[.int .i64 ((rd_Tile t626 x21_1).f0), .int .i64 ((rd_Tile t626 x21_1).f1)] 51 (0, 0)) (by (with_reducible repeat (first | refine blk_drewN ?_ _ | refine blk_drew ?_ | refine blk_alloc ?_ _)); exact BK630.out) hb)
                            have n7_ := Aside0.mk (below_step (by repeat (first | (with_reducible first | exact HB.out | apply below_alloc | apply pw_below_drewN | apply below_drew1 | refine below_set ?_ GE622.out | refine below_set ?_ GE630.out) | exact HB.out)) hb)
                            clear HO_7
                            clear HO_19
                            clear HO_623000
                            clear HO_623001
                            clear BK622
                            clear BK630
                            clear HB
                            have HO_7 := n0_
                            have HO_19 := n1_
                            have HO_623000 := n2_
                            have HO_623001 := n3_
                            have HO633 := n4_
                            have BK622 := n5_
                            have BK630 := n6_
                            have HB := n7_
                            clear n0_ n1_ n2_ n3_ n4_ n5_ n6_ n7_
                            (try clear hb)
                            (try clear hb2)
                            (try clear hk)
                            (try clear hi)
                            (try clear ho0)
                            refine hK.out _ _ ⟨(blk_cell BK630.out 0).trans rfl, (blk_cell BK630.out 1).trans rfl⟩ (fun hHeld => ?_)
                            clear hK K
                            refine norm_ (a' := ?_) ?_ ?_
                            rotate_left
                            · show Act.put _ (some 33) _ = _
                              simp only [Act.put, List.setIfInBounds_toArray, List.set_cons_zero, List.set_cons_succ, i64_w, i32_w]
                              rfl
                            refine one_ (i := 5) (N := some 37) #[true, true, true, true, true, true, false, false] rfl rfl (one_of HT_.out (by kernel_rfl)) (by decide) (fun K hK => ?_)
                            refine Kd.R_lit_step k53 _ 53 ?hg (N := 37) ?hd (xs := ([(⟨(⟨((rd_Tile t626 x21_1).f0), ((rd_Tile t626 x21_1).f1)⟩ : S_Tile), x29_2⟩ : S_Play)] : List (S_Play))) (inner := [.int .i64 ((rd_Tile t626 x21_1).f0), .int .i64 ((rd_Tile t626 x21_1).f1), .int .i64 x29_2]) (ok := fun _ => True) (okp := fun _ => True) ?hr ?hp (fun _ hk => hk) trivial (Below.refl _ _) (Nat.le_refl _) (by simp) ?_; (case hd => rfl); (case hg => rfl); (case hr => first | (go_simp; done) | (go_simp; rfl)); (case hp => exact (Reps.c3 (show Kd.M k53 _ _ _ (⟨(⟨((rd_Tile t626 x21_1).f0), ((rd_Tile t626 x21_1).f1)⟩ : S_Tile), x29_2⟩ : S_Play) [.int .i64 ((rd_Tile t626 x21_1).f0), .int .i64 ((rd_Tile t626 x21_1).f1), .int .i64 x29_2] from (k53_mkM _ _ _ (⟨(⟨((rd_Tile t626 x21_1).f0), ((rd_Tile t626 x21_1).f1)⟩ : S_Tile), x29_2⟩ : S_Play) )) (Reps.none _ _)))
                            intro v635 w30 ho31 hb hg_ hnew_
                            clear hg_ hnew_
                            (first | rw [← Ny634.out] at ho31 | (simp only [Int.reduceToNat] at ho31; rw [← Ny634.out] at ho31))
                            have n0_ := Aside0.mk (Kd.R_elder' (by (with_reducible repeat (first | apply Kd.R_alloc | apply Kd.R_drewN | apply Kd.R_drew)); exact HO_7.out) (Kd.R_base ho31) hb)
                            have n1_ := Aside0.mk (Kd.R_below (by (with_reducible repeat (first | apply Kd.R_alloc | apply Kd.R_drewN | apply Kd.R_drew)); exact HO_19.out) hb)
                            have n2_ := Aside0.mk (Kd.R_below (by (with_reducible repeat (first | apply Kd.R_alloc | apply Kd.R_drewN | apply Kd.R_drew)); exact HO_623000.out) hb)
                            have n3_ := Aside0.mk (Kd.R_below (by (with_reducible repeat (first | apply Kd.R_alloc | apply Kd.R_drewN | apply Kd.R_drew)); exact HO_623001.out) hb)
                            have n4_ := Aside0.mk (Kd.R_elder' (by (with_reducible repeat (first | apply Kd.R_alloc | apply Kd.R_drewN | apply Kd.R_drew)); exact HO633.out) (Kd.R_base ho31) hb)
                            have n5_ := Aside0.mk (Kd.R_lower (Kd.R_new' (Kd.R_new' ho31 (Kd.R_lt (by (with_reducible repeat (first | apply Kd.R_alloc | apply Kd.R_drewN | apply Kd.R_drew)); exact HO_7.out))) (Kd.R_lt (by (with_reducible repeat (first | apply Kd.R_alloc | apply Kd.R_drewN | apply Kd.R_drew)); exact HO633.out))) (below_size (by repeat (first | (with_reducible first | exact HB.out | apply below_alloc | apply pw_below_drewN | apply below_drew1 | refine below_set ?_ GE622.out | refine below_set ?_ GE630.out) | exact HB.out))))
                            have n6_ := Aside0.mk (blk_below (g := gb622) (o := .cells #[.slice Ao7 t612.length co7, .slice Ao9 t615.length co9, .int .i64 t618, .bool t619, .bool t620] 70 (0, 0)) (by (with_reducible repeat (first | refine blk_drewN ?_ _ | refine blk_drew ?_ | refine blk_alloc ?_ _)); exact BK622.out) hb)
                            have n7_ := Aside0.mk (blk_below (g := gb630) (o := .cells #[.int .i64 ((rd_Tile t626 x21_1).f0), .int .i64 ((rd_Tile t626 x21_1).f1)] 51 (0, 0)) (by (with_reducible repeat (first | refine blk_drewN ?_ _ | refine blk_drew ?_ | refine blk_alloc ?_ _)); exact BK630.out) hb)
                            have n8_ := Aside0.mk (below_step (by repeat (first | (with_reducible first | exact HB.out | apply below_alloc | apply pw_below_drewN | apply below_drew1 | refine below_set ?_ GE622.out | refine below_set ?_ GE630.out) | exact HB.out)) hb)
                            clear HO_7
                            clear HO_19
                            clear HO_623000
                            clear HO_623001
                            clear HO633
                            clear BK622
                            clear BK630
                            clear HB
                            have HO_7 := n0_
                            have HO_19 := n1_
                            have HO_623000 := n2_
                            have HO_623001 := n3_
                            have HO633 := n4_
                            have HO636 := n5_
                            have BK622 := n6_
                            have BK630 := n7_
                            have HB := n8_
                            clear n0_ n1_ n2_ n3_ n4_ n5_ n6_ n7_ n8_
                            clear hb ho31
                            refine hK.out _ _ ⟨(blk_cell BK630.out 0).trans rfl, (blk_cell BK630.out 1).trans rfl⟩ (fun hHeld => ?_)
                            clear hK K
                            refine norm_ (a' := ?_) ?_ ?_
                            rotate_left
                            · show Act.put _ (some 37) _ = _
                              simp only [Act.put, List.setIfInBounds_toArray, List.set_cons_zero, List.set_cons_succ, i64_w, i32_w]
                              rfl
                            exact norm_ (by simp only [putAll, Act.put, List.setIfInBounds_toArray, List.set_cons_zero, List.set_cons_succ]) (hCont (v632, v635) _ ⟨hHeld, (by (with_reducible repeat (first | apply Kd.R_alloc | apply Kd.R_drewN | apply Kd.R_drew)); exact Kd.R_mono HO633.out (fun _ hk => ⟨hk.2, hk.1.2⟩)), (by (with_reducible repeat (first | apply Kd.R_alloc | apply Kd.R_drewN | apply Kd.R_drew)); exact Kd.R_mono HO636.out (fun _ hk => ⟨hk.2, hk.1.2⟩)), (by (with_reducible repeat (first | apply Kd.R_alloc | apply Kd.R_drewN | apply Kd.R_drew)); exact HO_19.out), (by (with_reducible repeat (first | apply Kd.R_alloc | apply Kd.R_drewN | apply Kd.R_drew)); exact HO_623000.out), (by (with_reducible repeat (first | apply Kd.R_alloc | apply Kd.R_drewN | apply Kd.R_drew)); exact HO_623001.out), (by (with_reducible repeat (first | apply Kd.R_alloc | apply Kd.R_drewN | apply Kd.R_drew)); exact Kd.R_mono HO_7.out (fun _ hk => ⟨hk.1.2, hk.2⟩)), (by (with_reducible repeat (first | refine blk_drewN ?_ _ | refine blk_drew ?_ | refine blk_alloc ?_ _)); exact BK622.out), (by (with_reducible repeat (first | refine blk_drewN ?_ _ | refine blk_drew ?_ | refine blk_alloc ?_ _)); exact BK630.out), (by repeat (first | (with_reducible first | exact HB.out | apply below_alloc | apply pw_below_drewN | apply below_drew1 | refine below_set ?_ GE622.out | refine below_set ?_ GE630.out) | exact HB.out))⟩)
                          · skip
                            refine Kd.R_lit_step k53 _ 53 ?hg (N := 37) ?hd (xs := ([(⟨(⟨((rd_Tile t626 x21_1).f0), ((rd_Tile t626 x21_1).f1)⟩ : S_Tile), x29_2⟩ : S_Play)] : List (S_Play))) (inner := [.int .i64 ((rd_Tile t626 x21_1).f0), .int .i64 ((rd_Tile t626 x21_1).f1), .int .i64 x29_2]) (ok := fun _ => True) (okp := fun _ => True) ?hr ?hp (fun _ hk => hk) trivial (Below.refl _ _) (Nat.le_refl _) (by simp) ?_; (case hd => rfl); (case hg => rfl); (case hr => first | (go_simp; done) | (go_simp; rfl)); (case hp => exact (Reps.c3 (show Kd.M k53 _ _ _ (⟨(⟨((rd_Tile t626 x21_1).f0), ((rd_Tile t626 x21_1).f1)⟩ : S_Tile), x29_2⟩ : S_Play) [.int .i64 ((rd_Tile t626 x21_1).f0), .int .i64 ((rd_Tile t626 x21_1).f1), .int .i64 x29_2] from (k53_mkM _ _ _ (⟨(⟨((rd_Tile t626 x21_1).f0), ((rd_Tile t626 x21_1).f1)⟩ : S_Tile), x29_2⟩ : S_Play) )) (Reps.none _ _)))
                            intro v635 w29 ho30 hb hg_ hnew_
                            clear hg_ hnew_
                            (first | rw [← Ny634.out] at ho30 | (simp only [Int.reduceToNat] at ho30; rw [← Ny634.out] at ho30))
                            have n0_ := Aside0.mk (Kd.R_elder' (by (with_reducible repeat (first | apply Kd.R_alloc | apply Kd.R_drewN | apply Kd.R_drew)); exact HO_7.out) (Kd.R_base ho30) hb)
                            have n1_ := Aside0.mk (Kd.R_below (by (with_reducible repeat (first | apply Kd.R_alloc | apply Kd.R_drewN | apply Kd.R_drew)); exact HO_19.out) hb)
                            have n2_ := Aside0.mk (Kd.R_below (by (with_reducible repeat (first | apply Kd.R_alloc | apply Kd.R_drewN | apply Kd.R_drew)); exact HO_623000.out) hb)
                            have n3_ := Aside0.mk (Kd.R_below (by (with_reducible repeat (first | apply Kd.R_alloc | apply Kd.R_drewN | apply Kd.R_drew)); exact HO_623001.out) hb)
                            have n4_ := Aside0.mk (Kd.R_lower (Kd.R_new' ho30 (Kd.R_lt (by (with_reducible repeat (first | apply Kd.R_alloc | apply Kd.R_drewN | apply Kd.R_drew)); exact HO_7.out))) (below_size (by repeat (first | (with_reducible first | exact HB.out | apply below_alloc | apply pw_below_drewN | apply below_drew1 | refine below_set ?_ GE622.out | refine below_set ?_ GE630.out) | exact HB.out))))
                            have n5_ := Aside0.mk (blk_below (g := gb622) (o := .cells #[.slice Ao7 t612.length co7, .slice Ao9 t615.length co9, .int .i64 t618, .bool t619, .bool t620] 70 (0, 0)) (by (with_reducible repeat (first | refine blk_drewN ?_ _ | refine blk_drew ?_ | refine blk_alloc ?_ _)); exact BK622.out) hb)
                            have n6_ := Aside0.mk (blk_below (g := gb630) (o := .cells #[.int .i64 ((rd_Tile t626 x21_1).f0), .int .i64 ((rd_Tile t626 x21_1).f1)] 51 (0, 0)) (by (with_reducible repeat (first | refine blk_drewN ?_ _ | refine blk_drew ?_ | refine blk_alloc ?_ _)); exact BK630.out) hb)
                            have n7_ := Aside0.mk (below_step (by repeat (first | (with_reducible first | exact HB.out | apply below_alloc | apply pw_below_drewN | apply below_drew1 | refine below_set ?_ GE622.out | refine below_set ?_ GE630.out) | exact HB.out)) hb)
                            clear HO_7
                            clear HO_19
                            clear HO_623000
                            clear HO_623001
                            clear BK622
                            clear BK630
                            clear HB
                            have HO_7 := n0_
                            have HO_19 := n1_
                            have HO_623000 := n2_
                            have HO_623001 := n3_
                            have HO636 := n4_
                            have BK622 := n5_
                            have BK630 := n6_
                            have HB := n7_
                            clear n0_ n1_ n2_ n3_ n4_ n5_ n6_ n7_
                            clear hb ho30
                            refine hK.out _ _ ⟨(blk_cell BK630.out 0).trans rfl, (blk_cell BK630.out 1).trans rfl⟩ (fun hHeld => ?_)
                            clear hK K
                            refine norm_ (a' := ?_) ?_ ?_
                            rotate_left
                            · show Act.put _ (some 37) _ = _
                              simp only [Act.put, List.setIfInBounds_toArray, List.set_cons_zero, List.set_cons_succ, i64_w, i32_w]
                              rfl
                            refine one_ (i := 1) (N := some 33) #[true, true, true, true, true, true, false, false] rfl rfl (one_of HT_.out (by kernel_rfl)) (by decide) (fun K hK => ?_)
                            refine goes_ Try.func68 (by kernel_rfl) rfl #[.slice A0 l0.length c0] (by rfl) rfl rfl (by (try simp only [List.map_toArray, List.map_cons, List.map_nil]); first | done | rfl | (simp only [List.length_drop, List.length_take]; rfl)) ?_
                            with_reducible refine (slices_Clone_impl_Play_impl_Play.calls _ _ l0 t631 _ ?side1 ?side2 A23.out).mono ?_
                            (case side1 => repeat (first | exact (Kd.C_below HR0.out HB.out) | (with_reducible refine Kd.C_alloc ?_ _) | (with_reducible refine Kd.C_drewN ?_ _) | (with_reducible refine Kd.C_drew ?_)))
                            (case side2 => exact HC0.out)
                            rintro e w31 ⟨v632, rfl, ho0, hb⟩
                            refine ⟨_, rfl, ?_⟩
                            have n0_ := Aside0.mk (Kd.R_elder' (by (with_reducible repeat (first | apply Kd.R_alloc | apply Kd.R_drewN | apply Kd.R_drew)); exact HO_7.out) (Kd.R_base ho0) hb)
                            have n1_ := Aside0.mk (Kd.R_below (by (with_reducible repeat (first | apply Kd.R_alloc | apply Kd.R_drewN | apply Kd.R_drew)); exact HO_19.out) hb)
                            have n2_ := Aside0.mk (Kd.R_below (by (with_reducible repeat (first | apply Kd.R_alloc | apply Kd.R_drewN | apply Kd.R_drew)); exact HO_623000.out) hb)
                            have n3_ := Aside0.mk (Kd.R_below (by (with_reducible repeat (first | apply Kd.R_alloc | apply Kd.R_drewN | apply Kd.R_drew)); exact HO_623001.out) hb)
                            have n4_ := Aside0.mk (Kd.R_elder' (by (with_reducible repeat (first | apply Kd.R_alloc | apply Kd.R_drewN | apply Kd.R_drew)); exact HO636.out) (Kd.R_base ho0) hb)
                            have n5_ := Aside0.mk (Kd.R_lower (Kd.R_new' (Kd.R_new' ho0 (Kd.R_lt (by (with_reducible repeat (first | apply Kd.R_alloc | apply Kd.R_drewN | apply Kd.R_drew)); exact HO_7.out))) (Kd.R_lt (by (with_reducible repeat (first | apply Kd.R_alloc | apply Kd.R_drewN | apply Kd.R_drew)); exact HO636.out))) (below_size (by repeat (first | (with_reducible first | exact HB.out | apply below_alloc | apply pw_below_drewN | apply below_drew1 | refine below_set ?_ GE622.out | refine below_set ?_ GE630.out) | exact HB.out))))
                            have n6_ := Aside0.mk (blk_below (g := gb622) (o := .cells #[.slice Ao7 t612.length co7, .slice Ao9 t615.length co9, .int .i64 t618, .bool t619, .bool t620] 70 (0, 0)) (by (with_reducible repeat (first | refine blk_drewN ?_ _ | refine blk_drew ?_ | refine blk_alloc ?_ _)); exact BK622.out) hb)
                            have n7_ := Aside0.mk (blk_below (g := gb630) (o := .cells #[.int .i64 ((rd_Tile t626 x21_1).f0), .int .i64 ((rd_Tile t626 x21_1).f1)] 51 (0, 0)) (by (with_reducible repeat (first | refine blk_drewN ?_ _ | refine blk_drew ?_ | refine blk_alloc ?_ _)); exact BK630.out) hb)
                            have n8_ := Aside0.mk (below_step (by repeat (first | (with_reducible first | exact HB.out | apply below_alloc | apply pw_below_drewN | apply below_drew1 | refine below_set ?_ GE622.out | refine below_set ?_ GE630.out) | exact HB.out)) hb)
                            clear HO_7
                            clear HO_19
                            clear HO_623000
                            clear HO_623001
                            clear HO636
                            clear BK622
                            clear BK630
                            clear HB
                            have HO_7 := n0_
                            have HO_19 := n1_
                            have HO_623000 := n2_
                            have HO_623001 := n3_
                            have HO636 := n4_
                            have HO633 := n5_
                            have BK622 := n6_
                            have BK630 := n7_
                            have HB := n8_
                            clear n0_ n1_ n2_ n3_ n4_ n5_ n6_ n7_ n8_
                            (try clear hb)
                            (try clear hb2)
                            (try clear hk)
                            (try clear hi)
                            (try clear ho0)
                            refine hK.out _ _ ⟨(blk_cell BK630.out 0).trans rfl, (blk_cell BK630.out 1).trans rfl⟩ (fun hHeld => ?_)
                            clear hK K
                            refine norm_ (a' := ?_) ?_ ?_
                            rotate_left
                            · show Act.put _ (some 33) _ = _
                              simp only [Act.put, List.setIfInBounds_toArray, List.set_cons_zero, List.set_cons_succ, i64_w, i32_w]
                              rfl
                            exact norm_ (by simp only [putAll, Act.put, List.setIfInBounds_toArray, List.set_cons_zero, List.set_cons_succ]) (hCont (v632, v635) _ ⟨hHeld, (by (with_reducible repeat (first | apply Kd.R_alloc | apply Kd.R_drewN | apply Kd.R_drew)); exact Kd.R_mono HO633.out (fun _ hk => ⟨hk.2, hk.1.2⟩)), (by (with_reducible repeat (first | apply Kd.R_alloc | apply Kd.R_drewN | apply Kd.R_drew)); exact Kd.R_mono HO636.out (fun _ hk => ⟨hk.2, hk.1.2⟩)), (by (with_reducible repeat (first | apply Kd.R_alloc | apply Kd.R_drewN | apply Kd.R_drew)); exact HO_19.out), (by (with_reducible repeat (first | apply Kd.R_alloc | apply Kd.R_drewN | apply Kd.R_drew)); exact HO_623000.out), (by (with_reducible repeat (first | apply Kd.R_alloc | apply Kd.R_drewN | apply Kd.R_drew)); exact HO_623001.out), (by (with_reducible repeat (first | apply Kd.R_alloc | apply Kd.R_drewN | apply Kd.R_drew)); exact Kd.R_mono HO_7.out (fun _ hk => ⟨hk.2, hk.1.2⟩)), (by (with_reducible repeat (first | refine blk_drewN ?_ _ | refine blk_drew ?_ | refine blk_alloc ?_ _)); exact BK622.out), (by (with_reducible repeat (first | refine blk_drewN ?_ _ | refine blk_drew ?_ | refine blk_alloc ?_ _)); exact BK630.out), (by repeat (first | (with_reducible first | exact HB.out | apply below_alloc | apply pw_below_drewN | apply below_drew1 | refine below_set ?_ GE622.out | refine below_set ?_ GE630.out) | exact HB.out))⟩)
                        rintro ⟨v632, v635⟩ w32 ⟨hS_, h0_, h1_, h2_, h3_, h4_, h5_, h6_, h7_, h8_⟩
                        have n0_ : Aside0 (Kd.R k53 53 w32 w.heap.size (fun k_ => some k_ ≠ (v635 : Value).ownBlock ∧ some k_ ≠ (u7 : Value).ownBlock) v632 t631) := ⟨h0_⟩
                        have n1_ : Aside0 (Kd.R k53 53 w32 w.heap.size (fun k_ => some k_ ≠ (v632 : Value).ownBlock ∧ some k_ ≠ (u7 : Value).ownBlock) v635 y634) := ⟨h1_⟩
                        have n2_ : Aside0 (Kd.R k51 51 w32 w.heap.size (fun k_ => some k_ ≠ (.slice Ao9 t615.length co9 : Value).ownBlock ∧ k_ ≠ gb630) (.slice (some ad629) t626.length co13) t626) := ⟨h2_⟩
                        have n3_ : Aside0 (Kd.R k85 85 w32 w.heap.size (fun _ => True) (.slice Ao7 t612.length co7) t612) := ⟨h3_⟩
                        have n4_ : Aside0 (Kd.R k51 51 w32 w.heap.size (fun k_ => some k_ ≠ (.slice (some ad629) t626.length co13 : Value).ownBlock ∧ k_ ≠ gb630) (.slice Ao9 t615.length co9) t615) := ⟨h4_⟩
                        have n5_ : Aside0 (Kd.R k53 53 w32 w.heap.size (fun k_ => some k_ ≠ (v632 : Value).ownBlock ∧ some k_ ≠ (v635 : Value).ownBlock) u7 x7_2) := ⟨h5_⟩
                        have n6_ : Aside0 (w32.heap[gb622]? = some (.cells #[.slice Ao7 t612.length co7, .slice Ao9 t615.length co9, .int .i64 t618, .bool t619, .bool t620] 70 (0, 0))) := ⟨h6_⟩
                        have n7_ : Aside0 (w32.heap[gb630]? = some (.cells #[.int .i64 ((rd_Tile t626 x21_1).f0), .int .i64 ((rd_Tile t626 x21_1).f1)] 51 (0, 0))) := ⟨h7_⟩
                        have n8_ : Aside0 (Below w.heap.size w w32) := ⟨h8_⟩
                        clear HO_7
                        clear HO_19
                        clear HO_623000
                        clear HO_623001
                        clear BK622
                        clear BK630
                        clear HB
                        clear h0_ h1_ h2_ h3_ h4_ h5_ h6_ h7_ h8_
                        have HO633 := n0_
                        have HO636 := n1_
                        have HO_19 := n2_
                        have HO_623000 := n3_
                        have HO_623001 := n4_
                        have HO_7 := n5_
                        have BK622 := n6_
                        have BK630 := n7_
                        have HB := n8_
                        clear n0_ n1_ n2_ n3_ n4_ n5_ n6_ n7_ n8_
                        have hHeld : w32.cell? ⟨gb630, 0, none⟩ = some (.int .i64 ((rd_Tile t626 x21_1).f0)) ∧ w32.cell? ⟨gb630, 1, none⟩ = some (.int .i64 ((rd_Tile t626 x21_1).f1)) := hS_
                        obtain ⟨Ao34, co34, eo34⟩ := Kd.R_slice HO636.out
                        (first | subst eo34 | (injection eo34 with f1_ f2_ f3_; have f4_ := f1_.symm; have f5_ := f3_.symm; clear f1_ f2_ f3_; subst f4_; subst f5_))
                        refine norm_ (a' := ?_) ?_ ?_
                        rotate_left
                        · simp only [putAll, Act.put, List.setIfInBounds_toArray, List.set_cons_zero, List.set_cons_succ]
                          rfl
                        refine one_ (i := 6) (N := some 38) #[true, true, true, true, true, true, true, false] rfl rfl (one_of HT_.out (by kernel_rfl)) (by decide) (fun K hK => ?_)
                        refine Kd.R_append_rows_step k53 (w0 := w) w.heap.size (by rfl) (.tmp 33) (.tmp 37) 26 53 (.agg #[(.int .i64 0), (.int .i64 0), (.int .i64 0)]) 24 rfl Try.underlying26 info53 rfl (by decide) (by omega) v632 t631 y634 _ _ _ (fun k_ => some k_ ≠ (u7 : Value).ownBlock ∧ some k_ ≠ (.slice Ao34 y634.length co34 : Value).ownBlock) (fun _ => False) rfl rfl ?aO ?aR (fun _ _ h => h) (fun _ h => h.elim) ?aF ?aB ?aS ?aL ?_
                        (case aR => repeat (first | exact (Kd.R_reads' HO636.out).2.2 | (with_reducible refine Kd.C_alloc ?_ _) | (with_reducible refine Kd.C_drewN ?_ _) | (with_reducible refine Kd.C_drew ?_)))
                        (case aB => exact (by repeat (first | (with_reducible first | exact HB.out | apply below_alloc | apply pw_below_drewN | apply below_drew1 | refine below_set ?_ GE622.out | refine below_set ?_ GE630.out) | exact HB.out)))
                        (case aF => exact (fun k_ hk => ⟨Kd.fresh' (Kd.R_lt (by (with_reducible repeat (first | apply Kd.R_alloc | apply Kd.R_drewN | apply Kd.R_drew)); exact HO_7.out)) k_ hk, Kd.fresh' (Kd.R_lt (by (with_reducible repeat (first | apply Kd.R_alloc | apply Kd.R_drewN | apply Kd.R_drew)); exact HO636.out)) k_ hk⟩))
                        (case aO => exact (by (with_reducible repeat (first | apply Kd.R_alloc | apply Kd.R_drewN | apply Kd.R_drew)); exact Kd.R_mono HO633.out (fun _ hk => ⟨hk.2, hk.1⟩)))
                        (case aS => exact (below_size (by repeat (first | (with_reducible first | exact HB.out | apply below_alloc | apply pw_below_drewN | apply below_drew1 | refine below_set ?_ GE622.out | refine below_set ?_ GE630.out) | exact HB.out))))
                        (case aL => have := LMc24.out; omega)
                        intro v638 w33 ho hb hg hat
                        rw [← Ny637.out] at ho
                        have n0_ := Aside0.mk (Kd.R_after (ok := (fun k_ => some k_ ≠ (.slice Ao34 y634.length co34 : Value).ownBlock)) (by (with_reducible repeat (first | apply Kd.R_alloc | apply Kd.R_drewN | apply Kd.R_drew)); exact Kd.R_mono HO_7.out (fun _ hk => ⟨hk.2, hk.1⟩)) hg hat)
                        have n1_ := Aside0.mk (Kd.R_over' (by (with_reducible repeat (first | apply Kd.R_alloc | apply Kd.R_drewN | apply Kd.R_drew)); exact HO_19.out) (Kd.R_typed (by (with_reducible repeat (first | apply Kd.R_alloc | apply Kd.R_drewN | apply Kd.R_drew)); exact HO633.out)) (by decide) hg)
                        have n2_ := Aside0.mk (Kd.R_over' (by (with_reducible repeat (first | apply Kd.R_alloc | apply Kd.R_drewN | apply Kd.R_drew)); exact HO_623000.out) (Kd.R_typed (by (with_reducible repeat (first | apply Kd.R_alloc | apply Kd.R_drewN | apply Kd.R_drew)); exact HO633.out)) (by decide) hg)
                        have n3_ := Aside0.mk (Kd.R_over' (by (with_reducible repeat (first | apply Kd.R_alloc | apply Kd.R_drewN | apply Kd.R_drew)); exact HO_623001.out) (Kd.R_typed (by (with_reducible repeat (first | apply Kd.R_alloc | apply Kd.R_drewN | apply Kd.R_drew)); exact HO633.out)) (by decide) hg)
                        have n4_ := Aside0.mk (blk_grown (g := gb622) (o := .cells #[.slice Ao7 t612.length co7, .slice Ao9 t615.length co9, .int .i64 t618, .bool t619, .bool t620] 70 (0, 0)) (by (with_reducible repeat (first | refine blk_drewN ?_ _ | refine blk_drew ?_ | refine blk_alloc ?_ _)); exact BK622.out) hg (Kd.R_ne HO633.out BK622.out (by decide)))
                        have n5_ := Aside0.mk (blk_grown (g := gb630) (o := .cells #[.int .i64 ((rd_Tile t626 x21_1).f0), .int .i64 ((rd_Tile t626 x21_1).f1)] 51 (0, 0)) (by (with_reducible repeat (first | refine blk_drewN ?_ _ | refine blk_drew ?_ | refine blk_alloc ?_ _)); exact BK630.out) hg (Kd.R_ne HO633.out BK630.out (by decide)))
                        have n6_ := Aside0.mk (Kd.R_after (ok := (fun k_ => some k_ ≠ (u7 : Value).ownBlock)) (by (with_reducible repeat (first | apply Kd.R_alloc | apply Kd.R_drewN | apply Kd.R_drew)); exact Kd.R_mono HO636.out (fun _ hk => ⟨hk.2, hk.1⟩)) hg hat)
                        have n7_ := Aside0.mk (hb)
                        have n8_ := Aside0.mk (ho)
                        clear HO_7
                        clear HO_19
                        clear HO_623000
                        clear HO_623001
                        clear BK622
                        clear BK630
                        clear HO636
                        clear HB
                        clear HO633
                        have HO_7 := n0_
                        have HO_19 := n1_
                        have HO_623000 := n2_
                        have HO_623001 := n3_
                        have BK622 := n4_
                        have BK630 := n5_
                        have HO636 := n6_
                        have HB := n7_
                        have HO639 := n8_
                        clear n0_ n1_ n2_ n3_ n4_ n5_ n6_ n7_ n8_
                        clear ho hb hg hat
                        refine hK.out _ _ ⟨(blk_cell BK630.out 0).trans rfl, (blk_cell BK630.out 1).trans rfl⟩ (fun hHeld => ?_)
                        clear hK K
                        refine norm_ (a' := ?_) ?_ ?_
                        rotate_left
                        · show Act.put _ (some 38) _ = _
                          simp only [Act.put, List.setIfInBounds_toArray, List.set_cons_zero, List.set_cons_succ, i64_w, i32_w]
                          rfl
                        refine pure_ (i := 7) (N := some 11) (v := ?_) (a' := ?_) #[true, true, true, true, true, true, true, true] rfl rfl (any_of HT_.out (by kernel_rfl)) (fun _ _ _ h => h) (Or.inl ⟨by rfl, ?_⟩) ?_ ?_
                        rotate_left
                        · intro w'
                          go_simp
                          with_reducible rfl
                        rotate_left
                        · simp only [Act.put, List.setIfInBounds_toArray, List.set_cons_zero, List.set_cons_succ, i64_w, i32_w]
                          rfl
                        refine done_ (done_of HT_.out (by kernel_rfl)) ?_
                        obtain ⟨Ao35, co35, eo35⟩ := Kd.R_slice HO639.out
                        subst eo35
                        try go_wp2_with (first | ((with_reducible refine gate_callee (f := 53) rfl ?_); refine goesL_ (some 40) rfl rfl Try.func53 (by kernel_rfl) rfl #[.slice Ao35 y637.length co35] rfl (by (try simp only [List.map_toArray, List.map_cons, List.map_nil]); first | done | rfl | (simp only [List.length_drop, List.length_take]; rfl)) ?_; (with_reducible refine (impl_IsSpread.calls _ _ y637 true _ ?side1 ?side2 A25.out).mono ?_); (case side1 => repeat (first | exact (Kd.R_reads' HO639.out).2.2 | (with_reducible refine Kd.C_alloc ?_ _) | (with_reducible refine Kd.C_drewN ?_ _) | (with_reducible refine Kd.C_drew ?_))); (case side2 => exact (Kd.R_reads' HO639.out).2.1); rintro e w36 ⟨rfl, hb⟩; refine ⟨_, rfl, ?_⟩; have n0_ := Aside0.mk (Kd.R_below (by (with_reducible repeat (first | apply Kd.R_alloc | apply Kd.R_drewN | apply Kd.R_drew)); exact HO_7.out) hb); have n1_ := Aside0.mk (Kd.R_below (by (with_reducible repeat (first | apply Kd.R_alloc | apply Kd.R_drewN | apply Kd.R_drew)); exact HO_19.out) hb); have n2_ := Aside0.mk (Kd.R_below (by (with_reducible repeat (first | apply Kd.R_alloc | apply Kd.R_drewN | apply Kd.R_drew)); exact HO_623000.out) hb); have n3_ := Aside0.mk (Kd.R_below (by (with_reducible repeat (first | apply Kd.R_alloc | apply Kd.R_drewN | apply Kd.R_drew)); exact HO_623001.out) hb); have n4_ := Aside0.mk (Kd.R_below (by (with_reducible repeat (first | apply Kd.R_alloc | apply Kd.R_drewN | apply Kd.R_drew)); exact HO636.out) hb); have n5_ := Aside0.mk (Kd.R_below (by (with_reducible repeat (first | apply Kd.R_alloc | apply Kd.R_drewN | apply Kd.R_drew)); exact HO639.out) hb); have n6_ := Aside0.mk (blk_below (g := gb622) (o := .cells #[.slice Ao7 t612.length co7, .slice Ao9 t615.length co9, .int .i64 t618, .bool t619, .bool t620] 70 (0, 0)) (by (with_reducible repeat (first | refine blk_drewN ?_ _ | refine blk_drew ?_ | refine blk_alloc ?_ _)); exact BK622.out) hb); have n7_ := Aside0.mk (blk_below (g := gb630) (o := .cells #[.int .i64 ((rd_Tile t626 x21_1).f0), .int .i64 ((rd_Tile t626 x21_1).f1)] 51 (0, 0)) (by (with_reducible repeat (first | refine blk_drewN ?_ _ | refine blk_drew ?_ | refine blk_alloc ?_ _)); exact BK630.out) hb); have n8_ := Aside0.mk (below_step (by repeat (first | (with_reducible first | exact HB.out | apply below_alloc | apply pw_below_drewN | apply below_drew1 | refine below_set ?_ GE622.out | refine below_set ?_ GE630.out) | exact HB.out)) hb); clear HO_7; clear HO_19; clear HO_623000; clear HO_623001; clear HO636; clear HO639; clear BK622; clear BK630; clear HB; have HO_7 := n0_; have HO_19 := n1_; have HO_623000 := n2_; have HO_623001 := n3_; have HO636 := n4_; have HO639 := n5_; have BK622 := n6_; have BK630 := n7_; have HB := n8_; clear n0_ n1_ n2_ n3_ n4_ n5_ n6_ n7_ n8_; (try clear hb); (try clear hb2); (try clear hk); (try clear hi); have hnb37 := NB630_622.out; have hnc37 := NB622_630.out; have hcz38_0 : w36.cell? ⟨gb630, 0, none⟩ = some (.int .i64 ((rd_Tile t626 x21_1).f0)) := (blk_cell BK630.out 0).trans rfl; have hcz38_1 : w36.cell? ⟨gb630, 1, none⟩ = some (.int .i64 ((rd_Tile t626 x21_1).f1)) := (blk_cell BK630.out 1).trans rfl; have hfz38_0 := blk_frozen BK630.out 0; have hfz38_1 := blk_frozen BK630.out 1) | ((with_reducible refine gate_dst (N := 45) rfl ?_); refine Kd.R_lit k53 _ 53 ?hg (N := 45) ?hd (xs := ([(⟨(⟨((rd_Tile t626 x21_1).f0), ((rd_Tile t626 x21_1).f1)⟩ : S_Tile), x29_2⟩ : S_Play)] : List (S_Play))) (inner := [.int .i64 ((rd_Tile t626 x21_1).f0), .int .i64 ((rd_Tile t626 x21_1).f1), .int .i64 x29_2]) (ok := fun _ => True) (okp := fun _ => True) ?hr ?hp (fun _ hk => hk) trivial (Below.refl _ _) (Nat.le_refl _) (by simp) ?_; (case hd => rfl); (case hg => rfl); (case hr => first | (go_simp; done) | (go_simp; rfl)); (case hp => exact (Reps.c3 (show Kd.M k53 _ _ _ (⟨(⟨((rd_Tile t626 x21_1).f0), ((rd_Tile t626 x21_1).f1)⟩ : S_Tile), x29_2⟩ : S_Play) [.int .i64 ((rd_Tile t626 x21_1).f0), .int .i64 ((rd_Tile t626 x21_1).f1), .int .i64 x29_2] from (k53_mkM _ _ _ (⟨(⟨((rd_Tile t626 x21_1).f0), ((rd_Tile t626 x21_1).f1)⟩ : S_Tile), x29_2⟩ : S_Play) )) (Reps.none _ _))); intro v642 w39 ho40 hb hg_ hnew_; clear hg_ hnew_; (first | rw [← Ny641.out] at ho40 | (simp only [Int.reduceToNat] at ho40; rw [← Ny641.out] at ho40)); have n0_ := Aside0.mk (Kd.R_elder' (by (with_reducible repeat (first | apply Kd.R_alloc | apply Kd.R_drewN | apply Kd.R_drew)); exact HO_7.out) (Kd.R_base ho40) hb); have n1_ := Aside0.mk (Kd.R_below (by (with_reducible repeat (first | apply Kd.R_alloc | apply Kd.R_drewN | apply Kd.R_drew)); exact HO_19.out) hb); have n2_ := Aside0.mk (Kd.R_below (by (with_reducible repeat (first | apply Kd.R_alloc | apply Kd.R_drewN | apply Kd.R_drew)); exact HO_623000.out) hb); have n3_ := Aside0.mk (Kd.R_below (by (with_reducible repeat (first | apply Kd.R_alloc | apply Kd.R_drewN | apply Kd.R_drew)); exact HO_623001.out) hb); have n4_ := Aside0.mk (Kd.R_elder' (by (with_reducible repeat (first | apply Kd.R_alloc | apply Kd.R_drewN | apply Kd.R_drew)); exact HO636.out) (Kd.R_base ho40) hb); have n5_ := Aside0.mk (Kd.R_elder' (by (with_reducible repeat (first | apply Kd.R_alloc | apply Kd.R_drewN | apply Kd.R_drew)); exact HO639.out) (Kd.R_base ho40) hb); have n6_ := Aside0.mk (Kd.R_lower (Kd.R_new' (Kd.R_new' (Kd.R_new' ho40 (Kd.R_lt (by (with_reducible repeat (first | apply Kd.R_alloc | apply Kd.R_drewN | apply Kd.R_drew)); exact HO_7.out))) (Kd.R_lt (by (with_reducible repeat (first | apply Kd.R_alloc | apply Kd.R_drewN | apply Kd.R_drew)); exact HO636.out))) (Kd.R_lt (by (with_reducible repeat (first | apply Kd.R_alloc | apply Kd.R_drewN | apply Kd.R_drew)); exact HO639.out))) (below_size (by repeat (first | (with_reducible first | exact HB.out | apply below_alloc | apply pw_below_drewN | apply below_drew1 | refine below_set ?_ GE622.out | refine below_set ?_ GE630.out) | exact HB.out)))); have n7_ := Aside0.mk (blk_below (g := gb622) (o := .cells #[.slice Ao7 t612.length co7, .slice Ao9 t615.length co9, .int .i64 t618, .bool t619, .bool t620] 70 (0, 0)) (by (with_reducible repeat (first | refine blk_drewN ?_ _ | refine blk_drew ?_ | refine blk_alloc ?_ _)); exact BK622.out) hb); have n8_ := Aside0.mk (blk_below (g := gb630) (o := .cells #[.int .i64 ((rd_Tile t626 x21_1).f0), .int .i64 ((rd_Tile t626 x21_1).f1)] 51 (0, 0)) (by (with_reducible repeat (first | refine blk_drewN ?_ _ | refine blk_drew ?_ | refine blk_alloc ?_ _)); exact BK630.out) hb); have n9_ := Aside0.mk (below_step (by repeat (first | (with_reducible first | exact HB.out | apply below_alloc | apply pw_below_drewN | apply below_drew1 | refine below_set ?_ GE622.out | refine below_set ?_ GE630.out) | exact HB.out)) hb); clear HO_7; clear HO_19; clear HO_623000; clear HO_623001; clear HO636; clear HO639; clear BK622; clear BK630; clear HB; have HO_7 := n0_; have HO_19 := n1_; have HO_623000 := n2_; have HO_623001 := n3_; have HO636 := n4_; have HO639 := n5_; have HO643 := n6_; have BK622 := n7_; have BK630 := n8_; have HB := n9_; clear n0_ n1_ n2_ n3_ n4_ n5_ n6_ n7_ n8_ n9_; clear hb ho40; obtain ⟨Ao42, co42, eo42⟩ := Kd.R_slice HO643.out; subst eo42) | ((with_reducible refine gate_builtin (b := .append) (xs := #[.tmp 41, .tmp 45]) rfl ?_); at_builtin; refine Kd.R_append_rows k53 (w0 := w) w.heap.size rfl (.tmp 41) (.tmp 45) 26 53 (.agg #[(.int .i64 0), (.int .i64 0), (.int .i64 0)]) 24 rfl Try.underlying26 info53 rfl (by decide) (by omega) u7 x7_2 y641 _ _ _ (fun k_ => some k_ ≠ (.slice Ao34 y634.length co34 : Value).ownBlock ∧ some k_ ≠ (.slice Ao35 y637.length co35 : Value).ownBlock ∧ some k_ ≠ (.slice Ao42 y641.length co42 : Value).ownBlock) (fun _ => False) rfl rfl ?aO ?aR (fun _ _ h => h) (fun _ h => h.elim) ?aF ?aB ?aS ?aL ?_; (case aR => repeat (first | exact (Kd.R_reads' HO643.out).2.2 | (with_reducible refine Kd.C_alloc ?_ _) | (with_reducible refine Kd.C_drewN ?_ _) | (with_reducible refine Kd.C_drew ?_))); (case aB => exact (by repeat (first | (with_reducible first | exact HB.out | apply below_alloc | apply pw_below_drewN | apply below_drew1 | refine below_set ?_ GE622.out | refine below_set ?_ GE630.out) | exact HB.out))); (case aF => exact (fun k_ hk => ⟨Kd.fresh' (Kd.R_lt (by (with_reducible repeat (first | apply Kd.R_alloc | apply Kd.R_drewN | apply Kd.R_drew)); exact HO636.out)) k_ hk, Kd.fresh' (Kd.R_lt (by (with_reducible repeat (first | apply Kd.R_alloc | apply Kd.R_drewN | apply Kd.R_drew)); exact HO639.out)) k_ hk, Kd.fresh' (Kd.R_lt (by (with_reducible repeat (first | apply Kd.R_alloc | apply Kd.R_drewN | apply Kd.R_drew)); exact HO643.out)) k_ hk⟩)); (case aO => exact (by (with_reducible repeat (first | apply Kd.R_alloc | apply Kd.R_drewN | apply Kd.R_drew)); exact Kd.R_mono HO_7.out (fun _ hk => ⟨hk.1.1, ⟨hk.1.2, hk.2⟩⟩))); (case aS => exact (below_size (by repeat (first | (with_reducible first | exact HB.out | apply below_alloc | apply pw_below_drewN | apply below_drew1 | refine below_set ?_ GE622.out | refine below_set ?_ GE630.out) | exact HB.out)))); (case aL => have := LMc27.out; omega); intro v645 w41 ho hb hg hat; rw [← Ny644.out] at ho; have n0_ := Aside0.mk (Kd.R_over' (by (with_reducible repeat (first | apply Kd.R_alloc | apply Kd.R_drewN | apply Kd.R_drew)); exact HO_19.out) (Kd.R_typed (by (with_reducible repeat (first | apply Kd.R_alloc | apply Kd.R_drewN | apply Kd.R_drew)); exact HO_7.out)) (by decide) hg); have n1_ := Aside0.mk (Kd.R_over' (by (with_reducible repeat (first | apply Kd.R_alloc | apply Kd.R_drewN | apply Kd.R_drew)); exact HO_623000.out) (Kd.R_typed (by (with_reducible repeat (first | apply Kd.R_alloc | apply Kd.R_drewN | apply Kd.R_drew)); exact HO_7.out)) (by decide) hg); have n2_ := Aside0.mk (Kd.R_over' (by (with_reducible repeat (first | apply Kd.R_alloc | apply Kd.R_drewN | apply Kd.R_drew)); exact HO_623001.out) (Kd.R_typed (by (with_reducible repeat (first | apply Kd.R_alloc | apply Kd.R_drewN | apply Kd.R_drew)); exact HO_7.out)) (by decide) hg); have n3_ := Aside0.mk (blk_grown (g := gb622) (o := .cells #[.slice Ao7 t612.length co7, .slice Ao9 t615.length co9, .int .i64 t618, .bool t619, .bool t620] 70 (0, 0)) (by (with_reducible repeat (first | refine blk_drewN ?_ _ | refine blk_drew ?_ | refine blk_alloc ?_ _)); exact BK622.out) hg (Kd.R_ne HO_7.out BK622.out (by decide))); have n4_ := Aside0.mk (blk_grown (g := gb630) (o := .cells #[.int .i64 ((rd_Tile t626 x21_1).f0), .int .i64 ((rd_Tile t626 x21_1).f1)] 51 (0, 0)) (by (with_reducible repeat (first | refine blk_drewN ?_ _ | refine blk_drew ?_ | refine blk_alloc ?_ _)); exact BK630.out) hg (Kd.R_ne HO_7.out BK630.out (by decide))); have n5_ := Aside0.mk (Kd.R_after (ok := (fun k_ => some k_ ≠ (.slice Ao35 y637.length co35 : Value).ownBlock ∧ some k_ ≠ (.slice Ao42 y641.length co42 : Value).ownBlock)) (by (with_reducible repeat (first | apply Kd.R_alloc | apply Kd.R_drewN | apply Kd.R_drew)); exact Kd.R_mono HO636.out (fun _ hk => ⟨⟨hk.1.2, hk.2⟩, hk.1.1⟩)) hg hat); have n6_ := Aside0.mk (Kd.R_after (ok := (fun k_ => some k_ ≠ (.slice Ao34 y634.length co34 : Value).ownBlock ∧ some k_ ≠ (.slice Ao42 y641.length co42 : Value).ownBlock)) (by (with_reducible repeat (first | apply Kd.R_alloc | apply Kd.R_drewN | apply Kd.R_drew)); exact Kd.R_mono HO639.out (fun _ hk => ⟨⟨hk.1.2, hk.2⟩, hk.1.1⟩)) hg hat); have n7_ := Aside0.mk (Kd.R_after (ok := (fun k_ => some k_ ≠ (.slice Ao34 y634.length co34 : Value).ownBlock ∧ some k_ ≠ (.slice Ao35 y637.length co35 : Value).ownBlock)) (by (with_reducible repeat (first | apply Kd.R_alloc | apply Kd.R_drewN | apply Kd.R_drew)); exact Kd.R_mono HO643.out (fun _ hk => ⟨⟨hk.1.2, hk.2⟩, hk.1.1.2⟩)) hg hat); have n8_ := Aside0.mk (hb); have n9_ := Aside0.mk (ho); clear HO_19; clear HO_623000; clear HO_623001; clear BK622; clear BK630; clear HO636; clear HO639; clear HO643; clear HB; clear HO_7; have HO_19 := n0_; have HO_623000 := n1_; have HO_623001 := n2_; have BK622 := n3_; have BK630 := n4_; have HO636 := n5_; have HO639 := n6_; have HO643 := n7_; have HB := n8_; have HO646 := n9_; clear n0_ n1_ n2_ n3_ n4_ n5_ n6_ n7_ n8_ n9_; clear ho hb hg hat))
                        go_roundg k2
                        case measure => have := HK1.out; have := HK2.out; omega
                        case rel => exact ⟨(y644), (wrap64 (x29_2 + 1)), (by first | rfl | (simp; done) | (simp [*]; done)), H', ⟨by have := HK1.out; have := HK2.out; omega⟩, ⟨by (with_reducible repeat (first | apply Kd.R_alloc | apply Kd.R_drewN | apply Kd.R_drew)); exact Kd.R_mono HO646.out (fun _ hk => trivial)⟩, ⟨by (with_reducible repeat (first | apply Kd.R_alloc | apply Kd.R_drewN | apply Kd.R_drew)); exact HO_19.out⟩, ⟨by (with_reducible repeat (first | apply Kd.R_alloc | apply Kd.R_drewN | apply Kd.R_drew)); exact HO_623000.out⟩, ⟨by (with_reducible repeat (first | apply Kd.R_alloc | apply Kd.R_drewN | apply Kd.R_drew)); exact HO_623001.out⟩, ⟨by (with_reducible repeat (first | refine blk_drewN ?_ _ | refine blk_drew ?_ | refine blk_alloc ?_ _)); exact BK622.out⟩, ⟨by (with_reducible repeat (first | refine blk_drewN ?_ _ | refine blk_drew ?_ | refine blk_alloc ?_ _)); exact BK630.out⟩, ⟨by repeat (first | (with_reducible first | exact HB.out | apply below_alloc | apply pw_below_drewN | apply below_drew1 | refine below_set ?_ GE622.out | refine below_set ?_ GE630.out) | exact HB.out)⟩⟩
                      · rw [if_neg c27] at H
                        exact absurd H (by simp)
                    · replace c26 := Bool.eq_false_iff.mpr c26
                      subst c26
                      have H1 : (impl_playsFor.l1 k2 l0 x7_2 t626 (t626.length : Int) x21_1 ji17 (wrap64 (x29_2 + 1)) t612 t615 t618 t619 t620 ((rd_Tile t626 x21_1).f0) ((rd_Tile t626 x21_1).f1)) = some r := by rw [if_neg (show ¬ (false = true) by decide)] at H; exact H
                      clear H
                      have H := H1
                      clear H1
                      have H' := Aside0.mk H
                      clear H
                      try go_wp2
                      have n0_ := Aside0.mk (Kd.R_drew HO_7.out)
                      have n1_ := Aside0.mk (Kd.R_drew HO_19.out)
                      have n2_ := Aside0.mk (Kd.R_drew HO_623000.out)
                      have n3_ := Aside0.mk (Kd.R_drew HO_623001.out)
                      have n4_ := Aside0.mk (blk_drew BK622.out)
                      have n5_ := Aside0.mk (blk_drew BK630.out)
                      have n6_ := Aside0.mk (below_drew1 HB.out)
                      clear HO_7
                      clear HO_19
                      clear HO_623000
                      clear HO_623001
                      clear BK622
                      clear BK630
                      clear HB
                      have HO_7 := n0_
                      have HO_19 := n1_
                      have HO_623000 := n2_
                      have HO_623001 := n3_
                      have BK622 := n4_
                      have BK630 := n5_
                      have HB := n6_
                      clear n0_ n1_ n2_ n3_ n4_ n5_ n6_
                      refine start_ (n := 8) (S := fun w' => w'.cell? ⟨gb630, 0, none⟩ = some (.int .i64 ((rd_Tile t626 x21_1).f0)) ∧ w'.cell? ⟨gb630, 1, none⟩ = some (.int .i64 ((rd_Tile t626 x21_1).f1))) (ds := []) #[false, false, false, false, false, false, false, false] (by kernel_rfl) rfl rfl ⟨(blk_cell BK630.out 0).trans rfl, (blk_cell BK630.out 1).trans rfl⟩ (fun hHeld => ?_); refine with_tabW impl_playsFor.tab9 impl_playsFor.bits9 (fun HT_ HW_ => ?_)
                      generalize wr.drew = w43 at HO_7 HO_19 HO_623000 HO_623001 BK622 BK630 HB hHeld ⊢
                      refine pure_ (i := 0) (N := some 32) (v := ?_) (a' := ?_) #[true, false, false, false, false, false, false, false] rfl rfl (any_of HT_.out (by kernel_rfl)) (fun _ _ _ h => h) (Or.inl ⟨by rfl, ?_⟩) ?_ ?_
                      rotate_left
                      · intro w'
                        go_simp
                        with_reducible rfl
                      rotate_left
                      · simp only [Act.put, List.setIfInBounds_toArray, List.set_cons_zero, List.set_cons_succ, i64_w, i32_w]
                        rfl
                      refine pure_ (i := 3) (N := some 35) (v := ?_) (a' := ?_) #[true, false, false, true, false, false, false, false] rfl rfl (any_of HT_.out (by kernel_rfl)) (fun _ _ _ h => h) (Or.inl ⟨by rfl, ?_⟩) ?_ ?_
                      rotate_left
                      · intro w'
                        go_simp
                        with_reducible rfl
                      rotate_left
                      · simp only [Act.put, List.setIfInBounds_toArray, List.set_cons_zero, List.set_cons_succ, i64_w, i32_w]
                        rfl
                      refine take_ (i := 2) (N := some 34) (v := ?_) (a' := ?_) #[true, false, true, true, false, false, false, false] rfl rfl (take_ofW HT_.out HW_.out (by kernel_rfl)) (fun _ _ _ h => h) (Or.inl ⟨by rfl, ?_⟩) hHeld ?_ ?_
                      rotate_left
                      · rintro w' ⟨s0, s1⟩
                        go_simp
                        with_reducible rfl
                      rotate_left
                      · simp only [Act.put, List.setIfInBounds_toArray, List.set_cons_zero, List.set_cons_succ, i64_w, i32_w]
                        rfl
                      refine pure_ (i := 4) (N := some 36) (v := ?_) (a' := ?_) #[true, false, true, true, true, false, false, false] rfl rfl (any_of HT_.out (by kernel_rfl)) (fun _ _ _ h => h) (Or.inl ⟨by rfl, ?_⟩) ?_ ?_
                      rotate_left
                      · intro w'
                        go_simp
                        with_reducible rfl
                      rotate_left
                      · simp only [Act.put, List.setIfInBounds_toArray, List.set_cons_zero, List.set_cons_succ, i64_w, i32_w]
                        rfl
                      refine join_ (σ := Value × Value) 2 #[true, true, true, true, true, true, false, false] (fun s_ => [(33, s_.1), (37, s_.2)]) (fun s_ w' => (w'.cell? ⟨gb630, 0, none⟩ = some (.int .i64 ((rd_Tile t626 x21_1).f0)) ∧ w'.cell? ⟨gb630, 1, none⟩ = some (.int .i64 ((rd_Tile t626 x21_1).f1))) ∧ (Kd.R k53 53 w' w.heap.size (fun k_ => some k_ ≠ (s_.2 : Value).ownBlock ∧ some k_ ≠ (u7 : Value).ownBlock) s_.1 t631) ∧ (Kd.R k53 53 w' w.heap.size (fun k_ => some k_ ≠ (s_.1 : Value).ownBlock ∧ some k_ ≠ (u7 : Value).ownBlock) s_.2 y634) ∧ (Kd.R k51 51 w' w.heap.size (fun k_ => some k_ ≠ (.slice Ao9 t615.length co9 : Value).ownBlock ∧ k_ ≠ gb630) (.slice (some ad629) t626.length co13) t626) ∧ (Kd.R k85 85 w' w.heap.size (fun _ => True) (.slice Ao7 t612.length co7) t612) ∧ (Kd.R k51 51 w' w.heap.size (fun k_ => some k_ ≠ (.slice (some ad629) t626.length co13 : Value).ownBlock ∧ k_ ≠ gb630) (.slice Ao9 t615.length co9) t615) ∧ (Kd.R k53 53 w' w.heap.size (fun k_ => some k_ ≠ (s_.1 : Value).ownBlock ∧ some k_ ≠ (s_.2 : Value).ownBlock) u7 x7_2) ∧ (w'.heap[gb622]? = some (.cells #[.slice Ao7 t612.length co7, .slice Ao9 t615.length co9, .int .i64 t618, .bool t619, .bool t620] 70 (0, 0))) ∧ (w'.heap[gb630]? = some (.cells #[.int .i64 ((rd_Tile t626 x21_1).f0), .int .i64 ((rd_Tile t626 x21_1).f1)] 51 (0, 0))) ∧ (Below w.heap.size w w')) ?_ ?_
                      rotate_left
                      · intro hCont
                        refine two_ (i := 1) (j := 5) (Ni := some 33) (Nj := some 37) #[true, true, true, true, true, false, false, false] #[true, false, true, true, true, true, false, false] rfl rfl rfl rfl (two_of HT_.out (by kernel_rfl)) (by decide) (by decide) (fun K hK => ?_) (fun K hK => ?_)
                        · skip
                          refine goes_ Try.func68 (by kernel_rfl) rfl #[.slice A0 l0.length c0] (by rfl) rfl rfl (by (try simp only [List.map_toArray, List.map_cons, List.map_nil]); first | done | rfl | (simp only [List.length_drop, List.length_take]; rfl)) ?_
                          with_reducible refine (slices_Clone_impl_Play_impl_Play.calls _ _ l0 t631 _ ?side1 ?side2 A23.out).mono ?_
                          (case side1 => repeat (first | exact (Kd.C_below HR0.out HB.out) | (with_reducible refine Kd.C_alloc ?_ _) | (with_reducible refine Kd.C_drewN ?_ _) | (with_reducible refine Kd.C_drew ?_)))
                          (case side2 => exact HC0.out)
                          rintro e w44 ⟨v632, rfl, ho0, hb⟩
                          refine ⟨_, rfl, ?_⟩
                          have n0_ := Aside0.mk (Kd.R_elder' (by (with_reducible repeat (first | apply Kd.R_alloc | apply Kd.R_drewN | apply Kd.R_drew)); exact HO_7.out) (Kd.R_base ho0) hb)
                          have n1_ := Aside0.mk (Kd.R_below (by (with_reducible repeat (first | apply Kd.R_alloc | apply Kd.R_drewN | apply Kd.R_drew)); exact HO_19.out) hb)
                          have n2_ := Aside0.mk (Kd.R_below (by (with_reducible repeat (first | apply Kd.R_alloc | apply Kd.R_drewN | apply Kd.R_drew)); exact HO_623000.out) hb)
                          have n3_ := Aside0.mk (Kd.R_below (by (with_reducible repeat (first | apply Kd.R_alloc | apply Kd.R_drewN | apply Kd.R_drew)); exact HO_623001.out) hb)
                          have n4_ := Aside0.mk (Kd.R_lower (Kd.R_new' ho0 (Kd.R_lt (by (with_reducible repeat (first | apply Kd.R_alloc | apply Kd.R_drewN | apply Kd.R_drew)); exact HO_7.out))) (below_size (by repeat (first | (with_reducible first | exact HB.out | apply below_alloc | apply pw_below_drewN | apply below_drew1 | refine below_set ?_ GE622.out | refine below_set ?_ GE630.out) | exact HB.out))))
                          have n5_ := Aside0.mk (blk_below (g := gb622) (o := .cells #[.slice Ao7 t612.length co7, .slice Ao9 t615.length co9, .int .i64 t618, .bool t619, .bool t620] 70 (0, 0)) (by (with_reducible repeat (first | refine blk_drewN ?_ _ | refine blk_drew ?_ | refine blk_alloc ?_ _)); exact BK622.out) hb)
                          have n6_ := Aside0.mk (blk_below (g := gb630) (o := .cells #[.int .i64 ((rd_Tile t626 x21_1).f0), .int .i64 ((rd_Tile t626 x21_1).f1)] 51 (0, 0)) (by (with_reducible repeat (first | refine blk_drewN ?_ _ | refine blk_drew ?_ | refine blk_alloc ?_ _)); exact BK630.out) hb)
                          have n7_ := Aside0.mk (below_step (by repeat (first | (with_reducible first | exact HB.out | apply below_alloc | apply pw_below_drewN | apply below_drew1 | refine below_set ?_ GE622.out | refine below_set ?_ GE630.out) | exact HB.out)) hb)
                          clear HO_7
                          clear HO_19
                          clear HO_623000
                          clear HO_623001
                          clear BK622
                          clear BK630
                          clear HB
                          have HO_7 := n0_
                          have HO_19 := n1_
                          have HO_623000 := n2_
                          have HO_623001 := n3_
                          have HO633 := n4_
                          have BK622 := n5_
                          have BK630 := n6_
                          have HB := n7_
                          clear n0_ n1_ n2_ n3_ n4_ n5_ n6_ n7_
                          (try clear hb)
                          (try clear hb2)
                          (try clear hk)
                          (try clear hi)
                          (try clear ho0)
                          refine hK.out _ _ ⟨(blk_cell BK630.out 0).trans rfl, (blk_cell BK630.out 1).trans rfl⟩ (fun hHeld => ?_)
                          clear hK K
                          refine norm_ (a' := ?_) ?_ ?_
                          rotate_left
                          · show Act.put _ (some 33) _ = _
                            simp only [Act.put, List.setIfInBounds_toArray, List.set_cons_zero, List.set_cons_succ, i64_w, i32_w]
                            rfl
                          refine one_ (i := 5) (N := some 37) #[true, true, true, true, true, true, false, false] rfl rfl (one_of HT_.out (by kernel_rfl)) (by decide) (fun K hK => ?_)
                          refine Kd.R_lit_step k53 _ 53 ?hg (N := 37) ?hd (xs := ([(⟨(⟨((rd_Tile t626 x21_1).f0), ((rd_Tile t626 x21_1).f1)⟩ : S_Tile), x29_2⟩ : S_Play)] : List (S_Play))) (inner := [.int .i64 ((rd_Tile t626 x21_1).f0), .int .i64 ((rd_Tile t626 x21_1).f1), .int .i64 x29_2]) (ok := fun _ => True) (okp := fun _ => True) ?hr ?hp (fun _ hk => hk) trivial (Below.refl _ _) (Nat.le_refl _) (by simp) ?_; (case hd => rfl); (case hg => rfl); (case hr => first | (go_simp; done) | (go_simp; rfl)); (case hp => exact (Reps.c3 (show Kd.M k53 _ _ _ (⟨(⟨((rd_Tile t626 x21_1).f0), ((rd_Tile t626 x21_1).f1)⟩ : S_Tile), x29_2⟩ : S_Play) [.int .i64 ((rd_Tile t626 x21_1).f0), .int .i64 ((rd_Tile t626 x21_1).f1), .int .i64 x29_2] from (k53_mkM _ _ _ (⟨(⟨((rd_Tile t626 x21_1).f0), ((rd_Tile t626 x21_1).f1)⟩ : S_Tile), x29_2⟩ : S_Play) )) (Reps.none _ _)))
                          intro v635 w45 ho46 hb hg_ hnew_
                          clear hg_ hnew_
                          (first | rw [← Ny634.out] at ho46 | (simp only [Int.reduceToNat] at ho46; rw [← Ny634.out] at ho46))
                          have n0_ := Aside0.mk (Kd.R_elder' (by (with_reducible repeat (first | apply Kd.R_alloc | apply Kd.R_drewN | apply Kd.R_drew)); exact HO_7.out) (Kd.R_base ho46) hb)
                          have n1_ := Aside0.mk (Kd.R_below (by (with_reducible repeat (first | apply Kd.R_alloc | apply Kd.R_drewN | apply Kd.R_drew)); exact HO_19.out) hb)
                          have n2_ := Aside0.mk (Kd.R_below (by (with_reducible repeat (first | apply Kd.R_alloc | apply Kd.R_drewN | apply Kd.R_drew)); exact HO_623000.out) hb)
                          have n3_ := Aside0.mk (Kd.R_below (by (with_reducible repeat (first | apply Kd.R_alloc | apply Kd.R_drewN | apply Kd.R_drew)); exact HO_623001.out) hb)
                          have n4_ := Aside0.mk (Kd.R_elder' (by (with_reducible repeat (first | apply Kd.R_alloc | apply Kd.R_drewN | apply Kd.R_drew)); exact HO633.out) (Kd.R_base ho46) hb)
                          have n5_ := Aside0.mk (Kd.R_lower (Kd.R_new' (Kd.R_new' ho46 (Kd.R_lt (by (with_reducible repeat (first | apply Kd.R_alloc | apply Kd.R_drewN | apply Kd.R_drew)); exact HO_7.out))) (Kd.R_lt (by (with_reducible repeat (first | apply Kd.R_alloc | apply Kd.R_drewN | apply Kd.R_drew)); exact HO633.out))) (below_size (by repeat (first | (with_reducible first | exact HB.out | apply below_alloc | apply pw_below_drewN | apply below_drew1 | refine below_set ?_ GE622.out | refine below_set ?_ GE630.out) | exact HB.out))))
                          have n6_ := Aside0.mk (blk_below (g := gb622) (o := .cells #[.slice Ao7 t612.length co7, .slice Ao9 t615.length co9, .int .i64 t618, .bool t619, .bool t620] 70 (0, 0)) (by (with_reducible repeat (first | refine blk_drewN ?_ _ | refine blk_drew ?_ | refine blk_alloc ?_ _)); exact BK622.out) hb)
                          have n7_ := Aside0.mk (blk_below (g := gb630) (o := .cells #[.int .i64 ((rd_Tile t626 x21_1).f0), .int .i64 ((rd_Tile t626 x21_1).f1)] 51 (0, 0)) (by (with_reducible repeat (first | refine blk_drewN ?_ _ | refine blk_drew ?_ | refine blk_alloc ?_ _)); exact BK630.out) hb)
                          have n8_ := Aside0.mk (below_step (by repeat (first | (with_reducible first | exact HB.out | apply below_alloc | apply pw_below_drewN | apply below_drew1 | refine below_set ?_ GE622.out | refine below_set ?_ GE630.out) | exact HB.out)) hb)
                          clear HO_7
                          clear HO_19
                          clear HO_623000
                          clear HO_623001
                          clear HO633
                          clear BK622
                          clear BK630
                          clear HB
                          have HO_7 := n0_
                          have HO_19 := n1_
                          have HO_623000 := n2_
                          have HO_623001 := n3_
                          have HO633 := n4_
                          have HO636 := n5_
                          have BK622 := n6_
                          have BK630 := n7_
                          have HB := n8_
                          clear n0_ n1_ n2_ n3_ n4_ n5_ n6_ n7_ n8_
                          clear hb ho46
                          refine hK.out _ _ ⟨(blk_cell BK630.out 0).trans rfl, (blk_cell BK630.out 1).trans rfl⟩ (fun hHeld => ?_)
                          clear hK K
                          refine norm_ (a' := ?_) ?_ ?_
                          rotate_left
                          · show Act.put _ (some 37) _ = _
                            simp only [Act.put, List.setIfInBounds_toArray, List.set_cons_zero, List.set_cons_succ, i64_w, i32_w]
                            rfl
                          exact norm_ (by simp only [putAll, Act.put, List.setIfInBounds_toArray, List.set_cons_zero, List.set_cons_succ]) (hCont (v632, v635) _ ⟨hHeld, (by (with_reducible repeat (first | apply Kd.R_alloc | apply Kd.R_drewN | apply Kd.R_drew)); exact Kd.R_mono HO633.out (fun _ hk => ⟨hk.2, hk.1.2⟩)), (by (with_reducible repeat (first | apply Kd.R_alloc | apply Kd.R_drewN | apply Kd.R_drew)); exact Kd.R_mono HO636.out (fun _ hk => ⟨hk.2, hk.1.2⟩)), (by (with_reducible repeat (first | apply Kd.R_alloc | apply Kd.R_drewN | apply Kd.R_drew)); exact HO_19.out), (by (with_reducible repeat (first | apply Kd.R_alloc | apply Kd.R_drewN | apply Kd.R_drew)); exact HO_623000.out), (by (with_reducible repeat (first | apply Kd.R_alloc | apply Kd.R_drewN | apply Kd.R_drew)); exact HO_623001.out), (by (with_reducible repeat (first | apply Kd.R_alloc | apply Kd.R_drewN | apply Kd.R_drew)); exact Kd.R_mono HO_7.out (fun _ hk => ⟨hk.1.2, hk.2⟩)), (by (with_reducible repeat (first | refine blk_drewN ?_ _ | refine blk_drew ?_ | refine blk_alloc ?_ _)); exact BK622.out), (by (with_reducible repeat (first | refine blk_drewN ?_ _ | refine blk_drew ?_ | refine blk_alloc ?_ _)); exact BK630.out), (by repeat (first | (with_reducible first | exact HB.out | apply below_alloc | apply pw_below_drewN | apply below_drew1 | refine below_set ?_ GE622.out | refine below_set ?_ GE630.out) | exact HB.out))⟩)
                        · skip
                          refine Kd.R_lit_step k53 _ 53 ?hg (N := 37) ?hd (xs := ([(⟨(⟨((rd_Tile t626 x21_1).f0), ((rd_Tile t626 x21_1).f1)⟩ : S_Tile), x29_2⟩ : S_Play)] : List (S_Play))) (inner := [.int .i64 ((rd_Tile t626 x21_1).f0), .int .i64 ((rd_Tile t626 x21_1).f1), .int .i64 x29_2]) (ok := fun _ => True) (okp := fun _ => True) ?hr ?hp (fun _ hk => hk) trivial (Below.refl _ _) (Nat.le_refl _) (by simp) ?_; (case hd => rfl); (case hg => rfl); (case hr => first | (go_simp; done) | (go_simp; rfl)); (case hp => exact (Reps.c3 (show Kd.M k53 _ _ _ (⟨(⟨((rd_Tile t626 x21_1).f0), ((rd_Tile t626 x21_1).f1)⟩ : S_Tile), x29_2⟩ : S_Play) [.int .i64 ((rd_Tile t626 x21_1).f0), .int .i64 ((rd_Tile t626 x21_1).f1), .int .i64 x29_2] from (k53_mkM _ _ _ (⟨(⟨((rd_Tile t626 x21_1).f0), ((rd_Tile t626 x21_1).f1)⟩ : S_Tile), x29_2⟩ : S_Play) )) (Reps.none _ _)))
                          intro v635 w44 ho45 hb hg_ hnew_
                          clear hg_ hnew_
                          (first | rw [← Ny634.out] at ho45 | (simp only [Int.reduceToNat] at ho45; rw [← Ny634.out] at ho45))
                          have n0_ := Aside0.mk (Kd.R_elder' (by (with_reducible repeat (first | apply Kd.R_alloc | apply Kd.R_drewN | apply Kd.R_drew)); exact HO_7.out) (Kd.R_base ho45) hb)
                          have n1_ := Aside0.mk (Kd.R_below (by (with_reducible repeat (first | apply Kd.R_alloc | apply Kd.R_drewN | apply Kd.R_drew)); exact HO_19.out) hb)
                          have n2_ := Aside0.mk (Kd.R_below (by (with_reducible repeat (first | apply Kd.R_alloc | apply Kd.R_drewN | apply Kd.R_drew)); exact HO_623000.out) hb)
                          have n3_ := Aside0.mk (Kd.R_below (by (with_reducible repeat (first | apply Kd.R_alloc | apply Kd.R_drewN | apply Kd.R_drew)); exact HO_623001.out) hb)
                          have n4_ := Aside0.mk (Kd.R_lower (Kd.R_new' ho45 (Kd.R_lt (by (with_reducible repeat (first | apply Kd.R_alloc | apply Kd.R_drewN | apply Kd.R_drew)); exact HO_7.out))) (below_size (by repeat (first | (with_reducible first | exact HB.out | apply below_alloc | apply pw_below_drewN | apply below_drew1 | refine below_set ?_ GE622.out | refine below_set ?_ GE630.out) | exact HB.out))))
                          have n5_ := Aside0.mk (blk_below (g := gb622) (o := .cells #[.slice Ao7 t612.length co7, .slice Ao9 t615.length co9, .int .i64 t618, .bool t619, .bool t620] 70 (0, 0)) (by (with_reducible repeat (first | refine blk_drewN ?_ _ | refine blk_drew ?_ | refine blk_alloc ?_ _)); exact BK622.out) hb)
                          have n6_ := Aside0.mk (blk_below (g := gb630) (o := .cells #[.int .i64 ((rd_Tile t626 x21_1).f0), .int .i64 ((rd_Tile t626 x21_1).f1)] 51 (0, 0)) (by (with_reducible repeat (first | refine blk_drewN ?_ _ | refine blk_drew ?_ | refine blk_alloc ?_ _)); exact BK630.out) hb)
                          have n7_ := Aside0.mk (below_step (by repeat (first | (with_reducible first | exact HB.out | apply below_alloc | apply pw_below_drewN | apply below_drew1 | refine below_set ?_ GE622.out | refine below_set ?_ GE630.out) | exact HB.out)) hb)
                          clear HO_7
                          clear HO_19
                          clear HO_623000
                          clear HO_623001
                          clear BK622
                          clear BK630
                          clear HB
                          have HO_7 := n0_
                          have HO_19 := n1_
                          have HO_623000 := n2_
                          have HO_623001 := n3_
                          have HO636 := n4_
                          have BK622 := n5_
                          have BK630 := n6_
                          have HB := n7_
                          clear n0_ n1_ n2_ n3_ n4_ n5_ n6_ n7_
                          clear hb ho45
                          refine hK.out _ _ ⟨(blk_cell BK630.out 0).trans rfl, (blk_cell BK630.out 1).trans rfl⟩ (fun hHeld => ?_)
                          clear hK K
                          refine norm_ (a' := ?_) ?_ ?_
                          rotate_left
                          · show Act.put _ (some 37) _ = _
                            simp only [Act.put, List.setIfInBounds_toArray, List.set_cons_zero, List.set_cons_succ, i64_w, i32_w]
                            rfl
                          refine one_ (i := 1) (N := some 33) #[true, true, true, true, true, true, false, false] rfl rfl (one_of HT_.out (by kernel_rfl)) (by decide) (fun K hK => ?_)
                          refine goes_ Try.func68 (by kernel_rfl) rfl #[.slice A0 l0.length c0] (by rfl) rfl rfl (by (try simp only [List.map_toArray, List.map_cons, List.map_nil]); first | done | rfl | (simp only [List.length_drop, List.length_take]; rfl)) ?_
                          with_reducible refine (slices_Clone_impl_Play_impl_Play.calls _ _ l0 t631 _ ?side1 ?side2 A23.out).mono ?_
                          (case side1 => repeat (first | exact (Kd.C_below HR0.out HB.out) | (with_reducible refine Kd.C_alloc ?_ _) | (with_reducible refine Kd.C_drewN ?_ _) | (with_reducible refine Kd.C_drew ?_)))
                          (case side2 => exact HC0.out)
                          rintro e w46 ⟨v632, rfl, ho0, hb⟩
                          refine ⟨_, rfl, ?_⟩
                          have n0_ := Aside0.mk (Kd.R_elder' (by (with_reducible repeat (first | apply Kd.R_alloc | apply Kd.R_drewN | apply Kd.R_drew)); exact HO_7.out) (Kd.R_base ho0) hb)
                          have n1_ := Aside0.mk (Kd.R_below (by (with_reducible repeat (first | apply Kd.R_alloc | apply Kd.R_drewN | apply Kd.R_drew)); exact HO_19.out) hb)
                          have n2_ := Aside0.mk (Kd.R_below (by (with_reducible repeat (first | apply Kd.R_alloc | apply Kd.R_drewN | apply Kd.R_drew)); exact HO_623000.out) hb)
                          have n3_ := Aside0.mk (Kd.R_below (by (with_reducible repeat (first | apply Kd.R_alloc | apply Kd.R_drewN | apply Kd.R_drew)); exact HO_623001.out) hb)
                          have n4_ := Aside0.mk (Kd.R_elder' (by (with_reducible repeat (first | apply Kd.R_alloc | apply Kd.R_drewN | apply Kd.R_drew)); exact HO636.out) (Kd.R_base ho0) hb)
                          have n5_ := Aside0.mk (Kd.R_lower (Kd.R_new' (Kd.R_new' ho0 (Kd.R_lt (by (with_reducible repeat (first | apply Kd.R_alloc | apply Kd.R_drewN | apply Kd.R_drew)); exact HO_7.out))) (Kd.R_lt (by (with_reducible repeat (first | apply Kd.R_alloc | apply Kd.R_drewN | apply Kd.R_drew)); exact HO636.out))) (below_size (by repeat (first | (with_reducible first | exact HB.out | apply below_alloc | apply pw_below_drewN | apply below_drew1 | refine below_set ?_ GE622.out | refine below_set ?_ GE630.out) | exact HB.out))))
                          have n6_ := Aside0.mk (blk_below (g := gb622) (o := .cells #[.slice Ao7 t612.length co7, .slice Ao9 t615.length co9, .int .i64 t618, .bool t619, .bool t620] 70 (0, 0)) (by (with_reducible repeat (first | refine blk_drewN ?_ _ | refine blk_drew ?_ | refine blk_alloc ?_ _)); exact BK622.out) hb)
                          have n7_ := Aside0.mk (blk_below (g := gb630) (o := .cells #[.int .i64 ((rd_Tile t626 x21_1).f0), .int .i64 ((rd_Tile t626 x21_1).f1)] 51 (0, 0)) (by (with_reducible repeat (first | refine blk_drewN ?_ _ | refine blk_drew ?_ | refine blk_alloc ?_ _)); exact BK630.out) hb)
                          have n8_ := Aside0.mk (below_step (by repeat (first | (with_reducible first | exact HB.out | apply below_alloc | apply pw_below_drewN | apply below_drew1 | refine below_set ?_ GE622.out | refine below_set ?_ GE630.out) | exact HB.out)) hb)
                          clear HO_7
                          clear HO_19
                          clear HO_623000
                          clear HO_623001
                          clear HO636
                          clear BK622
                          clear BK630
                          clear HB
                          have HO_7 := n0_
                          have HO_19 := n1_
                          have HO_623000 := n2_
                          have HO_623001 := n3_
                          have HO636 := n4_
                          have HO633 := n5_
                          have BK622 := n6_
                          have BK630 := n7_
                          have HB := n8_
                          clear n0_ n1_ n2_ n3_ n4_ n5_ n6_ n7_ n8_
                          (try clear hb)
                          (try clear hb2)
                          (try clear hk)
                          (try clear hi)
                          (try clear ho0)
                          refine hK.out _ _ ⟨(blk_cell BK630.out 0).trans rfl, (blk_cell BK630.out 1).trans rfl⟩ (fun hHeld => ?_)
                          clear hK K
                          refine norm_ (a' := ?_) ?_ ?_
                          rotate_left
                          · show Act.put _ (some 33) _ = _
                            simp only [Act.put, List.setIfInBounds_toArray, List.set_cons_zero, List.set_cons_succ, i64_w, i32_w]
                            rfl
                          exact norm_ (by simp only [putAll, Act.put, List.setIfInBounds_toArray, List.set_cons_zero, List.set_cons_succ]) (hCont (v632, v635) _ ⟨hHeld, (by (with_reducible repeat (first | apply Kd.R_alloc | apply Kd.R_drewN | apply Kd.R_drew)); exact Kd.R_mono HO633.out (fun _ hk => ⟨hk.2, hk.1.2⟩)), (by (with_reducible repeat (first | apply Kd.R_alloc | apply Kd.R_drewN | apply Kd.R_drew)); exact Kd.R_mono HO636.out (fun _ hk => ⟨hk.2, hk.1.2⟩)), (by (with_reducible repeat (first | apply Kd.R_alloc | apply Kd.R_drewN | apply Kd.R_drew)); exact HO_19.out), (by (with_reducible repeat (first | apply Kd.R_alloc | apply Kd.R_drewN | apply Kd.R_drew)); exact HO_623000.out), (by (with_reducible repeat (first | apply Kd.R_alloc | apply Kd.R_drewN | apply Kd.R_drew)); exact HO_623001.out), (by (with_reducible repeat (first | apply Kd.R_alloc | apply Kd.R_drewN | apply Kd.R_drew)); exact Kd.R_mono HO_7.out (fun _ hk => ⟨hk.2, hk.1.2⟩)), (by (with_reducible repeat (first | refine blk_drewN ?_ _ | refine blk_drew ?_ | refine blk_alloc ?_ _)); exact BK622.out), (by (with_reducible repeat (first | refine blk_drewN ?_ _ | refine blk_drew ?_ | refine blk_alloc ?_ _)); exact BK630.out), (by repeat (first | (with_reducible first | exact HB.out | apply below_alloc | apply pw_below_drewN | apply below_drew1 | refine below_set ?_ GE622.out | refine below_set ?_ GE630.out) | exact HB.out))⟩)
                      rintro ⟨v632, v635⟩ w47 ⟨hS_, h0_, h1_, h2_, h3_, h4_, h5_, h6_, h7_, h8_⟩
                      have n0_ : Aside0 (Kd.R k53 53 w47 w.heap.size (fun k_ => some k_ ≠ (v635 : Value).ownBlock ∧ some k_ ≠ (u7 : Value).ownBlock) v632 t631) := ⟨h0_⟩
                      have n1_ : Aside0 (Kd.R k53 53 w47 w.heap.size (fun k_ => some k_ ≠ (v632 : Value).ownBlock ∧ some k_ ≠ (u7 : Value).ownBlock) v635 y634) := ⟨h1_⟩
                      have n2_ : Aside0 (Kd.R k51 51 w47 w.heap.size (fun k_ => some k_ ≠ (.slice Ao9 t615.length co9 : Value).ownBlock ∧ k_ ≠ gb630) (.slice (some ad629) t626.length co13) t626) := ⟨h2_⟩
                      have n3_ : Aside0 (Kd.R k85 85 w47 w.heap.size (fun _ => True) (.slice Ao7 t612.length co7) t612) := ⟨h3_⟩
                      have n4_ : Aside0 (Kd.R k51 51 w47 w.heap.size (fun k_ => some k_ ≠ (.slice (some ad629) t626.length co13 : Value).ownBlock ∧ k_ ≠ gb630) (.slice Ao9 t615.length co9) t615) := ⟨h4_⟩
                      have n5_ : Aside0 (Kd.R k53 53 w47 w.heap.size (fun k_ => some k_ ≠ (v632 : Value).ownBlock ∧ some k_ ≠ (v635 : Value).ownBlock) u7 x7_2) := ⟨h5_⟩
                      have n6_ : Aside0 (w47.heap[gb622]? = some (.cells #[.slice Ao7 t612.length co7, .slice Ao9 t615.length co9, .int .i64 t618, .bool t619, .bool t620] 70 (0, 0))) := ⟨h6_⟩
                      have n7_ : Aside0 (w47.heap[gb630]? = some (.cells #[.int .i64 ((rd_Tile t626 x21_1).f0), .int .i64 ((rd_Tile t626 x21_1).f1)] 51 (0, 0))) := ⟨h7_⟩
                      have n8_ : Aside0 (Below w.heap.size w w47) := ⟨h8_⟩
                      clear HO_7
                      clear HO_19
                      clear HO_623000
                      clear HO_623001
                      clear BK622
                      clear BK630
                      clear HB
                      clear h0_ h1_ h2_ h3_ h4_ h5_ h6_ h7_ h8_
                      have HO633 := n0_
                      have HO636 := n1_
                      have HO_19 := n2_
                      have HO_623000 := n3_
                      have HO_623001 := n4_
                      have HO_7 := n5_
                      have BK622 := n6_
                      have BK630 := n7_
                      have HB := n8_
                      clear n0_ n1_ n2_ n3_ n4_ n5_ n6_ n7_ n8_
                      have hHeld : w47.cell? ⟨gb630, 0, none⟩ = some (.int .i64 ((rd_Tile t626 x21_1).f0)) ∧ w47.cell? ⟨gb630, 1, none⟩ = some (.int .i64 ((rd_Tile t626 x21_1).f1)) := hS_
                      obtain ⟨Ao49, co49, eo49⟩ := Kd.R_slice HO636.out
                      (first | subst eo49 | (injection eo49 with f1_ f2_ f3_; have f4_ := f1_.symm; have f5_ := f3_.symm; clear f1_ f2_ f3_; subst f4_; subst f5_))
                      refine norm_ (a' := ?_) ?_ ?_
                      rotate_left
                      · simp only [putAll, Act.put, List.setIfInBounds_toArray, List.set_cons_zero, List.set_cons_succ]
                        rfl
                      refine one_ (i := 6) (N := some 38) #[true, true, true, true, true, true, true, false] rfl rfl (one_of HT_.out (by kernel_rfl)) (by decide) (fun K hK => ?_)
                      refine Kd.R_append_rows_step k53 (w0 := w) w.heap.size (by rfl) (.tmp 33) (.tmp 37) 26 53 (.agg #[(.int .i64 0), (.int .i64 0), (.int .i64 0)]) 24 rfl Try.underlying26 info53 rfl (by decide) (by omega) v632 t631 y634 _ _ _ (fun k_ => some k_ ≠ (u7 : Value).ownBlock ∧ some k_ ≠ (.slice Ao49 y634.length co49 : Value).ownBlock) (fun _ => False) rfl rfl ?aO ?aR (fun _ _ h => h) (fun _ h => h.elim) ?aF ?aB ?aS ?aL ?_
                      (case aR => repeat (first | exact (Kd.R_reads' HO636.out).2.2 | (with_reducible refine Kd.C_alloc ?_ _) | (with_reducible refine Kd.C_drewN ?_ _) | (with_reducible refine Kd.C_drew ?_)))
                      (case aB => exact (by repeat (first | (with_reducible first | exact HB.out | apply below_alloc | apply pw_below_drewN | apply below_drew1 | refine below_set ?_ GE622.out | refine below_set ?_ GE630.out) | exact HB.out)))
                      (case aF => exact (fun k_ hk => ⟨Kd.fresh' (Kd.R_lt (by (with_reducible repeat (first | apply Kd.R_alloc | apply Kd.R_drewN | apply Kd.R_drew)); exact HO_7.out)) k_ hk, Kd.fresh' (Kd.R_lt (by (with_reducible repeat (first | apply Kd.R_alloc | apply Kd.R_drewN | apply Kd.R_drew)); exact HO636.out)) k_ hk⟩))
                      (case aO => exact (by (with_reducible repeat (first | apply Kd.R_alloc | apply Kd.R_drewN | apply Kd.R_drew)); exact Kd.R_mono HO633.out (fun _ hk => ⟨hk.2, hk.1⟩)))
                      (case aS => exact (below_size (by repeat (first | (with_reducible first | exact HB.out | apply below_alloc | apply pw_below_drewN | apply below_drew1 | refine below_set ?_ GE622.out | refine below_set ?_ GE630.out) | exact HB.out))))
                      (case aL => have := LMc24.out; omega)
                      intro v638 w48 ho hb hg hat
                      rw [← Ny637.out] at ho
                      have n0_ := Aside0.mk (Kd.R_after (ok := (fun k_ => some k_ ≠ (.slice Ao49 y634.length co49 : Value).ownBlock)) (by (with_reducible repeat (first | apply Kd.R_alloc | apply Kd.R_drewN | apply Kd.R_drew)); exact Kd.R_mono HO_7.out (fun _ hk => ⟨hk.2, hk.1⟩)) hg hat)
                      have n1_ := Aside0.mk (Kd.R_over' (by (with_reducible repeat (first | apply Kd.R_alloc | apply Kd.R_drewN | apply Kd.R_drew)); exact HO_19.out) (Kd.R_typed (by (with_reducible repeat (first | apply Kd.R_alloc | apply Kd.R_drewN | apply Kd.R_drew)); exact HO633.out)) (by decide) hg)
                      have n2_ := Aside0.mk (Kd.R_over' (by (with_reducible repeat (first | apply Kd.R_alloc | apply Kd.R_drewN | apply Kd.R_drew)); exact HO_623000.out) (Kd.R_typed (by (with_reducible repeat (first | apply Kd.R_alloc | apply Kd.R_drewN | apply Kd.R_drew)); exact HO633.out)) (by decide) hg)
                      have n3_ := Aside0.mk (Kd.R_over' (by (with_reducible repeat (first | apply Kd.R_alloc | apply Kd.R_drewN | apply Kd.R_drew)); exact HO_623001.out) (Kd.R_typed (by (with_reducible repeat (first | apply Kd.R_alloc | apply Kd.R_drewN | apply Kd.R_drew)); exact HO633.out)) (by decide) hg)
                      have n4_ := Aside0.mk (blk_grown (g := gb622) (o := .cells #[.slice Ao7 t612.length co7, .slice Ao9 t615.length co9, .int .i64 t618, .bool t619, .bool t620] 70 (0, 0)) (by (with_reducible repeat (first | refine blk_drewN ?_ _ | refine blk_drew ?_ | refine blk_alloc ?_ _)); exact BK622.out) hg (Kd.R_ne HO633.out BK622.out (by decide)))
                      have n5_ := Aside0.mk (blk_grown (g := gb630) (o := .cells #[.int .i64 ((rd_Tile t626 x21_1).f0), .int .i64 ((rd_Tile t626 x21_1).f1)] 51 (0, 0)) (by (with_reducible repeat (first | refine blk_drewN ?_ _ | refine blk_drew ?_ | refine blk_alloc ?_ _)); exact BK630.out) hg (Kd.R_ne HO633.out BK630.out (by decide)))
                      have n6_ := Aside0.mk (Kd.R_after (ok := (fun k_ => some k_ ≠ (u7 : Value).ownBlock)) (by (with_reducible repeat (first | apply Kd.R_alloc | apply Kd.R_drewN | apply Kd.R_drew)); exact Kd.R_mono HO636.out (fun _ hk => ⟨hk.2, hk.1⟩)) hg hat)
                      have n7_ := Aside0.mk (hb)
                      have n8_ := Aside0.mk (ho)
                      clear HO_7
                      clear HO_19
                      clear HO_623000
                      clear HO_623001
                      clear BK622
                      clear BK630
                      clear HO636
                      clear HB
                      clear HO633
                      have HO_7 := n0_
                      have HO_19 := n1_
                      have HO_623000 := n2_
                      have HO_623001 := n3_
                      have BK622 := n4_
                      have BK630 := n5_
                      have HO636 := n6_
                      have HB := n7_
                      have HO639 := n8_
                      clear n0_ n1_ n2_ n3_ n4_ n5_ n6_ n7_ n8_
                      clear ho hb hg hat
                      refine hK.out _ _ ⟨(blk_cell BK630.out 0).trans rfl, (blk_cell BK630.out 1).trans rfl⟩ (fun hHeld => ?_)
                      clear hK K
                      refine norm_ (a' := ?_) ?_ ?_
                      rotate_left
                      · show Act.put _ (some 38) _ = _
                        simp only [Act.put, List.setIfInBounds_toArray, List.set_cons_zero, List.set_cons_succ, i64_w, i32_w]
                        rfl
                      refine pure_ (i := 7) (N := some 11) (v := ?_) (a' := ?_) #[true, true, true, true, true, true, true, true] rfl rfl (any_of HT_.out (by kernel_rfl)) (fun _ _ _ h => h) (Or.inl ⟨by rfl, ?_⟩) ?_ ?_
                      rotate_left
                      · intro w'
                        go_simp
                        with_reducible rfl
                      rotate_left
                      · simp only [Act.put, List.setIfInBounds_toArray, List.set_cons_zero, List.set_cons_succ, i64_w, i32_w]
                        rfl
                      refine done_ (done_of HT_.out (by kernel_rfl)) ?_
                      obtain ⟨Ao50, co50, eo50⟩ := Kd.R_slice HO639.out
                      subst eo50
                      try go_wp2_with (first | ((with_reducible refine gate_callee (f := 53) rfl ?_); refine goesL_ (some 40) rfl rfl Try.func53 (by kernel_rfl) rfl #[.slice Ao50 y637.length co50] rfl (by (try simp only [List.map_toArray, List.map_cons, List.map_nil]); first | done | rfl | (simp only [List.length_drop, List.length_take]; rfl)) ?_; (with_reducible refine (impl_IsSpread.calls _ _ y637 false _ ?side1 ?side2 A25.out).mono ?_); (case side1 => repeat (first | exact (Kd.R_reads' HO639.out).2.2 | (with_reducible refine Kd.C_alloc ?_ _) | (with_reducible refine Kd.C_drewN ?_ _) | (with_reducible refine Kd.C_drew ?_))); (case side2 => exact (Kd.R_reads' HO639.out).2.1); rintro e w51 ⟨rfl, hb⟩; refine ⟨_, rfl, ?_⟩; have n0_ := Aside0.mk (Kd.R_below (by (with_reducible repeat (first | apply Kd.R_alloc | apply Kd.R_drewN | apply Kd.R_drew)); exact HO_7.out) hb); have n1_ := Aside0.mk (Kd.R_below (by (with_reducible repeat (first | apply Kd.R_alloc | apply Kd.R_drewN | apply Kd.R_drew)); exact HO_19.out) hb); have n2_ := Aside0.mk (Kd.R_below (by (with_reducible repeat (first | apply Kd.R_alloc | apply Kd.R_drewN | apply Kd.R_drew)); exact HO_623000.out) hb); have n3_ := Aside0.mk (Kd.R_below (by (with_reducible repeat (first | apply Kd.R_alloc | apply Kd.R_drewN | apply Kd.R_drew)); exact HO_623001.out) hb); have n4_ := Aside0.mk (Kd.R_below (by (with_reducible repeat (first | apply Kd.R_alloc | apply Kd.R_drewN | apply Kd.R_drew)); exact HO636.out) hb); have n5_ := Aside0.mk (Kd.R_below (by (with_reducible repeat (first | apply Kd.R_alloc | apply Kd.R_drewN | apply Kd.R_drew)); exact HO639.out) hb); have n6_ := Aside0.mk (blk_below (g := gb622) (o := .cells #[.slice Ao7 t612.length co7, .slice Ao9 t615.length co9, .int .i64 t618, .bool t619, .bool t620] 70 (0, 0)) (by (with_reducible repeat (first | refine blk_drewN ?_ _ | refine blk_drew ?_ | refine blk_alloc ?_ _)); exact BK622.out) hb); have n7_ := Aside0.mk (blk_below (g := gb630) (o := .cells #[.int .i64 ((rd_Tile t626 x21_1).f0), .int .i64 ((rd_Tile t626 x21_1).f1)] 51 (0, 0)) (by (with_reducible repeat (first | refine blk_drewN ?_ _ | refine blk_drew ?_ | refine blk_alloc ?_ _)); exact BK630.out) hb); have n8_ := Aside0.mk (below_step (by repeat (first | (with_reducible first | exact HB.out | apply below_alloc | apply pw_below_drewN | apply below_drew1 | refine below_set ?_ GE622.out | refine below_set ?_ GE630.out) | exact HB.out)) hb); clear HO_7; clear HO_19; clear HO_623000; clear HO_623001; clear HO636; clear HO639; clear BK622; clear BK630; clear HB; have HO_7 := n0_; have HO_19 := n1_; have HO_623000 := n2_; have HO_623001 := n3_; have HO636 := n4_; have HO639 := n5_; have BK622 := n6_; have BK630 := n7_; have HB := n8_; clear n0_ n1_ n2_ n3_ n4_ n5_ n6_ n7_ n8_; (try clear hb); (try clear hb2); (try clear hk); (try clear hi)))
                      go_roundg k2
                      case measure => have := HK1.out; have := HK2.out; omega
                      case rel => exact ⟨(x7_2), (wrap64 (x29_2 + 1)), (by first | rfl | (simp; done) | (simp [*]; done)), H', ⟨by have := HK1.out; have := HK2.out; omega⟩, ⟨by (with_reducible repeat (first | apply Kd.R_alloc | apply Kd.R_drewN | apply Kd.R_drew)); exact Kd.R_mono HO_7.out (fun _ hk => trivial)⟩, ⟨by (with_reducible repeat (first | apply Kd.R_alloc | apply Kd.R_drewN | apply Kd.R_drew)); exact HO_19.out⟩, ⟨by (with_reducible repeat (first | apply Kd.R_alloc | apply Kd.R_drewN | apply Kd.R_drew)); exact HO_623000.out⟩, ⟨by (with_reducible repeat (first | apply Kd.R_alloc | apply Kd.R_drewN | apply Kd.R_drew)); exact HO_623001.out⟩, ⟨by (with_reducible repeat (first | refine blk_drewN ?_ _ | refine blk_drew ?_ | refine blk_alloc ?_ _)); exact BK622.out⟩, ⟨by (with_reducible repeat (first | refine blk_drewN ?_ _ | refine blk_drew ?_ | refine blk_alloc ?_ _)); exact BK630.out⟩, ⟨by repeat (first | (with_reducible first | exact HB.out | apply below_alloc | apply pw_below_drewN | apply below_drew1 | refine below_set ?_ GE622.out | refine below_set ?_ GE630.out) | exact HB.out)⟩⟩
                  · rw [if_neg c24] at H
                    exact absurd H (by simp)
                · rw [if_neg c22] at H
                  have c22b0 : decide (x29_2 < ji17) = false := decide_eq_false c22
                  clear c22
                  have H' := Aside0.mk H
                  clear H
                  go_wp2
                  go_roundg k2
                  case measure => have := HK1.out; have := HK2.out; omega
                  case rel => exact ⟨(x7_2), (wrap64 (x21_1 + 1)), (by first | rfl | (simp; done) | (simp [*]; done)), H', ⟨by have := HK1.out; have := HK2.out; omega⟩, ⟨by (with_reducible repeat (first | apply Kd.R_alloc | apply Kd.R_drewN | apply Kd.R_drew)); exact HO_7.out⟩, ⟨by (with_reducible repeat (first | apply Kd.R_alloc | apply Kd.R_drewN | apply Kd.R_drew)); exact Kd.R_mono HO_19.out (fun _ hk => hk.1)⟩, ⟨by (with_reducible repeat (first | apply Kd.R_alloc | apply Kd.R_drewN | apply Kd.R_drew)); exact HO_623000.out⟩, ⟨by (with_reducible repeat (first | apply Kd.R_alloc | apply Kd.R_drewN | apply Kd.R_drew)); exact Kd.R_mono HO_623001.out (fun _ hk => hk.1)⟩, ⟨by (with_reducible repeat (first | refine blk_drewN ?_ _ | refine blk_drew ?_ | refine blk_alloc ?_ _)); exact BK622.out⟩, ⟨by repeat (first | (with_reducible first | exact HB.out | apply below_alloc | apply pw_below_drewN | apply below_drew1 | refine below_set ?_ GE622.out | refine below_set ?_ GE630.out) | exact HB.out)⟩⟩
          · rw [if_neg c16] at H
            exact absurd H (by simp)
        · rw [if_neg c15] at H
          exact absurd H (by simp)
      · rw [if_neg c14] at H
        have c14b0 : decide (x21_1 < (t626.length : Int)) = false := decide_eq_false c14
        clear c14
        obtain rfl := Option.some.inj H
        go_wp2
        go_ret
        exact ⟨_, by first | rfl | (simp [errW_none, errW_some] <;> rfl) | (simp [*, errW_none, errW_some] <;> rfl), by (with_reducible repeat (first | apply Kd.R_alloc | apply Kd.R_drewN | apply Kd.R_drew)); exact HO_7.out, by repeat (first | (with_reducible first | exact HB.out | apply below_alloc | apply pw_below_drewN | apply below_drew1 | refine below_set ?_ GE622.out) | exact HB.out)⟩

end
section
open Go.RowKit Go.Proofs.YtlphnpinpflaaaaW.PrintWords Go.Proofs.YtlphnpinpflaaaaW.PrintLast Go.Proofs.YtlphnpinpflaaaaW.PrintMore
attribute [local go_sem] max2_int min2_int max_two min_two max_three min_three max_four min_four   -- for this text's walks alone
set_option linter.unusedVariables false
set_option linter.unusedSimpArgs false

def impl_PlaysFor.f (k : Nat) (l0 : List (S_Play)) (l1 : List (S_Tile)) : Option ((List (S_Play)) × Bool) := (impl_IsSpread.f l0).bind fun t647 => (if t647 = true then ((impl_IsHand.f k l1).bind fun t648 => (if t648 = true then ((impl_playsFor.f k l0 l1).bind fun t649 => (some (t649, true))) else (some (([] : List (S_Play)), false)))) else (some (([] : List (S_Play)), false)))
set_option maxHeartbeats 8000000 in
set_option maxRecDepth 100000 in
theorem impl_PlaysFor.calls (k : Nat) (A0 : Option Addr) (c0 : Nat) (l0 : List (S_Play)) (A1 : Option Addr) (c1 : Nat) (l1 : List (S_Tile)) (r1 : List (S_Play)) (r2 : Bool) (w : World) (hr0 : Kd.C k53 w A0 l0.length l0) (hc0 : l0.length ≤ c0) (hr1 : Kd.C k51 w A1 l1.length l1) (hc1 : l1.length ≤ c1) (h : impl_PlaysFor.f k l0 l1 = some (r1, r2)) :
    Calls Try.prog 37 #[.slice A0 l0.length c0, .slice A1 l1.length c1] w fun e w' => ∃ v0_ : Value, e = .returned (.tuple #[v0_, .bool r2]) ∧ Kd.R k53 53 w' w.heap.size (fun _ => True) v0_ r1 ∧ Below w.heap.size w w' := by
  have HR0 := Aside0.mk hr0
  have HC0 := Aside0.mk hc0
  clear hr0 hc0
  have HR1 := Aside0.mk hr1
  have HC1 := Aside0.mk hc1
  clear hr1 hc1
  have HB := Aside0.mk (Below.refl w.heap.size w)
  have H : ((impl_IsSpread.f l0).bind fun t647 => (if t647 = true then ((impl_IsHand.f k l1).bind fun t648 => (if t648 = true then ((impl_playsFor.f k l0 l1).bind fun t649 => (some (t649, true))) else (some (([] : List (S_Play)), false)))) else (some (([] : List (S_Play)), false)))) = some (r1, r2) := h
  clear h
  replace H := Option.bind_eq_some_iff.mp H
  obtain ⟨t647, A30, H⟩ := H
  replace H : (if t647 = true then ((impl_IsHand.f k l1).bind fun t648 => (if t648 = true then ((impl_playsFor.f k l0 l1).bind fun t649 => (some (t649, true))) else (some (([] : List (S_Play)), false)))) else (some (([] : List (S_Play)), false))) = some (r1, r2) := H
  have A3 := Aside0.mk A30
  clear A30
  by_cases c4 : t647 = true
  · subst c4
    have H1 : ((impl_IsHand.f k l1).bind fun t648 => (if t648 = true then ((impl_playsFor.f k l0 l1).bind fun t649 => (some (t649, true))) else (some (([] : List (S_Play)), false)))) = some (r1, r2) := by rw [if_pos rfl] at H; exact H
    clear H
    have H := H1
    clear H1
    replace H := Option.bind_eq_some_iff.mp H
    obtain ⟨t648, A50, H⟩ := H
    replace H : (if t648 = true then ((impl_playsFor.f k l0 l1).bind fun t649 => (some (t649, true))) else (some (([] : List (S_Play)), false))) = some (r1, r2) := H
    have A5 := Aside0.mk A50
    clear A50
    by_cases c6 : t648 = true
    · subst c6
      have H1 : ((impl_playsFor.f k l0 l1).bind fun t649 => (some (t649, true))) = some (r1, r2) := by rw [if_pos rfl] at H; exact H
      clear H
      have H := H1
      clear H1
      replace H := Option.bind_eq_some_iff.mp H
      obtain ⟨t649, A70, H⟩ := H
      replace H : (some (t649, true)) = some (r1, r2) := H
      have A7 := Aside0.mk A70
      clear A70
      simp only [Option.some.injEq, Prod.mk.injEq] at H
      obtain ⟨rfl, rfl⟩ := H
      go_enter Try.func37, Try.ntmps37
      go_wp2_with (first | ((with_reducible refine gate_callee (f := 53) rfl ?_); refine goesL_ (some 7) rfl rfl Try.func53 (by kernel_rfl) rfl #[.slice A0 l0.length c0] rfl (by (try simp only [List.map_toArray, List.map_cons, List.map_nil]); first | done | rfl | (simp only [List.length_drop, List.length_take]; rfl)) ?_; (with_reducible refine (impl_IsSpread.calls _ _ l0 true _ ?side1 ?side2 A3.out).mono ?_); (case side1 => repeat (first | exact HR0.out | (with_reducible refine Kd.C_alloc ?_ _) | (with_reducible refine Kd.C_drewN ?_ _) | (with_reducible refine Kd.C_drew ?_))); (case side2 => exact HC0.out); rintro e w8 ⟨rfl, hb⟩; refine ⟨_, rfl, ?_⟩; have n0_ := Aside0.mk (below_step (by repeat (first | (with_reducible first | exact HB.out | apply below_alloc | apply pw_below_drewN | apply below_drew1) | exact HB.out)) hb); clear HB; have HB := n0_; clear n0_; (try clear hb); (try clear hb2); (try clear hk); (try clear hi)) | (go_at_call 65; (with_reducible refine (impl_IsHand.calls k _ _ l1 true _ ?side1 ?side2 A5.out).mono ?_); (case side1 => repeat (first | exact (Kd.C_below HR1.out HB.out) | (with_reducible refine Kd.C_alloc ?_ _) | (with_reducible refine Kd.C_drewN ?_ _) | (with_reducible refine Kd.C_drew ?_))); (case side2 => exact HC1.out); rintro e w9 ⟨rfl, hb⟩; have n0_ := Aside0.mk (below_step (by repeat (first | (with_reducible first | exact HB.out | apply below_alloc | apply pw_below_drewN | apply below_drew1) | exact HB.out)) hb); clear HB; have HB := n0_; clear n0_; (try clear hb); (try clear hb2); (try clear hk); (try clear hi)) | ((with_reducible refine gate_callee (f := 66) rfl ?_); refine goesL_ (some 16) rfl rfl Try.func66 (by kernel_rfl) rfl #[.slice A0 l0.length c0, .slice A1 l1.length c1] rfl (by (try simp only [List.map_toArray, List.map_cons, List.map_nil]); first | done | rfl | (simp only [List.length_drop, List.length_take]; rfl)) ?_; (with_reducible refine (impl_playsFor.calls k _ _ l0 _ _ l1 t649 _ ?side1 ?side2 ?side3 ?side4 A7.out).mono ?_); (case side1 => repeat (first | exact (Kd.C_below HR0.out HB.out) | (with_reducible refine Kd.C_alloc ?_ _) | (with_reducible refine Kd.C_drewN ?_ _) | (with_reducible refine Kd.C_drew ?_))); (case side2 => exact HC0.out); (case side3 => repeat (first | exact (Kd.C_below HR1.out HB.out) | (with_reducible refine Kd.C_alloc ?_ _) | (with_reducible refine Kd.C_drewN ?_ _) | (with_reducible refine Kd.C_drew ?_))); (case side4 => exact HC1.out); rintro e w10 ⟨v650, rfl, ho0, hb⟩; refine ⟨_, rfl, ?_⟩; have n0_ := Aside0.mk (Kd.R_lower ho0 (below_size (by repeat (first | (with_reducible first | exact HB.out | apply below_alloc | apply pw_below_drewN | apply below_drew1) | exact HB.out)))); have n1_ := Aside0.mk (below_step (by repeat (first | (with_reducible first | exact HB.out | apply below_alloc | apply pw_below_drewN | apply below_drew1) | exact HB.out)) hb); clear HB; have HO651 := n0_; have HB := n1_; clear n0_ n1_; (try clear hb); (try clear hb2); (try clear hk); (try clear hi); (try clear ho0)))
      go_ret2
      exact ⟨_, by first | rfl | (simp [errW_none, errW_some] <;> rfl) | (simp [*, errW_none, errW_some] <;> rfl), by (with_reducible repeat (first | apply Kd.R_alloc | apply Kd.R_drewN | apply Kd.R_drew)); exact HO651.out, by repeat (first | (with_reducible first | exact HB.out | apply below_alloc | apply pw_below_drewN | apply below_drew1) | exact HB.out)⟩
    · replace c6 := Bool.eq_false_iff.mpr c6
      subst c6
      have H1 : (some (([] : List (S_Play)), false)) = some (r1, r2) := by rw [if_neg (show ¬ (false = true) by decide)] at H; exact H
      clear H
      have H := H1
      clear H1
      simp only [Option.some.injEq, Prod.mk.injEq] at H
      obtain ⟨rfl, rfl⟩ := H
      go_enter Try.func37, Try.ntmps37
      go_wp2_with (first | ((with_reducible refine gate_callee (f := 53) rfl ?_); refine goesL_ (some 7) rfl rfl Try.func53 (by kernel_rfl) rfl #[.slice A0 l0.length c0] rfl (by (try simp only [List.map_toArray, List.map_cons, List.map_nil]); first | done | rfl | (simp only [List.length_drop, List.length_take]; rfl)) ?_; (with_reducible refine (impl_IsSpread.calls _ _ l0 true _ ?side1 ?side2 A3.out).mono ?_); (case side1 => repeat (first | exact HR0.out | (with_reducible refine Kd.C_alloc ?_ _) | (with_reducible refine Kd.C_drewN ?_ _) | (with_reducible refine Kd.C_drew ?_))); (case side2 => exact HC0.out); rintro e w11 ⟨rfl, hb⟩; refine ⟨_, rfl, ?_⟩; have n0_ := Aside0.mk (below_step (by repeat (first | (with_reducible first | exact HB.out | apply below_alloc | apply pw_below_drewN | apply below_drew1) | exact HB.out)) hb); clear HB; have HB := n0_; clear n0_; (try clear hb); (try clear hb2); (try clear hk); (try clear hi)) | (go_at_call 65; (with_reducible refine (impl_IsHand.calls k _ _ l1 false _ ?side1 ?side2 A5.out).mono ?_); (case side1 => repeat (first | exact (Kd.C_below HR1.out HB.out) | (with_reducible refine Kd.C_alloc ?_ _) | (with_reducible refine Kd.C_drewN ?_ _) | (with_reducible refine Kd.C_drew ?_))); (case side2 => exact HC1.out); rintro e w12 ⟨rfl, hb⟩; have n0_ := Aside0.mk (below_step (by repeat (first | (with_reducible first | exact HB.out | apply below_alloc | apply pw_below_drewN | apply below_drew1) | exact HB.out)) hb); clear HB; have HB := n0_; clear n0_; (try clear hb); (try clear hb2); (try clear hk); (try clear hi)))
      go_ret2
      exact ⟨_, by first | rfl | (simp [errW_none, errW_some] <;> rfl) | (simp [*, errW_none, errW_some] <;> rfl), by first | exact Kd.R_nil _ _ _ _ _ | exact Kd.N_nil _ _ _ _ _ | exact Kd.V_nil _ _ _ _ _ | exact Kd.Q_nil _ _ _ _ _ | exact Kd.S_nil _ _ _ _ _, by repeat (first | (with_reducible first | exact HB.out | apply below_alloc | apply pw_below_drewN | apply below_drew1) | exact HB.out)⟩
  · replace c4 := Bool.eq_false_iff.mpr c4
    subst c4
    have H1 : (some (([] : List (S_Play)), false)) = some (r1, r2) := by rw [if_neg (show ¬ (false = true) by decide)] at H; exact H
    clear H
    have H := H1
    clear H1
    simp only [Option.some.injEq, Prod.mk.injEq] at H
    obtain ⟨rfl, rfl⟩ := H
    go_enter Try.func37, Try.ntmps37
    go_wp2_with (first | ((with_reducible refine gate_callee (f := 53) rfl ?_); refine goesL_ (some 7) rfl rfl Try.func53 (by kernel_rfl) rfl #[.slice A0 l0.length c0] rfl (by (try simp only [List.map_toArray, List.map_cons, List.map_nil]); first | done | rfl | (simp only [List.length_drop, List.length_take]; rfl)) ?_; (with_reducible refine (impl_IsSpread.calls _ _ l0 false _ ?side1 ?side2 A3.out).mono ?_); (case side1 => repeat (first | exact HR0.out | (with_reducible refine Kd.C_alloc ?_ _) | (with_reducible refine Kd.C_drewN ?_ _) | (with_reducible refine Kd.C_drew ?_))); (case side2 => exact HC0.out); rintro e w13 ⟨rfl, hb⟩; refine ⟨_, rfl, ?_⟩; have n0_ := Aside0.mk (below_step (by repeat (first | (with_reducible first | exact HB.out | apply below_alloc | apply pw_below_drewN | apply below_drew1) | exact HB.out)) hb); clear HB; have HB := n0_; clear n0_; (try clear hb); (try clear hb2); (try clear hk); (try clear hi)))
    go_ret2
    exact ⟨_, by first | rfl | (simp [errW_none, errW_some] <;> rfl) | (simp [*, errW_none, errW_some] <;> rfl), by first | exact Kd.R_nil _ _ _ _ _ | exact Kd.N_nil _ _ _ _ _ | exact Kd.V_nil _ _ _ _ _ | exact Kd.Q_nil _ _ _ _ _ | exact Kd.S_nil _ _ _ _ _, by repeat (first | (with_reducible first | exact HB.out | apply below_alloc | apply pw_below_drewN | apply below_drew1) | exact HB.out)⟩

end
section
open Go.RowKit Go.Proofs.YtlphnpinpflaaaaW.PrintWords Go.Proofs.YtlphnpinpflaaaaW.PrintLast Go.Proofs.YtlphnpinpflaaaaW.PrintMore
attribute [local go_sem] max2_int min2_int max_two min_two max_three min_three max_four min_four   -- for this text's walks alone
set_option linter.unusedVariables false
set_option linter.unusedSimpArgs false

end
end Go.Proofs.Ytlphnpinpflaaaa.Hd
