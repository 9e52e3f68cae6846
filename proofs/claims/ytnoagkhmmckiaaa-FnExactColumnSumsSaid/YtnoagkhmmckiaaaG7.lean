-- Printed by hprint.py and laid together by pack.py (this session's programs over the kit's print program). Lean checks it.
import Derived.Test.YtnoagkhmmckiaaaG0
import Derived.Test.YtnoagkhmmckiaaaG3
import Derived.Test.YtnoagkhmmckiaaaMBlock
import Derived.Test.YtnoagkhmmckiaaaG1
import Derived.Test.YtnoagkhmmckiaaaMMarkIntSS
namespace Go.Proofs.Ytnoagkhmmckiaaa.Hd
section
open Go.RowKit Go.Proofs.YtnoagkhmmckiaaaW.PrintWords Go.Proofs.YtnoagkhmmckiaaaW.PrintLast Go.Proofs.YtnoagkhmmckiaaaW.PrintMore
attribute [local go_sem] max2_int min2_int max_two min_two max_three min_three max_four min_four   -- for this text's walks alone
set_option linter.unusedVariables false
set_option linter.unusedSimpArgs false

/-! ### impl_ColumnSums: function 49 -/
def impl_ColumnSums.f (k : Nat) (l0 : List (List Int)) : Option (List Int × Bool) := (impl_IsBlock.f k l0).bind fun t741 => (if t741 = true then ((impl_columnSums.f k l0).bind fun t742 => (some (t742, true))) else (some (([] : List Int), false)))
theorem impl_ColumnSums.mono : ∀ a0 k, LeO (impl_ColumnSums.f k a0) (impl_ColumnSums.f (k + 1) a0) := by
  intro a0 k
  unfold impl_ColumnSums.f
  repeat' first
      | (with_reducible exact impl_IsBlock.mono _ _)
      | (with_reducible exact impl_columnSums.mono _ _)
      | (with_reducible exact LeO.refl _)
      | (with_reducible exact LeO.none _)
      | (with_reducible refine LeO.ite ?_ ?_)
      | (with_reducible refine LeO.bind ?_ (fun _ => ?_))
      | exact impl_IsBlock.mono _ _
      | exact impl_columnSums.mono _ _
      | exact LeO.none _
      | refine LeO.ite ?_ ?_
      | refine LeO.bind ?_ (fun _ => ?_)
set_option maxHeartbeats 8000000 in
set_option maxRecDepth 100000 in
theorem impl_ColumnSums.calls (k : Nat) (A0 : Option Addr) (c0 : Nat) (l0 : List (List Int)) (r1 : List Int) (r2 : Bool) (w : World) (hr0 : Kd.C (Kd.slice 3 (Kd.int .i64)) w A0 l0.length l0) (hc0 : l0.length ≤ c0) (h : impl_ColumnSums.f k l0 = some (r1, r2)) :
    Calls Try.prog 49 #[.slice A0 l0.length c0] w fun e w' => ∃ v0_ : Value, e = .returned (.tuple #[v0_, .bool r2]) ∧ Kd.R (Kd.int .i64) 3 w' w.heap.size (fun _ => True) v0_ r1 ∧ Below w.heap.size w w' := by
  have HR0 := Aside0.mk hr0
  have HC0 := Aside0.mk hc0
  clear hr0 hc0
  have HB := Aside0.mk (Below.refl w.heap.size w)
  have H : ((impl_IsBlock.f k l0).bind fun t741 => (if t741 = true then ((impl_columnSums.f k l0).bind fun t742 => (some (t742, true))) else (some (([] : List Int), false)))) = some (r1, r2) := h
  clear h
  replace H := Option.bind_eq_some_iff.mp H
  obtain ⟨t741, A20, H⟩ := H
  replace H : (if t741 = true then ((impl_columnSums.f k l0).bind fun t742 => (some (t742, true))) else (some (([] : List Int), false))) = some (r1, r2) := H
  have A2 := Aside0.mk A20
  clear A20
  by_cases c3 : t741 = true
  · subst c3
    have H1 : ((impl_columnSums.f k l0).bind fun t742 => (some (t742, true))) = some (r1, r2) := by rw [if_pos rfl] at H; exact H
    clear H
    have H := H1
    clear H1
    replace H := Option.bind_eq_some_iff.mp H
    obtain ⟨t742, A40, H⟩ := H
    replace H : (some (t742, true)) = some (r1, r2) := H
    have A4 := Aside0.mk A40
    clear A40
    simp only [Option.some.injEq, Prod.mk.injEq] at H
    obtain ⟨rfl, rfl⟩ := H
    go_enter Try.func49, Try.ntmps49
    go_wp2_with (first | ((with_reducible refine gate_callee (f := 41) rfl ?_); refine goesL_ (some 5) rfl rfl Try.func41 (by kernel_rfl) rfl #[.slice A0 l0.length c0] rfl (by (try simp only [List.map_toArray, List.map_cons, List.map_nil]); first | done | rfl | (simp only [List.length_drop, List.length_take]; rfl)) ?_; (with_reducible refine (impl_IsBlock.calls k _ _ l0 true _ ?side1 ?side2 A2.out).mono ?_); (case side1 => repeat (first | exact HR0.out | (with_reducible refine Kd.C_alloc ?_ _) | (with_reducible refine Kd.C_drewN ?_ _) | (with_reducible refine Kd.C_drew ?_))); (case side2 => exact HC0.out); rintro e w5 ⟨rfl, hb⟩; refine ⟨_, rfl, ?_⟩; have n0_ := Aside0.mk (below_step (by repeat (first | (with_reducible first | exact HB.out | apply below_alloc | apply pw_below_drewN | apply below_drew1) | exact HB.out)) hb); clear HB; have HB := n0_; clear n0_; (try clear hb); (try clear hb2); (try clear hk); (try clear hi)) | ((with_reducible refine gate_callee (f := 78) rfl ?_); refine goesL_ (some 8) rfl rfl Try.func78 (by kernel_rfl) rfl #[.slice A0 l0.length c0] rfl (by (try simp only [List.map_toArray, List.map_cons, List.map_nil]); first | done | rfl | (simp only [List.length_drop, List.length_take]; rfl)) ?_; (with_reducible refine (impl_columnSums.calls k _ _ l0 t742 _ ?side1 ?side2 A4.out).mono ?_); (case side1 => repeat (first | exact (Kd.C_below HR0.out HB.out) | (with_reducible refine Kd.C_alloc ?_ _) | (with_reducible refine Kd.C_drewN ?_ _) | (with_reducible refine Kd.C_drew ?_))); (case side2 => exact HC0.out); rintro e w6 ⟨v743, rfl, ho0, hb⟩; refine ⟨_, rfl, ?_⟩; have n0_ := Aside0.mk (Kd.R_lower ho0 (below_size (by repeat (first | (with_reducible first | exact HB.out | apply below_alloc | apply pw_below_drewN | apply below_drew1) | exact HB.out)))); have n1_ := Aside0.mk (below_step (by repeat (first | (with_reducible first | exact HB.out | apply below_alloc | apply pw_below_drewN | apply below_drew1) | exact HB.out)) hb); clear HB; have HO744 := n0_; have HB := n1_; clear n0_ n1_; (try clear hb); (try clear hb2); (try clear hk); (try clear hi); (try clear ho0)))
    go_ret2
    exact ⟨_, by first | rfl | (simp [errW_none, errW_some] <;> rfl) | (simp [*, errW_none, errW_some] <;> rfl), by (with_reducible repeat (first | apply Kd.R_alloc | apply Kd.R_drewN | apply Kd.R_drew)); exact HO744.out, by repeat (first | (with_reducible first | exact HB.out | apply below_alloc | apply pw_below_drewN | apply below_drew1) | exact HB.out)⟩
  · replace c3 := Bool.eq_false_iff.mpr c3
    subst c3
    have H1 : (some (([] : List Int), false)) = some (r1, r2) := by rw [if_neg (show ¬ (false = true) by decide)] at H; exact H
    clear H
    have H := H1
    clear H1
    simp only [Option.some.injEq, Prod.mk.injEq] at H
    obtain ⟨rfl, rfl⟩ := H
    go_enter Try.func49, Try.ntmps49
    go_wp2_with (first | ((with_reducible refine gate_callee (f := 41) rfl ?_); refine goesL_ (some 5) rfl rfl Try.func41 (by kernel_rfl) rfl #[.slice A0 l0.length c0] rfl (by (try simp only [List.map_toArray, List.map_cons, List.map_nil]); first | done | rfl | (simp only [List.length_drop, List.length_take]; rfl)) ?_; (with_reducible refine (impl_IsBlock.calls k _ _ l0 false _ ?side1 ?side2 A2.out).mono ?_); (case side1 => repeat (first | exact HR0.out | (with_reducible refine Kd.C_alloc ?_ _) | (with_reducible refine Kd.C_drewN ?_ _) | (with_reducible refine Kd.C_drew ?_))); (case side2 => exact HC0.out); rintro e w7 ⟨rfl, hb⟩; refine ⟨_, rfl, ?_⟩; have n0_ := Aside0.mk (below_step (by repeat (first | (with_reducible first | exact HB.out | apply below_alloc | apply pw_below_drewN | apply below_drew1) | exact HB.out)) hb); clear HB; have HB := n0_; clear n0_; (try clear hb); (try clear hb2); (try clear hk); (try clear hi)))
    go_ret2
    exact ⟨_, by first | rfl | (simp [errW_none, errW_some] <;> rfl) | (simp [*, errW_none, errW_some] <;> rfl), by first | exact Kd.R_nil _ _ _ _ _ | exact Kd.N_nil _ _ _ _ _ | exact Kd.V_nil _ _ _ _ _ | exact Kd.Q_nil _ _ _ _ _ | exact Kd.S_nil _ _ _ _ _, by repeat (first | (with_reducible first | exact HB.out | apply below_alloc | apply pw_below_drewN | apply below_drew1) | exact HB.out)⟩

end
section
open Go.RowKit Go.Proofs.YtnoagkhmmckiaaaW.PrintWords Go.Proofs.YtnoagkhmmckiaaaW.PrintLast Go.Proofs.YtnoagkhmmckiaaaW.PrintMore
attribute [local go_sem] max2_int min2_int max_two min_two max_three min_three max_four min_four   -- for this text's walks alone
set_option linter.unusedVariables false
set_option linter.unusedSimpArgs false

/-! ### laws_FnExactColumnSums: function 14 -/
def laws_FnExactColumnSums.f (k : Nat) (l0 : List (List Int)) : Option (Bool) := (laws_szIntSS.f k l0 1048576).bind fun t745 => (if t745 < 0 then (some true) else ((laws_toIntSS.f k l0).bind fun t746 => ((spec_ColumnSums.f k t746).bind fun bt749 => ((laws_toIntSS.f k l0).bind fun t753 => ((impl_ColumnSums.f k t753).bind fun bt756 => ((laws_eqIntS.f k bt756.1 bt749.1).bind fun t760 => (if t760 = true then (if (bt756.2 != bt749.2) = true then (none) else ((laws_toIntSS.f k l0).bind fun t761 => ((laws_eqIntSS.f k t753 t761).bind fun t764 => (if t764 = true then ((laws_markIntSS.f k t753 1).bind fun t765 => (if t765 < 0 then (none) else ((laws_eqIntS.f k bt756.1 bt749.1).bind fun t766 => (if t766 = true then ((laws_markIntS.f k bt756.1 1).bind fun bt767 => ((laws_heldIntS.f k bt767.2 1).bind fun t769 => (if t769 < 0 then (none) else (if t769 = bt767.1 then ((laws_toIntSS.f k l0).bind fun t770 => ((impl_ColumnSums.f k t770).bind fun bt773 => ((laws_eqIntS.f k bt773.1 bt749.1).bind fun t777 => (if t777 = true then (if (bt773.2 != bt749.2) = true then (none) else ((laws_heldIntS.f k bt767.2 1).bind fun t778 => (if t778 < 0 then (none) else (if t778 = bt767.1 then (some true) else (none))))) else (none))))) else (none))))) else (none))))) else (none))))) else (none))))))))
theorem laws_FnExactColumnSums.mono : ∀ a0 k, LeO (laws_FnExactColumnSums.f k a0) (laws_FnExactColumnSums.f (k + 1) a0) := by
  intro a0 k
  unfold laws_FnExactColumnSums.f
  repeat' first
      | (with_reducible exact impl_ColumnSums.mono _ _)
      | (with_reducible exact laws_eqIntS.mono _ _ _)
      | (with_reducible exact laws_eqIntSS.mono _ _ _)
      | (with_reducible exact laws_heldIntS.mono _ _ _)
      | (with_reducible exact laws_markIntS.mono _ _ _)
      | (with_reducible exact laws_markIntSS.mono _ _ _)
      | (with_reducible exact laws_szIntSS.mono _ _ _)
      | (with_reducible exact laws_toIntSS.mono _ _)
      | (with_reducible exact spec_ColumnSums.mono _ _)
      | (with_reducible exact LeO.refl _)
      | (with_reducible exact LeO.none _)
      | (with_reducible refine LeO.ite ?_ ?_)
      | (with_reducible refine LeO.bind ?_ (fun _ => ?_))
      | exact impl_ColumnSums.mono _ _
      | exact laws_eqIntS.mono _ _ _
      | exact laws_eqIntSS.mono _ _ _
      | exact laws_heldIntS.mono _ _ _
      | exact laws_markIntS.mono _ _ _
      | exact laws_markIntSS.mono _ _ _
      | exact laws_szIntSS.mono _ _ _
      | exact laws_toIntSS.mono _ _
      | exact spec_ColumnSums.mono _ _
      | exact LeO.none _
      | refine LeO.ite ?_ ?_
      | refine LeO.bind ?_ (fun _ => ?_)
set_option maxHeartbeats 8000000 in
set_option maxRecDepth 100000 in
theorem laws_FnExactColumnSums.calls (k : Nat) (A0 : Option Addr) (c0 : Nat) (l0 : List (List Int)) (r : Bool) (w : World) (hr0 : Kd.C (Kd.slice 3 (Kd.int .i64)) w A0 l0.length l0) (hc0 : l0.length ≤ c0) (h : laws_FnExactColumnSums.f k l0 = some r) :
    Calls Try.prog 14 #[.slice A0 l0.length c0] w fun e w' => e = .returned (.bool r) ∧ Below w.heap.size w w' := by
  have HR0 := Aside0.mk hr0
  have HC0 := Aside0.mk hc0
  clear hr0 hc0
  have HB := Aside0.mk (Below.refl w.heap.size w)
  have H : ((laws_szIntSS.f k l0 1048576).bind fun t745 => (if t745 < 0 then (some true) else ((laws_toIntSS.f k l0).bind fun t746 => ((spec_ColumnSums.f k t746).bind fun bt749 => ((laws_toIntSS.f k l0).bind fun t753 => ((impl_ColumnSums.f k t753).bind fun bt756 => ((laws_eqIntS.f k bt756.1 bt749.1).bind fun t760 => (if t760 = true then (if (bt756.2 != bt749.2) = true then (none) else ((laws_toIntSS.f k l0).bind fun t761 => ((laws_eqIntSS.f k t753 t761).bind fun t764 => (if t764 = true then ((laws_markIntSS.f k t753 1).bind fun t765 => (if t765 < 0 then (none) else ((laws_eqIntS.f k bt756.1 bt749.1).bind fun t766 => (if t766 = true then ((laws_markIntS.f k bt756.1 1).bind fun bt767 => ((laws_heldIntS.f k bt767.2 1).bind fun t769 => (if t769 < 0 then (none) else (if t769 = bt767.1 then ((laws_toIntSS.f k l0).bind fun t770 => ((impl_ColumnSums.f k t770).bind fun bt773 => ((laws_eqIntS.f k bt773.1 bt749.1).bind fun t777 => (if t777 = true then (if (bt773.2 != bt749.2) = true then (none) else ((laws_heldIntS.f k bt767.2 1).bind fun t778 => (if t778 < 0 then (none) else (if t778 = bt767.1 then (some true) else (none))))) else (none))))) else (none))))) else (none))))) else (none))))) else (none))))))))) = some r := h
  clear h
  replace H := Option.bind_eq_some_iff.mp H
  obtain ⟨t745, A20, H⟩ := H
  replace H : (if t745 < 0 then (some true) else ((laws_toIntSS.f k l0).bind fun t746 => ((spec_ColumnSums.f k t746).bind fun bt749 => ((laws_toIntSS.f k l0).bind fun t753 => ((impl_ColumnSums.f k t753).bind fun bt756 => ((laws_eqIntS.f k bt756.1 bt749.1).bind fun t760 => (if t760 = true then (if (bt756.2 != bt749.2) = true then (none) else ((laws_toIntSS.f k l0).bind fun t761 => ((laws_eqIntSS.f k t753 t761).bind fun t764 => (if t764 = true then ((laws_markIntSS.f k t753 1).bind fun t765 => (if t765 < 0 then (none) else ((laws_eqIntS.f k bt756.1 bt749.1).bind fun t766 => (if t766 = true then ((laws_markIntS.f k bt756.1 1).bind fun bt767 => ((laws_heldIntS.f k bt767.2 1).bind fun t769 => (if t769 < 0 then (none) else (if t769 = bt767.1 then ((laws_toIntSS.f k l0).bind fun t770 => ((impl_ColumnSums.f k t770).bind fun bt773 => ((laws_eqIntS.f k bt773.1 bt749.1).bind fun t777 => (if t777 = true then (if (bt773.2 != bt749.2) = true then (none) else ((laws_heldIntS.f k bt767.2 1).bind fun t778 => (if t778 < 0 then (none) else (if t778 = bt767.1 then (some true) else (none))))) else (none))))) else (none))))) else (none))))) else (none))))) else (none)))))))) = some r := H
  have A2 := Aside0.mk A20
  clear A20
  by_cases c3 : t745 < 0
  · rw [if_pos c3] at H
    have c3b0 : decide (t745 < 0) = true := decide_eq_true c3
    clear c3
    obtain rfl := Option.some.inj H
    go_enter Try.func14, Try.ntmps14
    go_wp2_with (first | ((with_reducible refine gate_callee (f := 38) rfl ?_); refine goesL_ (some 16) rfl rfl Try.func38 (by kernel_rfl) rfl #[.slice A0 l0.length c0, .int .i64 1048576] rfl (by (try simp only [List.map_toArray, List.map_cons, List.map_nil]); first | done | rfl | (simp only [List.length_drop, List.length_take]; rfl)) ?_; (with_reducible refine (laws_szIntSS.calls k _ _ l0 1048576 t745 _ ?side1 ?side2 A2.out).mono ?_); (case side1 => repeat (first | exact HR0.out | (with_reducible refine Kd.C_alloc ?_ _) | (with_reducible refine Kd.C_drewN ?_ _) | (with_reducible refine Kd.C_drew ?_))); (case side2 => exact HC0.out); rintro e w' ⟨rfl, ⟨nd, rfl⟩⟩; refine ⟨_, rfl, ?_⟩))
    go_ret
    exact ⟨by first | rfl | (simp [errW_none, errW_some] <;> rfl) | (simp [*, errW_none, errW_some] <;> rfl), by repeat (first | (with_reducible first | exact HB.out | apply below_alloc | apply pw_below_drewN | apply below_drew1) | exact HB.out)⟩
  · rw [if_neg c3] at H
    have c3b0 : decide (t745 < 0) = false := decide_eq_false c3
    clear c3
    replace H := Option.bind_eq_some_iff.mp H
    obtain ⟨t746, A40, H⟩ := H
    replace H : ((spec_ColumnSums.f k t746).bind fun bt749 => ((laws_toIntSS.f k l0).bind fun t753 => ((impl_ColumnSums.f k t753).bind fun bt756 => ((laws_eqIntS.f k bt756.1 bt749.1).bind fun t760 => (if t760 = true then (if (bt756.2 != bt749.2) = true then (none) else ((laws_toIntSS.f k l0).bind fun t761 => ((laws_eqIntSS.f k t753 t761).bind fun t764 => (if t764 = true then ((laws_markIntSS.f k t753 1).bind fun t765 => (if t765 < 0 then (none) else ((laws_eqIntS.f k bt756.1 bt749.1).bind fun t766 => (if t766 = true then ((laws_markIntS.f k bt756.1 1).bind fun bt767 => ((laws_heldIntS.f k bt767.2 1).bind fun t769 => (if t769 < 0 then (none) else (if t769 = bt767.1 then ((laws_toIntSS.f k l0).bind fun t770 => ((impl_ColumnSums.f k t770).bind fun bt773 => ((laws_eqIntS.f k bt773.1 bt749.1).bind fun t777 => (if t777 = true then (if (bt773.2 != bt749.2) = true then (none) else ((laws_heldIntS.f k bt767.2 1).bind fun t778 => (if t778 < 0 then (none) else (if t778 = bt767.1 then (some true) else (none))))) else (none))))) else (none))))) else (none))))) else (none))))) else (none)))))) = some r := H
    have A4 := Aside0.mk A40
    clear A40
    replace H := Option.bind_eq_some_iff.mp H
    obtain ⟨⟨t749, t750⟩, A50, H⟩ := H
    replace H : ((laws_toIntSS.f k l0).bind fun t753 => ((impl_ColumnSums.f k t753).bind fun bt756 => ((laws_eqIntS.f k bt756.1 t749).bind fun t760 => (if t760 = true then (if (bt756.2 != t750) = true then (none) else ((laws_toIntSS.f k l0).bind fun t761 => ((laws_eqIntSS.f k t753 t761).bind fun t764 => (if t764 = true then ((laws_markIntSS.f k t753 1).bind fun t765 => (if t765 < 0 then (none) else ((laws_eqIntS.f k bt756.1 t749).bind fun t766 => (if t766 = true then ((laws_markIntS.f k bt756.1 1).bind fun bt767 => ((laws_heldIntS.f k bt767.2 1).bind fun t769 => (if t769 < 0 then (none) else (if t769 = bt767.1 then ((laws_toIntSS.f k l0).bind fun t770 => ((impl_ColumnSums.f k t770).bind fun bt773 => ((laws_eqIntS.f k bt773.1 t749).bind fun t777 => (if t777 = true then (if (bt773.2 != t750) = true then (none) else ((laws_heldIntS.f k bt767.2 1).bind fun t778 => (if t778 < 0 then (none) else (if t778 = bt767.1 then (some true) else (none))))) else (none))))) else (none))))) else (none))))) else (none))))) else (none))))) = some r := H
    have A5 := Aside0.mk A50
    clear A50
    replace H := Option.bind_eq_some_iff.mp H
    obtain ⟨t753, A60, H⟩ := H
    replace H : ((impl_ColumnSums.f k t753).bind fun bt756 => ((laws_eqIntS.f k bt756.1 t749).bind fun t760 => (if t760 = true then (if (bt756.2 != t750) = true then (none) else ((laws_toIntSS.f k l0).bind fun t761 => ((laws_eqIntSS.f k t753 t761).bind fun t764 => (if t764 = true then ((laws_markIntSS.f k t753 1).bind fun t765 => (if t765 < 0 then (none) else ((laws_eqIntS.f k bt756.1 t749).bind fun t766 => (if t766 = true then ((laws_markIntS.f k bt756.1 1).bind fun bt767 => ((laws_heldIntS.f k bt767.2 1).bind fun t769 => (if t769 < 0 then (none) else (if t769 = bt767.1 then ((laws_toIntSS.f k l0).bind fun t770 => ((impl_ColumnSums.f k t770).bind fun bt773 => ((laws_eqIntS.f k bt773.1 t749).bind fun t777 => (if t777 = true then (if (bt773.2 != t750) = true then (none) else ((laws_heldIntS.f k bt767.2 1).bind fun t778 => (if t778 < 0 then (none) else (if t778 = bt767.1 then (some true) else (none))))) else (none))))) else (none))))) else (none))))) else (none))))) else (none)))) = some r := H
    have A6 := Aside0.mk A60
    clear A60
    replace H := Option.bind_eq_some_iff.mp H
    obtain ⟨⟨t756, t757⟩, A70, H⟩ := H
    replace H : ((laws_eqIntS.f k t756 t749).bind fun t760 => (if t760 = true then (if (t757 != t750) = true then (none) else ((laws_toIntSS.f k l0).bind fun t761 => ((laws_eqIntSS.f k t753 t761).bind fun t764 => (if t764 = true then ((laws_markIntSS.f k t753 1).bind fun t765 => (if t765 < 0 then (none) else ((laws_eqIntS.f k t756 t749).bind fun t766 => (if t766 = true then ((laws_markIntS.f k t756 1).bind fun bt767 => ((laws_heldIntS.f k bt767.2 1).bind fun t769 => (if t769 < 0 then (none) else (if t769 = bt767.1 then ((laws_toIntSS.f k l0).bind fun t770 => ((impl_ColumnSums.f k t770).bind fun bt773 => ((laws_eqIntS.f k bt773.1 t749).bind fun t777 => (if t777 = true then (if (bt773.2 != t750) = true then (none) else ((laws_heldIntS.f k bt767.2 1).bind fun t778 => (if t778 < 0 then (none) else (if t778 = bt767.1 then (some true) else (none))))) else (none))))) else (none))))) else (none))))) else (none))))) else (none))) = some r := H
    have A7 := Aside0.mk A70
    clear A70
    replace H := Option.bind_eq_some_iff.mp H
    obtain ⟨t760, A80, H⟩ := H
    replace H : (if t760 = true then (if (t757 != t750) = true then (none) else ((laws_toIntSS.f k l0).bind fun t761 => ((laws_eqIntSS.f k t753 t761).bind fun t764 => (if t764 = true then ((laws_markIntSS.f k t753 1).bind fun t765 => (if t765 < 0 then (none) else ((laws_eqIntS.f k t756 t749).bind fun t766 => (if t766 = true then ((laws_markIntS.f k t756 1).bind fun bt767 => ((laws_heldIntS.f k bt767.2 1).bind fun t769 => (if t769 < 0 then (none) else (if t769 = bt767.1 then ((laws_toIntSS.f k l0).bind fun t770 => ((impl_ColumnSums.f k t770).bind fun bt773 => ((laws_eqIntS.f k bt773.1 t749).bind fun t777 => (if t777 = true then (if (bt773.2 != t750) = true then (none) else ((laws_heldIntS.f k bt767.2 1).bind fun t778 => (if t778 < 0 then (none) else (if t778 = bt767.1 then (some true) else (none))))) else (none))))) else (none))))) else (none))))) else (none))))) else (none)) = some r := H
    have A8 := Aside0.mk A80
    clear A80
    by_cases c9 : t760 = true
    · subst c9
      have H1 : (if (t757 != t750) = true then (none) else ((laws_toIntSS.f k l0).bind fun t761 => ((laws_eqIntSS.f k t753 t761).bind fun t764 => (if t764 = true then ((laws_markIntSS.f k t753 1).bind fun t765 => (if t765 < 0 then (none) else ((laws_eqIntS.f k t756 t749).bind fun t766 => (if t766 = true then ((laws_markIntS.f k t756 1).bind fun bt767 => ((laws_heldIntS.f k bt767.2 1).bind fun t769 => (if t769 < 0 then (none) else (if t769 = bt767.1 then ((laws_toIntSS.f k l0).bind fun t770 => ((impl_ColumnSums.f k t770).bind fun bt773 => ((laws_eqIntS.f k bt773.1 t749).bind fun t777 => (if t777 = true then (if (bt773.2 != t750) = true then (none) else ((laws_heldIntS.f k bt767.2 1).bind fun t778 => (if t778 < 0 then (none) else (if t778 = bt767.1 then (some true) else (none))))) else (none))))) else (none))))) else (none))))) else (none))))) = some r := by rw [if_pos rfl] at H; exact H
      clear H
      have H := H1
      clear H1
      by_cases c10 : (t757 != t750) = true
      · rw [if_pos c10] at H
        exact absurd H (by simp)
      · rw [if_neg c10] at H
        have c10b0 : (t757 != t750) = false := by simpa using c10
        (try (have c10b1 : decide (t757 = t750) = true := by simpa using c10))
        (try (have c10b2 : (t757 == t750) = true := by simpa using c10))
        clear c10
        replace H := Option.bind_eq_some_iff.mp H
        obtain ⟨t761, A110, H⟩ := H
        replace H : ((laws_eqIntSS.f k t753 t761).bind fun t764 => (if t764 = true then ((laws_markIntSS.f k t753 1).bind fun t765 => (if t765 < 0 then (none) else ((laws_eqIntS.f k t756 t749).bind fun t766 => (if t766 = true then ((laws_markIntS.f k t756 1).bind fun bt767 => ((laws_heldIntS.f k bt767.2 1).bind fun t769 => (if t769 < 0 then (none) else (if t769 = bt767.1 then ((laws_toIntSS.f k l0).bind fun t770 => ((impl_ColumnSums.f k t770).bind fun bt773 => ((laws_eqIntS.f k bt773.1 t749).bind fun t777 => (if t777 = true then (if (bt773.2 != t750) = true then (none) else ((laws_heldIntS.f k bt767.2 1).bind fun t778 => (if t778 < 0 then (none) else (if t778 = bt767.1 then (some true) else (none))))) else (none))))) else (none))))) else (none))))) else (none))) = some r := H
        have A11 := Aside0.mk A110
        clear A110
        replace H := Option.bind_eq_some_iff.mp H
        obtain ⟨t764, A120, H⟩ := H
        replace H : (if t764 = true then ((laws_markIntSS.f k t753 1).bind fun t765 => (if t765 < 0 then (none) else ((laws_eqIntS.f k t756 t749).bind fun t766 => (if t766 = true then ((laws_markIntS.f k t756 1).bind fun bt767 => ((laws_heldIntS.f k bt767.2 1).bind fun t769 => (if t769 < 0 then (none) else (if t769 = bt767.1 then ((laws_toIntSS.f k l0).bind fun t770 => ((impl_ColumnSums.f k t770).bind fun bt773 => ((laws_eqIntS.f k bt773.1 t749).bind fun t777 => (if t777 = true then (if (bt773.2 != t750) = true then (none) else ((laws_heldIntS.f k bt767.2 1).bind fun t778 => (if t778 < 0 then (none) else (if t778 = bt767.1 then (some true) else (none))))) else (none))))) else (none))))) else (none))))) else (none)) = some r := H
        have A12 := Aside0.mk A120
        clear A120
        by_cases c13 : t764 = true
        · subst c13
          have H1 : ((laws_markIntSS.f k t753 1).bind fun t765 => (if t765 < 0 then (none) else ((laws_eqIntS.f k t756 t749).bind fun t766 => (if t766 = true then ((laws_markIntS.f k t756 1).bind fun bt767 => ((laws_heldIntS.f k bt767.2 1).bind fun t769 => (if t769 < 0 then (none) else (if t769 = bt767.1 then ((laws_toIntSS.f k l0).bind fun t770 => ((impl_ColumnSums.f k t770).bind fun bt773 => ((laws_eqIntS.f k bt773.1 t749).bind fun t777 => (if t777 = true then (if (bt773.2 != t750) = true then (none) else ((laws_heldIntS.f k bt767.2 1).bind fun t778 => (if t778 < 0 then (none) else (if t778 = bt767.1 then (some true) else (none))))) else (none))))) else (none))))) else (none))))) = some r := by rw [if_pos rfl] at H; exact H
          clear H
          have H := H1
          clear H1
          replace H := Option.bind_eq_some_iff.mp H
          obtain ⟨t765, A140, H⟩ := H
          replace H : (if t765 < 0 then (none) else ((laws_eqIntS.f k t756 t749).bind fun t766 => (if t766 = true then ((laws_markIntS.f k t756 1).bind fun bt767 => ((laws_heldIntS.f k bt767.2 1).bind fun t769 => (if t769 < 0 then (none) else (if t769 = bt767.1 then ((laws_toIntSS.f k l0).bind fun t770 => ((impl_ColumnSums.f k t770).bind fun bt773 => ((laws_eqIntS.f k bt773.1 t749).bind fun t777 => (if t777 = true then (if (bt773.2 != t750) = true then (none) else ((laws_heldIntS.f k bt767.2 1).bind fun t778 => (if t778 < 0 then (none) else (if t778 = bt767.1 then (some true) else (none))))) else (none))))) else (none))))) else (none)))) = some r := H
          have A14 := Aside0.mk A140
          clear A140
          by_cases c15 : t765 < 0
          · rw [if_pos c15] at H
            exact absurd H (by simp)
          · rw [if_neg c15] at H
            have c15b0 : decide (t765 < 0) = false := decide_eq_false c15
            clear c15
            replace H := Option.bind_eq_some_iff.mp H
            obtain ⟨t766, A160, H⟩ := H
            replace H : (if t766 = true then ((laws_markIntS.f k t756 1).bind fun bt767 => ((laws_heldIntS.f k bt767.2 1).bind fun t769 => (if t769 < 0 then (none) else (if t769 = bt767.1 then ((laws_toIntSS.f k l0).bind fun t770 => ((impl_ColumnSums.f k t770).bind fun bt773 => ((laws_eqIntS.f k bt773.1 t749).bind fun t777 => (if t777 = true then (if (bt773.2 != t750) = true then (none) else ((laws_heldIntS.f k bt767.2 1).bind fun t778 => (if t778 < 0 then (none) else (if t778 = bt767.1 then (some true) else (none))))) else (none))))) else (none))))) else (none)) = some r := H
            have A16 := Aside0.mk A160
            clear A160
            by_cases c17 : t766 = true
            · subst c17
              have H1 : ((laws_markIntS.f k t756 1).bind fun bt767 => ((laws_heldIntS.f k bt767.2 1).bind fun t769 => (if t769 < 0 then (none) else (if t769 = bt767.1 then ((laws_toIntSS.f k l0).bind fun t770 => ((impl_ColumnSums.f k t770).bind fun bt773 => ((laws_eqIntS.f k bt773.1 t749).bind fun t777 => (if t777 = true then (if (bt773.2 != t750) = true then (none) else ((laws_heldIntS.f k bt767.2 1).bind fun t778 => (if t778 < 0 then (none) else (if t778 = bt767.1 then (some true) else (none))))) else (none))))) else (none))))) = some r := by rw [if_pos rfl] at H; exact H
              clear H
              have H := H1
              clear H1
              replace H := Option.bind_eq_some_iff.mp H
              obtain ⟨⟨t767, t768⟩, A180, H⟩ := H
              replace H : ((laws_heldIntS.f k t768 1).bind fun t769 => (if t769 < 0 then (none) else (if t769 = t767 then ((laws_toIntSS.f k l0).bind fun t770 => ((impl_ColumnSums.f k t770).bind fun bt773 => ((laws_eqIntS.f k bt773.1 t749).bind fun t777 => (if t777 = true then (if (bt773.2 != t750) = true then (none) else ((laws_heldIntS.f k t768 1).bind fun t778 => (if t778 < 0 then (none) else (if t778 = t767 then (some true) else (none))))) else (none))))) else (none)))) = some r := H
              have A18 := Aside0.mk A180
              clear A180
              replace H := Option.bind_eq_some_iff.mp H
              obtain ⟨t769, A190, H⟩ := H
              replace H : (if t769 < 0 then (none) else (if t769 = t767 then ((laws_toIntSS.f k l0).bind fun t770 => ((impl_ColumnSums.f k t770).bind fun bt773 => ((laws_eqIntS.f k bt773.1 t749).bind fun t777 => (if t777 = true then (if (bt773.2 != t750) = true then (none) else ((laws_heldIntS.f k t768 1).bind fun t778 => (if t778 < 0 then (none) else (if t778 = t767 then (some true) else (none))))) else (none))))) else (none))) = some r := H
              have A19 := Aside0.mk A190
              clear A190
              by_cases c20 : t769 < 0
              · rw [if_pos c20] at H
                exact absurd H (by simp)
              · rw [if_neg c20] at H
                have c20b0 : decide (t769 < 0) = false := decide_eq_false c20
                clear c20
                by_cases c21 : t769 = t767
                · rw [if_pos c21] at H
                  have c21b0 : (t769 == t767) = true := beq_iff_eq.mpr c21
                  have c21b1 : (t769 != t767) = false := bne_eq_false_iff_eq.mpr c21
                  clear c21
                  replace H := Option.bind_eq_some_iff.mp H
                  obtain ⟨t770, A220, H⟩ := H
                  replace H : ((impl_ColumnSums.f k t770).bind fun bt773 => ((laws_eqIntS.f k bt773.1 t749).bind fun t777 => (if t777 = true then (if (bt773.2 != t750) = true then (none) else ((laws_heldIntS.f k t768 1).bind fun t778 => (if t778 < 0 then (none) else (if t778 = t767 then (some true) else (none))))) else (none)))) = some r := H
                  have A22 := Aside0.mk A220
                  clear A220
                  replace H := Option.bind_eq_some_iff.mp H
                  obtain ⟨⟨t773, t774⟩, A230, H⟩ := H
                  replace H : ((laws_eqIntS.f k t773 t749).bind fun t777 => (if t777 = true then (if (t774 != t750) = true then (none) else ((laws_heldIntS.f k t768 1).bind fun t778 => (if t778 < 0 then (none) else (if t778 = t767 then (some true) else (none))))) else (none))) = some r := H
                  have A23 := Aside0.mk A230
                  clear A230
                  replace H := Option.bind_eq_some_iff.mp H
                  obtain ⟨t777, A240, H⟩ := H
                  replace H : (if t777 = true then (if (t774 != t750) = true then (none) else ((laws_heldIntS.f k t768 1).bind fun t778 => (if t778 < 0 then (none) else (if t778 = t767 then (some true) else (none))))) else (none)) = some r := H
                  have A24 := Aside0.mk A240
                  clear A240
                  by_cases c25 : t777 = true
                  · subst c25
                    have H1 : (if (t774 != t750) = true then (none) else ((laws_heldIntS.f k t768 1).bind fun t778 => (if t778 < 0 then (none) else (if t778 = t767 then (some true) else (none))))) = some r := by rw [if_pos rfl] at H; exact H
                    clear H
                    have H := H1
                    clear H1
                    by_cases c26 : (t774 != t750) = true
                    · rw [if_pos c26] at H
                      exact absurd H (by simp)
                    · rw [if_neg c26] at H
                      have c26b0 : (t774 != t750) = false := by simpa using c26
                      (try (have c26b1 : decide (t774 = t750) = true := by simpa using c26))
                      (try (have c26b2 : (t774 == t750) = true := by simpa using c26))
                      clear c26
                      replace H := Option.bind_eq_some_iff.mp H
                      obtain ⟨t778, A270, H⟩ := H
                      replace H : (if t778 < 0 then (none) else (if t778 = t767 then (some true) else (none))) = some r := H
                      have A27 := Aside0.mk A270
                      clear A270
                      by_cases c28 : t778 < 0
                      · rw [if_pos c28] at H
                        exact absurd H (by simp)
                      · rw [if_neg c28] at H
                        have c28b0 : decide (t778 < 0) = false := decide_eq_false c28
                        clear c28
                        by_cases c29 : t778 = t767
                        · rw [if_pos c29] at H
                          have c29b0 : (t778 == t767) = true := beq_iff_eq.mpr c29
                          have c29b1 : (t778 != t767) = false := bne_eq_false_iff_eq.mpr c29
                          clear c29
                          obtain rfl := Option.some.inj H
                          go_enter Try.func14, Try.ntmps14
                          go_wp2_with (first | ((with_reducible refine gate_callee (f := 38) rfl ?_); refine goesL_ (some 16) rfl rfl Try.func38 (by kernel_rfl) rfl #[.slice A0 l0.length c0, .int .i64 1048576] rfl (by (try simp only [List.map_toArray, List.map_cons, List.map_nil]); first | done | rfl | (simp only [List.length_drop, List.length_take]; rfl)) ?_; (with_reducible refine (laws_szIntSS.calls k _ _ l0 1048576 t745 _ ?side1 ?side2 A2.out).mono ?_); (case side1 => repeat (first | exact HR0.out | (with_reducible refine Kd.C_alloc ?_ _) | (with_reducible refine Kd.C_drewN ?_ _) | (with_reducible refine Kd.C_drew ?_))); (case side2 => exact HC0.out); rintro e w' ⟨rfl, ⟨nd, rfl⟩⟩; refine ⟨_, rfl, ?_⟩) | ((with_reducible refine gate_callee (f := 40) rfl ?_); refine goesL_ (some 21) rfl rfl Try.func40 (by kernel_rfl) rfl #[.slice A0 l0.length c0] rfl (by (try simp only [List.map_toArray, List.map_cons, List.map_nil]); first | done | rfl | (simp only [List.length_drop, List.length_take]; rfl)) ?_; (with_reducible refine (laws_toIntSS.calls k _ _ l0 t746 _ ?side1 ?side2 A4.out).mono ?_); (case side1 => repeat (first | exact HR0.out | (with_reducible refine Kd.C_alloc ?_ _) | (with_reducible refine Kd.C_drewN ?_ _) | (with_reducible refine Kd.C_drew ?_))); (case side2 => exact HC0.out); rintro e w30 ⟨v747, rfl, ho0, hb⟩; refine ⟨_, rfl, ?_⟩; have n0_ := Aside0.mk (Kd.S_lower ho0 (below_size (by repeat (first | (with_reducible first | exact HB.out | apply below_alloc | apply pw_below_drewN | apply below_drew1) | exact HB.out)))); have n1_ := Aside0.mk (below_step (by repeat (first | (with_reducible first | exact HB.out | apply below_alloc | apply pw_below_drewN | apply below_drew1) | exact HB.out)) hb); clear HB; have HO748 := n0_; have HB := n1_; clear n0_ n1_; (try clear hb); (try clear hb2); (try clear hk); (try clear hi); (try clear ho0); obtain ⟨Ao31, co31, eo31⟩ := Kd.S_slice HO748.out; subst eo31) | ((with_reducible refine gate_callee (f := 48) rfl ?_); refine goesL_ (some 22) rfl rfl Try.func48 (by kernel_rfl) rfl #[.slice Ao31 t746.length co31] rfl (by (try simp only [List.map_toArray, List.map_cons, List.map_nil]); first | done | rfl | (simp only [List.length_drop, List.length_take]; rfl)) ?_; (with_reducible refine (spec_ColumnSums.calls k _ _ t746 t749 t750 _ ?side1 ?side2 A5.out).mono ?_); (case side1 => repeat (first | exact (Kd.S_reads' HO748.out).2.2 | (with_reducible refine Kd.C_alloc ?_ _) | (with_reducible refine Kd.C_drewN ?_ _) | (with_reducible refine Kd.C_drew ?_))); (case side2 => exact (Kd.S_reads' HO748.out).2.1); rintro e w32 ⟨v751, rfl, ho0, hb⟩; refine ⟨_, rfl, ?_⟩; have n0_ := Aside0.mk (Kd.S_elder' (by (with_reducible repeat (first | apply Kd.S_alloc | apply Kd.S_drewN | apply Kd.S_drew)); exact HO748.out) (Kd.R_base ho0) hb); have n1_ := Aside0.mk (Kd.R_lower ho0 (below_size (by repeat (first | (with_reducible first | exact HB.out | apply below_alloc | apply pw_below_drewN | apply below_drew1) | exact HB.out)))); have n2_ := Aside0.mk (below_step (by repeat (first | (with_reducible first | exact HB.out | apply below_alloc | apply pw_below_drewN | apply below_drew1) | exact HB.out)) hb); clear HO748; clear HB; have HO748 := n0_; have HO752 := n1_; have HB := n2_; clear n0_ n1_ n2_; (try clear hb); (try clear hb2); (try clear hk); (try clear hi); (try clear ho0)) | ((with_reducible refine gate_callee (f := 40) rfl ?_); refine goesL_ (some 26) rfl rfl Try.func40 (by kernel_rfl) rfl #[.slice A0 l0.length c0] rfl (by (try simp only [List.map_toArray, List.map_cons, List.map_nil]); first | done | rfl | (simp only [List.length_drop, List.length_take]; rfl)) ?_; (with_reducible refine (laws_toIntSS.calls k _ _ l0 t753 _ ?side1 ?side2 A6.out).mono ?_); (case side1 => repeat (first | exact (Kd.C_below HR0.out HB.out) | (with_reducible refine Kd.C_alloc ?_ _) | (with_reducible refine Kd.C_drewN ?_ _) | (with_reducible refine Kd.C_drew ?_))); (case side2 => exact HC0.out); rintro e w33 ⟨v754, rfl, ho0, hb⟩; refine ⟨_, rfl, ?_⟩; have n0_ := Aside0.mk (Kd.S_elder' (by (with_reducible repeat (first | apply Kd.S_alloc | apply Kd.S_drewN | apply Kd.S_drew)); exact HO748.out) (Kd.S_base ho0) hb); have n1_ := Aside0.mk (Kd.R_below (by (with_reducible repeat (first | apply Kd.R_alloc | apply Kd.R_drewN | apply Kd.R_drew)); exact HO752.out) hb); have n2_ := Aside0.mk (Kd.S_lower (Kd.S_new' (Kd.S_new' ho0 (Kd.S_lt (by (with_reducible repeat (first | apply Kd.S_alloc | apply Kd.S_drewN | apply Kd.S_drew)); exact HO748.out))) (Kd.R_lt (by (with_reducible repeat (first | apply Kd.R_alloc | apply Kd.R_drewN | apply Kd.R_drew)); exact HO752.out))) (below_size (by repeat (first | (with_reducible first | exact HB.out | apply below_alloc | apply pw_below_drewN | apply below_drew1) | exact HB.out)))); have n3_ := Aside0.mk (below_step (by repeat (first | (with_reducible first | exact HB.out | apply below_alloc | apply pw_below_drewN | apply below_drew1) | exact HB.out)) hb); clear HO748; clear HO752; clear HB; have HO748 := n0_; have HO752 := n1_; have HO755 := n2_; have HB := n3_; clear n0_ n1_ n2_ n3_; (try clear hb); (try clear hb2); (try clear hk); (try clear hi); (try clear ho0); obtain ⟨Ao34, co34, eo34⟩ := Kd.S_slice HO755.out; subst eo34) | ((with_reducible refine gate_callee (f := 49) rfl ?_); refine goesL_ (some 29) rfl rfl Try.func49 (by kernel_rfl) rfl #[.slice Ao34 t753.length co34] rfl (by (try simp only [List.map_toArray, List.map_cons, List.map_nil]); first | done | rfl | (simp only [List.length_drop, List.length_take]; rfl)) ?_; (with_reducible refine (impl_ColumnSums.calls k _ _ t753 t756 t757 _ ?side1 ?side2 A7.out).mono ?_); (case side1 => repeat (first | exact (Kd.S_reads' HO755.out).2.2 | (with_reducible refine Kd.C_alloc ?_ _) | (with_reducible refine Kd.C_drewN ?_ _) | (with_reducible refine Kd.C_drew ?_))); (case side2 => exact (Kd.S_reads' HO755.out).2.1); rintro e w35 ⟨v758, rfl, ho0, hb⟩; refine ⟨_, rfl, ?_⟩; have n0_ := Aside0.mk (Kd.S_elder' (by (with_reducible repeat (first | apply Kd.S_alloc | apply Kd.S_drewN | apply Kd.S_drew)); exact HO748.out) (Kd.R_base ho0) hb); have n1_ := Aside0.mk (Kd.R_elder' (by (with_reducible repeat (first | apply Kd.R_alloc | apply Kd.R_drewN | apply Kd.R_drew)); exact HO752.out) (Kd.R_base ho0) hb); have n2_ := Aside0.mk (Kd.S_elder' (by (with_reducible repeat (first | apply Kd.S_alloc | apply Kd.S_drewN | apply Kd.S_drew)); exact HO755.out) (Kd.R_base ho0) hb); have n3_ := Aside0.mk (Kd.R_lower (Kd.R_new' ho0 (Kd.R_lt (by (with_reducible repeat (first | apply Kd.R_alloc | apply Kd.R_drewN | apply Kd.R_drew)); exact HO752.out))) (below_size (by repeat (first | (with_reducible first | exact HB.out | apply below_alloc | apply pw_below_drewN | apply below_drew1) | exact HB.out)))); have n4_ := Aside0.mk (below_step (by repeat (first | (with_reducible first | exact HB.out | apply below_alloc | apply pw_below_drewN | apply below_drew1) | exact HB.out)) hb); clear HO748; clear HO752; clear HO755; clear HB; have HO748 := n0_; have HO752 := n1_; have HO755 := n2_; have HO759 := n3_; have HB := n4_; clear n0_ n1_ n2_ n3_ n4_; (try clear hb); (try clear hb2); (try clear hk); (try clear hi); (try clear ho0); obtain ⟨Ao36, co36, eo36⟩ := Kd.R_slice HO759.out; subst eo36; obtain ⟨Ao37, co37, eo37⟩ := Kd.R_slice HO752.out; subst eo37) | ((with_reducible refine gate_callee (f := 18) rfl ?_); refine goesL_ (some 34) rfl rfl Try.func18 (by kernel_rfl) rfl #[.slice Ao36 t756.length co36, .slice Ao37 t749.length co37] rfl (by (try simp only [List.map_toArray, List.map_cons, List.map_nil]); first | done | rfl | (simp only [List.length_drop, List.length_take]; rfl)) ?_; (with_reducible refine (laws_eqIntS.calls k _ _ t756 _ _ t749 true _ ?side1 ?side2 ?side3 ?side4 A8.out).mono ?_); (case side1 => repeat (first | exact (Kd.R_reads' HO759.out).2.2 | (with_reducible refine Kd.C_alloc ?_ _) | (with_reducible refine Kd.C_drewN ?_ _) | (with_reducible refine Kd.C_drew ?_))); (case side2 => exact (Kd.R_reads' HO759.out).2.1); (case side3 => repeat (first | exact (Kd.R_reads' HO752.out).2.2 | (with_reducible refine Kd.C_alloc ?_ _) | (with_reducible refine Kd.C_drewN ?_ _) | (with_reducible refine Kd.C_drew ?_))); (case side4 => exact (Kd.R_reads' HO752.out).2.1); rintro e w' ⟨rfl, ⟨nd, rfl⟩⟩; refine ⟨_, rfl, ?_⟩) | ((with_reducible refine gate_callee (f := 40) rfl ?_); refine goesL_ (some 43) rfl rfl Try.func40 (by kernel_rfl) rfl #[.slice A0 l0.length c0] rfl (by (try simp only [List.map_toArray, List.map_cons, List.map_nil]); first | done | rfl | (simp only [List.length_drop, List.length_take]; rfl)) ?_; (with_reducible refine (laws_toIntSS.calls k _ _ l0 t761 _ ?side1 ?side2 A11.out).mono ?_); (case side1 => repeat (first | exact (Kd.C_below HR0.out (by repeat (first | (with_reducible first | exact HB.out | apply below_alloc | apply pw_below_drewN | apply below_drew1) | exact HB.out))) | (with_reducible refine Kd.C_alloc ?_ _) | (with_reducible refine Kd.C_drewN ?_ _) | (with_reducible refine Kd.C_drew ?_))); (case side2 => exact HC0.out); rintro e w38 ⟨v762, rfl, ho0, hb⟩; refine ⟨_, rfl, ?_⟩; have n0_ := Aside0.mk (Kd.S_elder' (by (with_reducible repeat (first | apply Kd.S_alloc | apply Kd.S_drewN | apply Kd.S_drew)); exact HO748.out) (Kd.S_base ho0) hb); have n1_ := Aside0.mk (Kd.R_below (by (with_reducible repeat (first | apply Kd.R_alloc | apply Kd.R_drewN | apply Kd.R_drew)); exact HO752.out) hb); have n2_ := Aside0.mk (Kd.S_elder' (by (with_reducible repeat (first | apply Kd.S_alloc | apply Kd.S_drewN | apply Kd.S_drew)); exact HO755.out) (Kd.S_base ho0) hb); have n3_ := Aside0.mk (Kd.R_below (by (with_reducible repeat (first | apply Kd.R_alloc | apply Kd.R_drewN | apply Kd.R_drew)); exact HO759.out) hb); have n4_ := Aside0.mk (Kd.S_lower (Kd.S_new' (Kd.S_new' (Kd.S_new' (Kd.S_new' ho0 (Kd.S_lt (by (with_reducible repeat (first | apply Kd.S_alloc | apply Kd.S_drewN | apply Kd.S_drew)); exact HO748.out))) (Kd.R_lt (by (with_reducible repeat (first | apply Kd.R_alloc | apply Kd.R_drewN | apply Kd.R_drew)); exact HO752.out))) (Kd.S_lt (by (with_reducible repeat (first | apply Kd.S_alloc | apply Kd.S_drewN | apply Kd.S_drew)); exact HO755.out))) (Kd.R_lt (by (with_reducible repeat (first | apply Kd.R_alloc | apply Kd.R_drewN | apply Kd.R_drew)); exact HO759.out))) (below_size (by repeat (first | (with_reducible first | exact HB.out | apply below_alloc | apply pw_below_drewN | apply below_drew1) | exact HB.out)))); have n5_ := Aside0.mk (below_step (by repeat (first | (with_reducible first | exact HB.out | apply below_alloc | apply pw_below_drewN | apply below_drew1) | exact HB.out)) hb); clear HO748; clear HO752; clear HO755; clear HO759; clear HB; have HO748 := n0_; have HO752 := n1_; have HO755 := n2_; have HO759 := n3_; have HO763 := n4_; have HB := n5_; clear n0_ n1_ n2_ n3_ n4_ n5_; (try clear hb); (try clear hb2); (try clear hk); (try clear hi); (try clear ho0); obtain ⟨Ao39, co39, eo39⟩ := Kd.S_slice HO763.out; subst eo39) | ((with_reducible refine gate_callee (f := 42) rfl ?_); refine goesL_ (some 44) rfl rfl Try.func42 (by kernel_rfl) rfl #[.slice Ao34 t753.length co34, .slice Ao39 t761.length co39] rfl (by (try simp only [List.map_toArray, List.map_cons, List.map_nil]); first | done | rfl | (simp only [List.length_drop, List.length_take]; rfl)) ?_; (with_reducible refine (laws_eqIntSS.calls k _ _ t753 _ _ t761 true _ ?side1 ?side2 ?side3 ?side4 A12.out).mono ?_); (case side1 => repeat (first | exact (Kd.S_reads' HO755.out).2.2 | (with_reducible refine Kd.C_alloc ?_ _) | (with_reducible refine Kd.C_drewN ?_ _) | (with_reducible refine Kd.C_drew ?_))); (case side2 => exact (Kd.S_reads' HO755.out).2.1); (case side3 => repeat (first | exact (Kd.S_reads' HO763.out).2.2 | (with_reducible refine Kd.C_alloc ?_ _) | (with_reducible refine Kd.C_drewN ?_ _) | (with_reducible refine Kd.C_drew ?_))); (case side4 => exact (Kd.S_reads' HO763.out).2.1); rintro e w' ⟨rfl, ⟨nd, rfl⟩⟩; refine ⟨_, rfl, ?_⟩) | ((with_reducible refine gate_callee (f := 45) rfl ?_); refine goesL_ (some 48) rfl rfl Try.func45 (by kernel_rfl) rfl #[.slice Ao34 t753.length co34, .int .i64 1] rfl (by (try simp only [List.map_toArray, List.map_cons, List.map_nil]); first | done | rfl | (simp only [List.length_drop, List.length_take]; rfl)) ?_; (with_reducible refine (laws_markIntSS.calls k (fun k_ => ((((True ∧ some k_ ≠ (.slice Ao31 t746.length co31 : Value).ownBlock) ∧ some k_ ≠ (.slice Ao37 t749.length co37 : Value).ownBlock) ∧ some k_ ≠ (.slice Ao36 t756.length co36 : Value).ownBlock) ∧ some k_ ≠ (.slice Ao39 t761.length co39 : Value).ownBlock)) (.slice Ao34 t753.length co34) t753 1 t765 w _ ?side1 ?side2 A14.out).mono ?_); (case side1 => repeat (first | (with_reducible first | exact HB.out | apply below_alloc | apply pw_below_drewN | apply below_drew1) | exact HB.out)); (case side2 => exact HO755.out); rintro e w40 ⟨rfl, hb, hkp⟩; refine ⟨_, rfl, ?_⟩; have n0_ := Aside0.mk (Kd.R_mono (ok' := fun k_ => some k_ ≠ (.slice Ao36 t756.length co36 : Value).ownBlock) (Kd.R_keptB (Kd.R_tight rfl (HO752.out)) hkp (fun k_ hk_ hs_ => (hs_.1.1.2) hk_)) (fun k_ hk_ => (HO752.out.1 k_ hk_.1.symm).2)); have n1_ := Aside0.mk (Kd.R_mono (ok' := fun k_ => some k_ ≠ (.slice Ao37 t749.length co37 : Value).ownBlock) (Kd.R_keptB (Kd.R_tight rfl (HO759.out)) hkp (fun k_ hk_ hs_ => (hs_.1.2) hk_)) (fun k_ hk_ => (HO759.out.1 k_ hk_.1.symm).2)); have n2_ := Aside0.mk (hb); clear HO752; clear HO759; clear HB; clear HO748; clear HO755; clear HO763; have HO752 := n0_; have HO759 := n1_; have HB := n2_; clear n0_ n1_ n2_; (try clear hb); (try clear hkp)) | (go_at_call 18; (with_reducible refine (laws_eqIntS.calls k _ _ t756 _ _ t749 true _ ?side1 ?side2 ?side3 ?side4 A16.out).mono ?_); (case side1 => repeat (first | exact (Kd.R_reads' HO759.out).2.2 | (with_reducible refine Kd.C_alloc ?_ _) | (with_reducible refine Kd.C_drewN ?_ _) | (with_reducible refine Kd.C_drew ?_))); (case side2 => exact (Kd.R_reads' HO759.out).2.1); (case side3 => repeat (first | exact (Kd.R_reads' HO752.out).2.2 | (with_reducible refine Kd.C_alloc ?_ _) | (with_reducible refine Kd.C_drewN ?_ _) | (with_reducible refine Kd.C_drew ?_))); (case side4 => exact (Kd.R_reads' HO752.out).2.1); rintro e w' ⟨rfl, ⟨nd, rfl⟩⟩) | ((with_reducible refine gate_callee (f := 21) rfl ?_); refine goesL_ (some 64) rfl rfl Try.func21 (by kernel_rfl) rfl #[.slice Ao36 t756.length co36, .int .i64 1] rfl (by (try simp only [List.map_toArray, List.map_cons, List.map_nil]); first | done | rfl | (simp only [List.length_drop, List.length_take]; rfl)) ?_; (with_reducible refine (laws_markIntS.calls k (fun k_ => some k_ = (.slice Ao36 t756.length co36 : Value).ownBlock) (.slice Ao36 t756.length co36) t756 1 t767 t768 w _ ?side1 ?side2 A18.out).mono ?_); (case side1 => repeat (first | (with_reducible first | exact HB.out | apply below_alloc | apply pw_below_drewN | apply below_drew1) | exact HB.out)); (case side2 => exact Kd.R_tight rfl HO759.out); rintro e w41 ⟨rfl, hy0, hb, hkp⟩; refine ⟨_, rfl, ?_⟩; have n0_ := Aside0.mk (Kd.R_mono (ok' := fun k_ => some k_ ≠ (.slice Ao36 t756.length co36 : Value).ownBlock) (Kd.R_keptB (HO752.out) hkp (fun k_ hk_ hs_ => (hk_) hs_)) (fun k_ hk_ => hk_.1)); have n1_ := Aside0.mk (Kd.R_reok rfl hy0 (fun k_ e_ => HO759.out.1 k_ e_)); have n2_ := Aside0.mk (hb); clear HO752; clear HO759; clear HB; have HO752 := n0_; have HO759 := n1_; have HB := n2_; clear n0_ n1_ n2_; (try clear hb); (try clear hkp); (try clear hy0)) | ((with_reducible refine gate_callee (f := 22) rfl ?_); refine goesL_ (some 67) rfl rfl Try.func22 (by kernel_rfl) rfl #[.slice Ao36 t768.length co36, .int .i64 1] rfl (by (try simp only [List.map_toArray, List.map_cons, List.map_nil]); first | done | (rw [show t768.length = t756.length from (Kd.R_reads' HO759.out).1.symm] <;> rfl) | rfl | (simp only [List.length_drop, List.length_take]; rfl)) ?_; (with_reducible refine (laws_heldIntS.calls k _ _ t768 1 t769 _ ?side1 ?side2 A19.out).mono ?_); (case side1 => repeat (first | exact (Kd.R_reads' HO759.out).2.2 | (with_reducible refine Kd.C_alloc ?_ _) | (with_reducible refine Kd.C_drewN ?_ _) | (with_reducible refine Kd.C_drew ?_))); (case side2 => rw [show t768.length = t756.length from (Kd.R_reads' HO759.out).1.symm]; exact (Kd.R_reads' HO759.out).2.1); rintro e w' ⟨rfl, ⟨nd, rfl⟩⟩; refine ⟨_, rfl, ?_⟩) | ((with_reducible refine gate_callee (f := 40) rfl ?_); refine goesL_ (some 75) rfl rfl Try.func40 (by kernel_rfl) rfl #[.slice A0 l0.length c0] rfl (by (try simp only [List.map_toArray, List.map_cons, List.map_nil]); first | done | rfl | (simp only [List.length_drop, List.length_take]; rfl)) ?_; (with_reducible refine (laws_toIntSS.calls k _ _ l0 t770 _ ?side1 ?side2 A22.out).mono ?_); (case side1 => repeat (first | exact (Kd.C_below HR0.out (by repeat (first | (with_reducible first | exact HB.out | apply below_alloc | apply pw_below_drewN | apply below_drew1) | exact HB.out))) | (with_reducible refine Kd.C_alloc ?_ _) | (with_reducible refine Kd.C_drewN ?_ _) | (with_reducible refine Kd.C_drew ?_))); (case side2 => exact HC0.out); rintro e w42 ⟨v771, rfl, ho0, hb⟩; refine ⟨_, rfl, ?_⟩; have n0_ := Aside0.mk (Kd.R_below (by (with_reducible repeat (first | apply Kd.R_alloc | apply Kd.R_drewN | apply Kd.R_drew)); exact HO752.out) hb); have n1_ := Aside0.mk (Kd.R_below (by (with_reducible repeat (first | apply Kd.R_alloc | apply Kd.R_drewN | apply Kd.R_drew)); exact HO759.out) hb); have n2_ := Aside0.mk (Kd.S_lower (Kd.S_new' (Kd.S_new' ho0 (Kd.R_lt (by (with_reducible repeat (first | apply Kd.R_alloc | apply Kd.R_drewN | apply Kd.R_drew)); exact HO752.out))) (Kd.R_lt (by (with_reducible repeat (first | apply Kd.R_alloc | apply Kd.R_drewN | apply Kd.R_drew)); exact HO759.out))) (below_size (by repeat (first | (with_reducible first | exact HB.out | apply below_alloc | apply pw_below_drewN | apply below_drew1) | exact HB.out)))); have n3_ := Aside0.mk (below_step (by repeat (first | (with_reducible first | exact HB.out | apply below_alloc | apply pw_below_drewN | apply below_drew1) | exact HB.out)) hb); clear HO752; clear HO759; clear HB; have HO752 := n0_; have HO759 := n1_; have HO772 := n2_; have HB := n3_; clear n0_ n1_ n2_ n3_; (try clear hb); (try clear hb2); (try clear hk); (try clear hi); (try clear ho0); obtain ⟨Ao43, co43, eo43⟩ := Kd.S_slice HO772.out; subst eo43) | ((with_reducible refine gate_callee (f := 49) rfl ?_); refine goesL_ (some 76) rfl rfl Try.func49 (by kernel_rfl) rfl #[.slice Ao43 t770.length co43] rfl (by (try simp only [List.map_toArray, List.map_cons, List.map_nil]); first | done | rfl | (simp only [List.length_drop, List.length_take]; rfl)) ?_; (with_reducible refine (impl_ColumnSums.calls k _ _ t770 t773 t774 _ ?side1 ?side2 A23.out).mono ?_); (case side1 => repeat (first | exact (Kd.S_reads' HO772.out).2.2 | (with_reducible refine Kd.C_alloc ?_ _) | (with_reducible refine Kd.C_drewN ?_ _) | (with_reducible refine Kd.C_drew ?_))); (case side2 => exact (Kd.S_reads' HO772.out).2.1); rintro e w44 ⟨v775, rfl, ho0, hb⟩; refine ⟨_, rfl, ?_⟩; have n0_ := Aside0.mk (Kd.R_elder' (by (with_reducible repeat (first | apply Kd.R_alloc | apply Kd.R_drewN | apply Kd.R_drew)); exact HO752.out) (Kd.R_base ho0) hb); have n1_ := Aside0.mk (Kd.R_elder' (by (with_reducible repeat (first | apply Kd.R_alloc | apply Kd.R_drewN | apply Kd.R_drew)); exact HO759.out) (Kd.R_base ho0) hb); have n2_ := Aside0.mk (Kd.S_elder' (by (with_reducible repeat (first | apply Kd.S_alloc | apply Kd.S_drewN | apply Kd.S_drew)); exact HO772.out) (Kd.R_base ho0) hb); have n3_ := Aside0.mk (Kd.R_lower (Kd.R_new' (Kd.R_new' ho0 (Kd.R_lt (by (with_reducible repeat (first | apply Kd.R_alloc | apply Kd.R_drewN | apply Kd.R_drew)); exact HO752.out))) (Kd.R_lt (by (with_reducible repeat (first | apply Kd.R_alloc | apply Kd.R_drewN | apply Kd.R_drew)); exact HO759.out))) (below_size (by repeat (first | (with_reducible first | exact HB.out | apply below_alloc | apply pw_below_drewN | apply below_drew1) | exact HB.out)))); have n4_ := Aside0.mk (below_step (by repeat (first | (with_reducible first | exact HB.out | apply below_alloc | apply pw_below_drewN | apply below_drew1) | exact HB.out)) hb); clear HO752; clear HO759; clear HO772; clear HB; have HO752 := n0_; have HO759 := n1_; have HO772 := n2_; have HO776 := n3_; have HB := n4_; clear n0_ n1_ n2_ n3_ n4_; (try clear hb); (try clear hb2); (try clear hk); (try clear hi); (try clear ho0); obtain ⟨Ao45, co45, eo45⟩ := Kd.R_slice HO776.out; subst eo45) | ((with_reducible refine gate_callee (f := 18) rfl ?_); refine goesL_ (some 81) rfl rfl Try.func18 (by kernel_rfl) rfl #[.slice Ao45 t773.length co45, .slice Ao37 t749.length co37] rfl (by (try simp only [List.map_toArray, List.map_cons, List.map_nil]); first | done | rfl | (simp only [List.length_drop, List.length_take]; rfl)) ?_; (with_reducible refine (laws_eqIntS.calls k _ _ t773 _ _ t749 true _ ?side1 ?side2 ?side3 ?side4 A24.out).mono ?_); (case side1 => repeat (first | exact (Kd.R_reads' HO776.out).2.2 | (with_reducible refine Kd.C_alloc ?_ _) | (with_reducible refine Kd.C_drewN ?_ _) | (with_reducible refine Kd.C_drew ?_))); (case side2 => exact (Kd.R_reads' HO776.out).2.1); (case side3 => repeat (first | exact (Kd.R_reads' HO752.out).2.2 | (with_reducible refine Kd.C_alloc ?_ _) | (with_reducible refine Kd.C_drewN ?_ _) | (with_reducible refine Kd.C_drew ?_))); (case side4 => exact (Kd.R_reads' HO752.out).2.1); rintro e w' ⟨rfl, ⟨nd, rfl⟩⟩; refine ⟨_, rfl, ?_⟩) | ((with_reducible refine gate_callee (f := 22) rfl ?_); refine goesL_ (some 90) rfl rfl Try.func22 (by kernel_rfl) rfl #[.slice Ao36 t768.length co36, .int .i64 1] rfl (by (try simp only [List.map_toArray, List.map_cons, List.map_nil]); first | done | (rw [show t768.length = t756.length from (Kd.R_reads' HO759.out).1.symm] <;> rfl) | rfl | (simp only [List.length_drop, List.length_take]; rfl)) ?_; (with_reducible refine (laws_heldIntS.calls k _ _ t768 1 t778 _ ?side1 ?side2 A27.out).mono ?_); (case side1 => repeat (first | exact (Kd.R_reads' HO759.out).2.2 | (with_reducible refine Kd.C_alloc ?_ _) | (with_reducible refine Kd.C_drewN ?_ _) | (with_reducible refine Kd.C_drew ?_))); (case side2 => rw [show t768.length = t756.length from (Kd.R_reads' HO759.out).1.symm]; exact (Kd.R_reads' HO759.out).2.1); rintro e w' ⟨rfl, ⟨nd, rfl⟩⟩; refine ⟨_, rfl, ?_⟩))
                          go_ret
                          exact ⟨by first | rfl | (simp [errW_none, errW_some] <;> rfl) | (simp [*, errW_none, errW_some] <;> rfl), by repeat (first | (with_reducible first | exact HB.out | apply below_alloc | apply pw_below_drewN | apply below_drew1) | exact HB.out)⟩
                        · rw [if_neg c29] at H
                          exact absurd H (by simp)
                  · replace c25 := Bool.eq_false_iff.mpr c25
                    subst c25
                    have H1 : (none) = some r := by rw [if_neg (show ¬ (false = true) by decide)] at H; exact H
                    clear H
                    have H := H1
                    clear H1
                    exact absurd H (by simp)
                · rw [if_neg c21] at H
                  exact absurd H (by simp)
            · replace c17 := Bool.eq_false_iff.mpr c17
              subst c17
              have H1 : (none) = some r := by rw [if_neg (show ¬ (false = true) by decide)] at H; exact H
              clear H
              have H := H1
              clear H1
              exact absurd H (by simp)
        · replace c13 := Bool.eq_false_iff.mpr c13
          subst c13
          have H1 : (none) = some r := by rw [if_neg (show ¬ (false = true) by decide)] at H; exact H
          clear H
          have H := H1
          clear H1
          exact absurd H (by simp)
    · replace c9 := Bool.eq_false_iff.mpr c9
      subst c9
      have H1 : (none) = some r := by rw [if_neg (show ¬ (false = true) by decide)] at H; exact H
      clear H
      have H := H1
      clear H1
      exact absurd H (by simp)

end
end Go.Proofs.Ytnoagkhmmckiaaa.Hd
