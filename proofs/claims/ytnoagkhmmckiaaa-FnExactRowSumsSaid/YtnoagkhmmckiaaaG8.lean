-- Printed by hprint.py and laid together by pack.py (this session's programs over the kit's print program). Lean checks it.
import Derived.Test.YtnoagkhmmckiaaaG0
import Derived.Test.YtnoagkhmmckiaaaG1
import Derived.Test.YtnoagkhmmckiaaaMBlock
import Derived.Test.YtnoagkhmmckiaaaG4
import Derived.Test.YtnoagkhmmckiaaaMMarkIntSS
namespace Go.Proofs.Ytnoagkhmmckiaaa.Hd
section
open Go.RowKit Go.Proofs.YtnoagkhmmckiaaaW.PrintWords Go.Proofs.YtnoagkhmmckiaaaW.PrintLast Go.Proofs.YtnoagkhmmckiaaaW.PrintMore
attribute [local go_sem] max2_int min2_int max_two min_two max_three min_three max_four min_four   -- for this text's walks alone
set_option linter.unusedVariables false
set_option linter.unusedSimpArgs false

/-! ### impl_RowSums: function 47 -/
def impl_RowSums.f (k : Nat) (l0 : List (List Int)) : Option (List Int × Bool) := (impl_IsBlock.f k l0).bind fun t683 => (if t683 = true then ((impl_rowSums.f k l0).bind fun t684 => (some (t684, true))) else (some (([] : List Int), false)))
theorem impl_RowSums.mono : ∀ a0 k, LeO (impl_RowSums.f k a0) (impl_RowSums.f (k + 1) a0) := by
  intro a0 k
  unfold impl_RowSums.f
  repeat' first
      | (with_reducible exact impl_IsBlock.mono _ _)
      | (with_reducible exact impl_rowSums.mono _ _)
      | (with_reducible exact LeO.refl _)
      | (with_reducible exact LeO.none _)
      | (with_reducible refine LeO.ite ?_ ?_)
      | (with_reducible refine LeO.bind ?_ (fun _ => ?_))
      | exact impl_IsBlock.mono _ _
      | exact impl_rowSums.mono _ _
      | exact LeO.none _
      | refine LeO.ite ?_ ?_
      | refine LeO.bind ?_ (fun _ => ?_)
set_option maxHeartbeats 8000000 in
set_option maxRecDepth 100000 in
theorem impl_RowSums.calls (k : Nat) (A0 : Option Addr) (c0 : Nat) (l0 : List (List Int)) (r1 : List Int) (r2 : Bool) (w : World) (hr0 : Kd.C (Kd.slice 3 (Kd.int .i64)) w A0 l0.length l0) (hc0 : l0.length ≤ c0) (h : impl_RowSums.f k l0 = some (r1, r2)) :
    Calls Try.prog 47 #[.slice A0 l0.length c0] w fun e w' => ∃ v0_ : Value, e = .returned (.tuple #[v0_, .bool r2]) ∧ Kd.R (Kd.int .i64) 3 w' w.heap.size (fun _ => True) v0_ r1 ∧ Below w.heap.size w w' := by
  have HR0 := Aside0.mk hr0
  have HC0 := Aside0.mk hc0
  clear hr0 hc0
  have HB := Aside0.mk (Below.refl w.heap.size w)
  have H : ((impl_IsBlock.f k l0).bind fun t683 => (if t683 = true then ((impl_rowSums.f k l0).bind fun t684 => (some (t684, true))) else (some (([] : List Int), false)))) = some (r1, r2) := h
  clear h
  replace H := Option.bind_eq_some_iff.mp H
  obtain ⟨t683, A20, H⟩ := H
  replace H : (if t683 = true then ((impl_rowSums.f k l0).bind fun t684 => (some (t684, true))) else (some (([] : List Int), false))) = some (r1, r2) := H
  have A2 := Aside0.mk A20
  clear A20
  by_cases c3 : t683 = true
  · subst c3
    have H1 : ((impl_rowSums.f k l0).bind fun t684 => (some (t684, true))) = some (r1, r2) := by rw [if_pos rfl] at H; exact H
    clear H
    have H := H1
    clear H1
    replace H := Option.bind_eq_some_iff.mp H
    obtain ⟨t684, A40, H⟩ := H
    replace H : (some (t684, true)) = some (r1, r2) := H
    have A4 := Aside0.mk A40
    clear A40
    simp only [Option.some.injEq, Prod.mk.injEq] at H
    obtain ⟨rfl, rfl⟩ := H
    go_enter Try.func47, Try.ntmps47
    go_wp2_with (first | ((with_reducible refine gate_callee (f := 41) rfl ?_); refine goesL_ (some 5) rfl rfl Try.func41 (by kernel_rfl) rfl #[.slice A0 l0.length c0] rfl (by (try simp only [List.map_toArray, List.map_cons, List.map_nil]); first | done | rfl | (simp only [List.length_drop, List.length_take]; rfl)) ?_; (with_reducible refine (impl_IsBlock.calls k _ _ l0 true _ ?side1 ?side2 A2.out).mono ?_); (case side1 => repeat (first | exact HR0.out | (with_reducible refine Kd.C_alloc ?_ _) | (with_reducible refine Kd.C_drewN ?_ _) | (with_reducible refine Kd.C_drew ?_))); (case side2 => exact HC0.out); rintro e w5 ⟨rfl, hb⟩; refine ⟨_, rfl, ?_⟩; have n0_ := Aside0.mk (below_step (by repeat (first | (with_reducible first | exact HB.out | apply below_alloc | apply pw_below_drewN | apply below_drew1) | exact HB.out)) hb); clear HB; have HB := n0_; clear n0_; (try clear hb); (try clear hb2); (try clear hk); (try clear hi)) | ((with_reducible refine gate_callee (f := 76) rfl ?_); refine goesL_ (some 8) rfl rfl Try.func76 (by kernel_rfl) rfl #[.slice A0 l0.length c0] rfl (by (try simp only [List.map_toArray, List.map_cons, List.map_nil]); first | done | rfl | (simp only [List.length_drop, List.length_take]; rfl)) ?_; (with_reducible refine (impl_rowSums.calls k _ _ l0 t684 _ ?side1 ?side2 A4.out).mono ?_); (case side1 => repeat (first | exact (Kd.C_below HR0.out HB.out) | (with_reducible refine Kd.C_alloc ?_ _) | (with_reducible refine Kd.C_drewN ?_ _) | (with_reducible refine Kd.C_drew ?_))); (case side2 => exact HC0.out); rintro e w6 ⟨v685, rfl, ho0, hb⟩; refine ⟨_, rfl, ?_⟩; have n0_ := Aside0.mk (Kd.R_lower ho0 (below_size (by repeat (first | (with_reducible first | exact HB.out | apply below_alloc | apply pw_below_drewN | apply below_drew1) | exact HB.out)))); have n1_ := Aside0.mk (below_step (by repeat (first | (with_reducible first | exact HB.out | apply below_alloc | apply pw_below_drewN | apply below_drew1) | exact HB.out)) hb); clear HB; have HO686 := n0_; have HB := n1_; clear n0_ n1_; (try clear hb); (try clear hb2); (try clear hk); (try clear hi); (try clear ho0)))
    go_ret2
    exact ⟨_, by first | rfl | (simp [errW_none, errW_some] <;> rfl) | (simp [*, errW_none, errW_some] <;> rfl), by (with_reducible repeat (first | apply Kd.R_alloc | apply Kd.R_drewN | apply Kd.R_drew)); exact HO686.out, by repeat (first | (with_reducible first | exact HB.out | apply below_alloc | apply pw_below_drewN | apply below_drew1) | exact HB.out)⟩
  · replace c3 := Bool.eq_false_iff.mpr c3
    subst c3
    have H1 : (some (([] : List Int), false)) = some (r1, r2) := by rw [if_neg (show ¬ (false = true) by decide)] at H; exact H
    clear H
    have H := H1
    clear H1
    simp only [Option.some.injEq, Prod.mk.injEq] at H
    obtain ⟨rfl, rfl⟩ := H
    go_enter Try.func47, Try.ntmps47
    go_wp2_with (first | ((with_reducible refine gate_callee (f := 41) rfl ?_); refine goesL_ (some 5) rfl rfl Try.func41 (by kernel_rfl) rfl #[.slice A0 l0.length c0] rfl (by (try simp only [List.map_toArray, List.map_cons, List.map_nil]); first | done | rfl | (simp only [List.length_drop, List.length_take]; rfl)) ?_; (with_reducible refine (impl_IsBlock.calls k _ _ l0 false _ ?side1 ?side2 A2.out).mono ?_); (case side1 => repeat (first | exact HR0.out | (with_reducible refine Kd.C_alloc ?_ _) | (with_reducible refine Kd.C_drewN ?_ _) | (with_reducible refine Kd.C_drew ?_))); (case side2 => exact HC0.out); rintro e w7 ⟨rfl, hb⟩; refine ⟨_, rfl, ?_⟩; have n0_ := Aside0.mk (below_step (by repeat (first | (with_reducible first | exact HB.out | apply below_alloc | apply pw_below_drewN | apply below_drew1) | exact HB.out)) hb); clear HB; have HB := n0_; clear n0_; (try clear hb); (try clear hb2); (try clear hk); (try clear hi)))
    go_ret2
    exact ⟨_, by first | rfl | (simp [errW_none, errW_some] <;> rfl) | (simp [*, errW_none, errW_some] <;> rfl), by first | exact Kd.R_nil _ _ _ _ _ | exact Kd.N_nil _ _ _ _ _ | exact Kd.V_nil _ _ _ _ _ | exact Kd.Q_nil _ _ _ _ _ | exact Kd.S_nil _ _ _ _ _, by repeat (first | (with_reducible first | exact HB.out | apply below_alloc | apply pw_below_drewN | apply below_drew1) | exact HB.out)⟩

end
section
open Go.RowKit Go.Proofs.YtnoagkhmmckiaaaW.PrintWords Go.Proofs.YtnoagkhmmckiaaaW.PrintLast Go.Proofs.YtnoagkhmmckiaaaW.PrintMore
attribute [local go_sem] max2_int min2_int max_two min_two max_three min_three max_four min_four   -- for this text's walks alone
set_option linter.unusedVariables false
set_option linter.unusedSimpArgs false

/-! ### laws_FnExactRowSums: function 13 -/
def laws_FnExactRowSums.f (k : Nat) (l0 : List (List Int)) : Option (Bool) := (laws_szIntSS.f k l0 1048576).bind fun t687 => (if t687 < 0 then (some true) else ((laws_toIntSS.f k l0).bind fun t688 => ((spec_RowSums.f k t688).bind fun bt691 => ((laws_toIntSS.f k l0).bind fun t695 => ((impl_RowSums.f k t695).bind fun bt698 => ((laws_eqIntS.f k bt698.1 bt691.1).bind fun t702 => (if t702 = true then (if (bt698.2 != bt691.2) = true then (none) else ((laws_toIntSS.f k l0).bind fun t703 => ((laws_eqIntSS.f k t695 t703).bind fun t706 => (if t706 = true then ((laws_markIntSS.f k t695 1).bind fun t707 => (if t707 < 0 then (none) else ((laws_eqIntS.f k bt698.1 bt691.1).bind fun t708 => (if t708 = true then ((laws_markIntS.f k bt698.1 1).bind fun bt709 => ((laws_heldIntS.f k bt709.2 1).bind fun t711 => (if t711 < 0 then (none) else (if t711 = bt709.1 then ((laws_toIntSS.f k l0).bind fun t712 => ((impl_RowSums.f k t712).bind fun bt715 => ((laws_eqIntS.f k bt715.1 bt691.1).bind fun t719 => (if t719 = true then (if (bt715.2 != bt691.2) = true then (none) else ((laws_heldIntS.f k bt709.2 1).bind fun t720 => (if t720 < 0 then (none) else (if t720 = bt709.1 then (some true) else (none))))) else (none))))) else (none))))) else (none))))) else (none))))) else (none))))))))
theorem laws_FnExactRowSums.mono : ∀ a0 k, LeO (laws_FnExactRowSums.f k a0) (laws_FnExactRowSums.f (k + 1) a0) := by
  intro a0 k
  unfold laws_FnExactRowSums.f
  repeat' first
      | (with_reducible exact impl_RowSums.mono _ _)
      | (with_reducible exact laws_eqIntS.mono _ _ _)
      | (with_reducible exact laws_eqIntSS.mono _ _ _)
      | (with_reducible exact laws_heldIntS.mono _ _ _)
      | (with_reducible exact laws_markIntS.mono _ _ _)
      | (with_reducible exact laws_markIntSS.mono _ _ _)
      | (with_reducible exact laws_szIntSS.mono _ _ _)
      | (with_reducible exact laws_toIntSS.mono _ _)
      | (with_reducible exact spec_RowSums.mono _ _)
      | (with_reducible exact LeO.refl _)
      | (with_reducible exact LeO.none _)
      | (with_reducible refine LeO.ite ?_ ?_)
      | (with_reducible refine LeO.bind ?_ (fun _ => ?_))
      | exact impl_RowSums.mono _ _
      | exact laws_eqIntS.mono _ _ _
      | exact laws_eqIntSS.mono _ _ _
      | exact laws_heldIntS.mono _ _ _
      | exact laws_markIntS.mono _ _ _
      | exact laws_markIntSS.mono _ _ _
      | exact laws_szIntSS.mono _ _ _
      | exact laws_toIntSS.mono _ _
      | exact spec_RowSums.mono _ _
      | exact LeO.none _
      | refine LeO.ite ?_ ?_
      | refine LeO.bind ?_ (fun _ => ?_)
set_option maxHeartbeats 8000000 in
set_option maxRecDepth 100000 in
theorem laws_FnExactRowSums.calls (k : Nat) (A0 : Option Addr) (c0 : Nat) (l0 : List (List Int)) (r : Bool) (w : World) (hr0 : Kd.C (Kd.slice 3 (Kd.int .i64)) w A0 l0.length l0) (hc0 : l0.length ≤ c0) (h : laws_FnExactRowSums.f k l0 = some r) :
    Calls Try.prog 13 #[.slice A0 l0.length c0] w fun e w' => e = .returned (.bool r) ∧ Below w.heap.size w w' := by
  have HR0 := Aside0.mk hr0
  have HC0 := Aside0.mk hc0
  clear hr0 hc0
  have HB := Aside0.mk (Below.refl w.heap.size w)
  have H : ((laws_szIntSS.f k l0 1048576).bind fun t687 => (if t687 < 0 then (some true) else ((laws_toIntSS.f k l0).bind fun t688 => ((spec_RowSums.f k t688).bind fun bt691 => ((laws_toIntSS.f k l0).bind fun t695 => ((impl_RowSums.f k t695).bind fun bt698 => ((laws_eqIntS.f k bt698.1 bt691.1).bind fun t702 => (if t702 = true then (if (bt698.2 != bt691.2) = true then (none) else ((laws_toIntSS.f k l0).bind fun t703 => ((laws_eqIntSS.f k t695 t703).bind fun t706 => (if t706 = true then ((laws_markIntSS.f k t695 1).bind fun t707 => (if t707 < 0 then (none) else ((laws_eqIntS.f k bt698.1 bt691.1).bind fun t708 => (if t708 = true then ((laws_markIntS.f k bt698.1 1).bind fun bt709 => ((laws_heldIntS.f k bt709.2 1).bind fun t711 => (if t711 < 0 then (none) else (if t711 = bt709.1 then ((laws_toIntSS.f k l0).bind fun t712 => ((impl_RowSums.f k t712).bind fun bt715 => ((laws_eqIntS.f k bt715.1 bt691.1).bind fun t719 => (if t719 = true then (if (bt715.2 != bt691.2) = true then (none) else ((laws_heldIntS.f k bt709.2 1).bind fun t720 => (if t720 < 0 then (none) else (if t720 = bt709.1 then (some true) else (none))))) else (none))))) else (none))))) else (none))))) else (none))))) else (none))))))))) = some r := h
  clear h
  replace H := Option.bind_eq_some_iff.mp H
  obtain ⟨t687, A20, H⟩ := H
  replace H : (if t687 < 0 then (some true) else ((laws_toIntSS.f k l0).bind fun t688 => ((spec_RowSums.f k t688).bind fun bt691 => ((laws_toIntSS.f k l0).bind fun t695 => ((impl_RowSums.f k t695).bind fun bt698 => ((laws_eqIntS.f k bt698.1 bt691.1).bind fun t702 => (if t702 = true then (if (bt698.2 != bt691.2) = true then (none) else ((laws_toIntSS.f k l0).bind fun t703 => ((laws_eqIntSS.f k t695 t703).bind fun t706 => (if t706 = true then ((laws_markIntSS.f k t695 1).bind fun t707 => (if t707 < 0 then (none) else ((laws_eqIntS.f k bt698.1 bt691.1).bind fun t708 => (if t708 = true then ((laws_markIntS.f k bt698.1 1).bind fun bt709 => ((laws_heldIntS.f k bt709.2 1).bind fun t711 => (if t711 < 0 then (none) else (if t711 = bt709.1 then ((laws_toIntSS.f k l0).bind fun t712 => ((impl_RowSums.f k t712).bind fun bt715 => ((laws_eqIntS.f k bt715.1 bt691.1).bind fun t719 => (if t719 = true then (if (bt715.2 != bt691.2) = true then (none) else ((laws_heldIntS.f k bt709.2 1).bind fun t720 => (if t720 < 0 then (none) else (if t720 = bt709.1 then (some true) else (none))))) else (none))))) else (none))))) else (none))))) else (none))))) else (none)))))))) = some r := H
  have A2 := Aside0.mk A20
  clear A20
  by_cases c3 : t687 < 0
  · rw [if_pos c3] at H
    have c3b0 : decide (t687 < 0) = true := decide_eq_true c3
    clear c3
    obtain rfl := Option.some.inj H
    go_enter Try.func13, Try.ntmps13
    go_wp2_with (first | ((with_reducible refine gate_callee (f := 38) rfl ?_); refine goesL_ (some 16) rfl rfl Try.func38 (by kernel_rfl) rfl #[.slice A0 l0.length c0, .int .i64 1048576] rfl (by (try simp only [List.map_toArray, List.map_cons, List.map_nil]); first | done | rfl | (simp only [List.length_drop, List.length_take]; rfl)) ?_; (with_reducible refine (laws_szIntSS.calls k _ _ l0 1048576 t687 _ ?side1 ?side2 A2.out).mono ?_); (case side1 => repeat (first | exact HR0.out | (with_reducible refine Kd.C_alloc ?_ _) | (with_reducible refine Kd.C_drewN ?_ _) | (with_reducible refine Kd.C_drew ?_))); (case side2 => exact HC0.out); rintro e w' ⟨rfl, ⟨nd, rfl⟩⟩; refine ⟨_, rfl, ?_⟩))
    go_ret
    exact ⟨by first | rfl | (simp [errW_none, errW_some] <;> rfl) | (simp [*, errW_none, errW_some] <;> rfl), by repeat (first | (with_reducible first | exact HB.out | apply below_alloc | apply pw_below_drewN | apply below_drew1) | exact HB.out)⟩
  · rw [if_neg c3] at H
    have c3b0 : decide (t687 < 0) = false := decide_eq_false c3
    clear c3
    replace H := Option.bind_eq_some_iff.mp H
    obtain ⟨t688, A40, H⟩ := H
    replace H : ((spec_RowSums.f k t688).bind fun bt691 => ((laws_toIntSS.f k l0).bind fun t695 => ((impl_RowSums.f k t695).bind fun bt698 => ((laws_eqIntS.f k bt698.1 bt691.1).bind fun t702 => (if t702 = true then (if (bt698.2 != bt691.2) = true then (none) else ((laws_toIntSS.f k l0).bind fun t703 => ((laws_eqIntSS.f k t695 t703).bind fun t706 => (if t706 = true then ((laws_markIntSS.f k t695 1).bind fun t707 => (if t707 < 0 then (none) else ((laws_eqIntS.f k bt698.1 bt691.1).bind fun t708 => (if t708 = true then ((laws_markIntS.f k bt698.1 1).bind fun bt709 => ((laws_heldIntS.f k bt709.2 1).bind fun t711 => (if t711 < 0 then (none) else (if t711 = bt709.1 then ((laws_toIntSS.f k l0).bind fun t712 => ((impl_RowSums.f k t712).bind fun bt715 => ((laws_eqIntS.f k bt715.1 bt691.1).bind fun t719 => (if t719 = true then (if (bt715.2 != bt691.2) = true then (none) else ((laws_heldIntS.f k bt709.2 1).bind fun t720 => (if t720 < 0 then (none) else (if t720 = bt709.1 then (some true) else (none))))) else (none))))) else (none))))) else (none))))) else (none))))) else (none)))))) = some r := H
    have A4 := Aside0.mk A40
    clear A40
    replace H := Option.bind_eq_some_iff.mp H
    obtain ⟨⟨t691, t692⟩, A50, H⟩ := H
    replace H : ((laws_toIntSS.f k l0).bind fun t695 => ((impl_RowSums.f k t695).bind fun bt698 => ((laws_eqIntS.f k bt698.1 t691).bind fun t702 => (if t702 = true then (if (bt698.2 != t692) = true then (none) else ((laws_toIntSS.f k l0).bind fun t703 => ((laws_eqIntSS.f k t695 t703).bind fun t706 => (if t706 = true then ((laws_markIntSS.f k t695 1).bind fun t707 => (if t707 < 0 then (none) else ((laws_eqIntS.f k bt698.1 t691).bind fun t708 => (if t708 = true then ((laws_markIntS.f k bt698.1 1).bind fun bt709 => ((laws_heldIntS.f k bt709.2 1).bind fun t711 => (if t711 < 0 then (none) else (if t711 = bt709.1 then ((laws_toIntSS.f k l0).bind fun t712 => ((impl_RowSums.f k t712).bind fun bt715 => ((laws_eqIntS.f k bt715.1 t691).bind fun t719 => (if t719 = true then (if (bt715.2 != t692) = true then (none) else ((laws_heldIntS.f k bt709.2 1).bind fun t720 => (if t720 < 0 then (none) else (if t720 = bt709.1 then (some true) else (none))))) else (none))))) else (none))))) else (none))))) else (none))))) else (none))))) = some r := H
    have A5 := Aside0.mk A50
    clear A50
    replace H := Option.bind_eq_some_iff.mp H
    obtain ⟨t695, A60, H⟩ := H
    replace H : ((impl_RowSums.f k t695).bind fun bt698 => ((laws_eqIntS.f k bt698.1 t691).bind fun t702 => (if t702 = true then (if (bt698.2 != t692) = true then (none) else ((laws_toIntSS.f k l0).bind fun t703 => ((laws_eqIntSS.f k t695 t703).bind fun t706 => (if t706 = true then ((laws_markIntSS.f k t695 1).bind fun t707 => (if t707 < 0 then (none) else ((laws_eqIntS.f k bt698.1 t691).bind fun t708 => (if t708 = true then ((laws_markIntS.f k bt698.1 1).bind fun bt709 => ((laws_heldIntS.f k bt709.2 1).bind fun t711 => (if t711 < 0 then (none) else (if t711 = bt709.1 then ((laws_toIntSS.f k l0).bind fun t712 => ((impl_RowSums.f k t712).bind fun bt715 => ((laws_eqIntS.f k bt715.1 t691).bind fun t719 => (if t719 = true then (if (bt715.2 != t692) = true then (none) else ((laws_heldIntS.f k bt709.2 1).bind fun t720 => (if t720 < 0 then (none) else (if t720 = bt709.1 then (some true) else (none))))) else (none))))) else (none))))) else (none))))) else (none))))) else (none)))) = some r := H
    have A6 := Aside0.mk A60
    clear A60
    replace H := Option.bind_eq_some_iff.mp H
    obtain ⟨⟨t698, t699⟩, A70, H⟩ := H
    replace H : ((laws_eqIntS.f k t698 t691).bind fun t702 => (if t702 = true then (if (t699 != t692) = true then (none) else ((laws_toIntSS.f k l0).bind fun t703 => ((laws_eqIntSS.f k t695 t703).bind fun t706 => (if t706 = true then ((laws_markIntSS.f k t695 1).bind fun t707 => (if t707 < 0 then (none) else ((laws_eqIntS.f k t698 t691).bind fun t708 => (if t708 = true then ((laws_markIntS.f k t698 1).bind fun bt709 => ((laws_heldIntS.f k bt709.2 1).bind fun t711 => (if t711 < 0 then (none) else (if t711 = bt709.1 then ((laws_toIntSS.f k l0).bind fun t712 => ((impl_RowSums.f k t712).bind fun bt715 => ((laws_eqIntS.f k bt715.1 t691).bind fun t719 => (if t719 = true then (if (bt715.2 != t692) = true then (none) else ((laws_heldIntS.f k bt709.2 1).bind fun t720 => (if t720 < 0 then (none) else (if t720 = bt709.1 then (some true) else (none))))) else (none))))) else (none))))) else (none))))) else (none))))) else (none))) = some r := H
    have A7 := Aside0.mk A70
    clear A70
    replace H := Option.bind_eq_some_iff.mp H
    obtain ⟨t702, A80, H⟩ := H
    replace H : (if t702 = true then (if (t699 != t692) = true then (none) else ((laws_toIntSS.f k l0).bind fun t703 => ((laws_eqIntSS.f k t695 t703).bind fun t706 => (if t706 = true then ((laws_markIntSS.f k t695 1).bind fun t707 => (if t707 < 0 then (none) else ((laws_eqIntS.f k t698 t691).bind fun t708 => (if t708 = true then ((laws_markIntS.f k t698 1).bind fun bt709 => ((laws_heldIntS.f k bt709.2 1).bind fun t711 => (if t711 < 0 then (none) else (if t711 = bt709.1 then ((laws_toIntSS.f k l0).bind fun t712 => ((impl_RowSums.f k t712).bind fun bt715 => ((laws_eqIntS.f k bt715.1 t691).bind fun t719 => (if t719 = true then (if (bt715.2 != t692) = true then (none) else ((laws_heldIntS.f k bt709.2 1).bind fun t720 => (if t720 < 0 then (none) else (if t720 = bt709.1 then (some true) else (none))))) else (none))))) else (none))))) else (none))))) else (none))))) else (none)) = some r := H
    have A8 := Aside0.mk A80
    clear A80
    by_cases c9 : t702 = true
    · subst c9
      have H1 : (if (t699 != t692) = true then (none) else ((laws_toIntSS.f k l0).bind fun t703 => ((laws_eqIntSS.f k t695 t703).bind fun t706 => (if t706 = true then ((laws_markIntSS.f k t695 1).bind fun t707 => (if t707 < 0 then (none) else ((laws_eqIntS.f k t698 t691).bind fun t708 => (if t708 = true then ((laws_markIntS.f k t698 1).bind fun bt709 => ((laws_heldIntS.f k bt709.2 1).bind fun t711 => (if t711 < 0 then (none) else (if t711 = bt709.1 then ((laws_toIntSS.f k l0).bind fun t712 => ((impl_RowSums.f k t712).bind fun bt715 => ((laws_eqIntS.f k bt715.1 t691).bind fun t719 => (if t719 = true then (if (bt715.2 != t692) = true then (none) else ((laws_heldIntS.f k bt709.2 1).bind fun t720 => (if t720 < 0 then (none) else (if t720 = bt709.1 then (some true) else (none))))) else (none))))) else (none))))) else (none))))) else (none))))) = some r := by rw [if_pos rfl] at H; exact H
      clear H
      have H := H1
      clear H1
      by_cases c10 : (t699 != t692) = true
      · rw [if_pos c10] at H
        exact absurd H (by simp)
      · rw [if_neg c10] at H
        have c10b0 : (t699 != t692) = false := by simpa using c10
        (try (have c10b1 : decide (t699 = t692) = true := by simpa using c10))
        (try (have c10b2 : (t699 == t692) = true := by simpa using c10))
        clear c10
        replace H := Option.bind_eq_some_iff.mp H
        obtain ⟨t703, A110, H⟩ := H
        replace H : ((laws_eqIntSS.f k t695 t703).bind fun t706 => (if t706 = true then ((laws_markIntSS.f k t695 1).bind fun t707 => (if t707 < 0 then (none) else ((laws_eqIntS.f k t698 t691).bind fun t708 => (if t708 = true then ((laws_markIntS.f k t698 1).bind fun bt709 => ((laws_heldIntS.f k bt709.2 1).bind fun t711 => (if t711 < 0 then (none) else (if t711 = bt709.1 then ((laws_toIntSS.f k l0).bind fun t712 => ((impl_RowSums.f k t712).bind fun bt715 => ((laws_eqIntS.f k bt715.1 t691).bind fun t719 => (if t719 = true then (if (bt715.2 != t692) = true then (none) else ((laws_heldIntS.f k bt709.2 1).bind fun t720 => (if t720 < 0 then (none) else (if t720 = bt709.1 then (some true) else (none))))) else (none))))) else (none))))) else (none))))) else (none))) = some r := H
        have A11 := Aside0.mk A110
        clear A110
        replace H := Option.bind_eq_some_iff.mp H
        obtain ⟨t706, A120, H⟩ := H
        replace H : (if t706 = true then ((laws_markIntSS.f k t695 1).bind fun t707 => (if t707 < 0 then (none) else ((laws_eqIntS.f k t698 t691).bind fun t708 => (if t708 = true then ((laws_markIntS.f k t698 1).bind fun bt709 => ((laws_heldIntS.f k bt709.2 1).bind fun t711 => (if t711 < 0 then (none) else (if t711 = bt709.1 then ((laws_toIntSS.f k l0).bind fun t712 => ((impl_RowSums.f k t712).bind fun bt715 => ((laws_eqIntS.f k bt715.1 t691).bind fun t719 => (if t719 = true then (if (bt715.2 != t692) = true then (none) else ((laws_heldIntS.f k bt709.2 1).bind fun t720 => (if t720 < 0 then (none) else (if t720 = bt709.1 then (some true) else (none))))) else (none))))) else (none))))) else (none))))) else (none)) = some r := H
        have A12 := Aside0.mk A120
        clear A120
        by_cases c13 : t706 = true
        · subst c13
          have H1 : ((laws_markIntSS.f k t695 1).bind fun t707 => (if t707 < 0 then (none) else ((laws_eqIntS.f k t698 t691).bind fun t708 => (if t708 = true then ((laws_markIntS.f k t698 1).bind fun bt709 => ((laws_heldIntS.f k bt709.2 1).bind fun t711 => (if t711 < 0 then (none) else (if t711 = bt709.1 then ((laws_toIntSS.f k l0).bind fun t712 => ((impl_RowSums.f k t712).bind fun bt715 => ((laws_eqIntS.f k bt715.1 t691).bind fun t719 => (if t719 = true then (if (bt715.2 != t692) = true then (none) else ((laws_heldIntS.f k bt709.2 1).bind fun t720 => (if t720 < 0 then (none) else (if t720 = bt709.1 then (some true) else (none))))) else (none))))) else (none))))) else (none))))) = some r := by rw [if_pos rfl] at H; exact H
          clear H
          have H := H1
          clear H1
          replace H := Option.bind_eq_some_iff.mp H
          obtain ⟨t707, A140, H⟩ := H
          replace H : (if t707 < 0 then (none) else ((laws_eqIntS.f k t698 t691).bind fun t708 => (if t708 = true then ((laws_markIntS.f k t698 1).bind fun bt709 => ((laws_heldIntS.f k bt709.2 1).bind fun t711 => (if t711 < 0 then (none) else (if t711 = bt709.1 then ((laws_toIntSS.f k l0).bind fun t712 => ((impl_RowSums.f k t712).bind fun bt715 => ((laws_eqIntS.f k bt715.1 t691).bind fun t719 => (if t719 = true then (if (bt715.2 != t692) = true then (none) else ((laws_heldIntS.f k bt709.2 1).bind fun t720 => (if t720 < 0 then (none) else (if t720 = bt709.1 then (some true) else (none))))) else (none))))) else (none))))) else (none)))) = some r := H
          have A14 := Aside0.mk A140
          clear A140
          by_cases c15 : t707 < 0
          · rw [if_pos c15] at H
            exact absurd H (by simp)
          · rw [if_neg c15] at H
            have c15b0 : decide (t707 < 0) = false := decide_eq_false c15
            clear c15
            replace H := Option.bind_eq_some_iff.mp H
            obtain ⟨t708, A160, H⟩ := H
            replace H : (if t708 = true then ((laws_markIntS.f k t698 1).bind fun bt709 => ((laws_heldIntS.f k bt709.2 1).bind fun t711 => (if t711 < 0 then (none) else (if t711 = bt709.1 then ((laws_toIntSS.f k l0).bind fun t712 => ((impl_RowSums.f k t712).bind fun bt715 => ((laws_eqIntS.f k bt715.1 t691).bind fun t719 => (if t719 = true then (if (bt715.2 != t692) = true then (none) else ((laws_heldIntS.f k bt709.2 1).bind fun t720 => (if t720 < 0 then (none) else (if t720 = bt709.1 then (some true) else (none))))) else (none))))) else (none))))) else (none)) = some r := H
            have A16 := Aside0.mk A160
            clear A160
            by_cases c17 : t708 = true
            · subst c17
              have H1 : ((laws_markIntS.f k t698 1).bind fun bt709 => ((laws_heldIntS.f k bt709.2 1).bind fun t711 => (if t711 < 0 then (none) else (if t711 = bt709.1 then ((laws_toIntSS.f k l0).bind fun t712 => ((impl_RowSums.f k t712).bind fun bt715 => ((laws_eqIntS.f k bt715.1 t691).bind fun t719 => (if t719 = true then (if (bt715.2 != t692) = true then (none) else ((laws_heldIntS.f k bt709.2 1).bind fun t720 => (if t720 < 0 then (none) else (if t720 = bt709.1 then (some true) else (none))))) else (none))))) else (none))))) = some r := by rw [if_pos rfl] at H; exact H
              clear H
              have H := H1
              clear H1
              replace H := Option.bind_eq_some_iff.mp H
              obtain ⟨⟨t709, t710⟩, A180, H⟩ := H
              replace H : ((laws_heldIntS.f k t710 1).bind fun t711 => (if t711 < 0 then (none) else (if t711 = t709 then ((laws_toIntSS.f k l0).bind fun t712 => ((impl_RowSums.f k t712).bind fun bt715 => ((laws_eqIntS.f k bt715.1 t691).bind fun t719 => (if t719 = true then (if (bt715.2 != t692) = true then (none) else ((laws_heldIntS.f k t710 1).bind fun t720 => (if t720 < 0 then (none) else (if t720 = t709 then (some true) else (none))))) else (none))))) else (none)))) = some r := H
              have A18 := Aside0.mk A180
              clear A180
              replace H := Option.bind_eq_some_iff.mp H
              obtain ⟨t711, A190, H⟩ := H
              replace H : (if t711 < 0 then (none) else (if t711 = t709 then ((laws_toIntSS.f k l0).bind fun t712 => ((impl_RowSums.f k t712).bind fun bt715 => ((laws_eqIntS.f k bt715.1 t691).bind fun t719 => (if t719 = true then (if (bt715.2 != t692) = true then (none) else ((laws_heldIntS.f k t710 1).bind fun t720 => (if t720 < 0 then (none) else (if t720 = t709 then (some true) else (none))))) else (none))))) else (none))) = some r := H
              have A19 := Aside0.mk A190
              clear A190
              by_cases c20 : t711 < 0
              · rw [if_pos c20] at H
                exact absurd H (by simp)
              · rw [if_neg c20] at H
                have c20b0 : decide (t711 < 0) = false := decide_eq_false c20
                clear c20
                by_cases c21 : t711 = t709
                · rw [if_pos c21] at H
                  have c21b0 : (t711 == t709) = true := beq_iff_eq.mpr c21
                  have c21b1 : (t711 != t709) = false := bne_eq_false_iff_eq.mpr c21
                  clear c21
                  replace H := Option.bind_eq_some_iff.mp H
                  obtain ⟨t712, A220, H⟩ := H
                  replace H : ((impl_RowSums.f k t712).bind fun bt715 => ((laws_eqIntS.f k bt715.1 t691).bind fun t719 => (if t719 = true then (if (bt715.2 != t692) = true then (none) else ((laws_heldIntS.f k t710 1).bind fun t720 => (if t720 < 0 then (none) else (if t720 = t709 then (some true) else (none))))) else (none)))) = some r := H
                  have A22 := Aside0.mk A220
                  clear A220
                  replace H := Option.bind_eq_some_iff.mp H
                  obtain ⟨⟨t715, t716⟩, A230, H⟩ := H
                  replace H : ((laws_eqIntS.f k t715 t691).bind fun t719 => (if t719 = true then (if (t716 != t692) = true then (none) else ((laws_heldIntS.f k t710 1).bind fun t720 => (if t720 < 0 then (none) else (if t720 = t709 then (some true) else (none))))) else (none))) = some r := H
                  have A23 := Aside0.mk A230
                  clear A230
                  replace H := Option.bind_eq_some_iff.mp H
                  obtain ⟨t719, A240, H⟩ := H
                  replace H : (if t719 = true then (if (t716 != t692) = true then (none) else ((laws_heldIntS.f k t710 1).bind fun t720 => (if t720 < 0 then (none) else (if t720 = t709 then (some true) else (none))))) else (none)) = some r := H
                  have A24 := Aside0.mk A240
                  clear A240
                  by_cases c25 : t719 = true
                  · subst c25
                    have H1 : (if (t716 != t692) = true then (none) else ((laws_heldIntS.f k t710 1).bind fun t720 => (if t720 < 0 then (none) else (if t720 = t709 then (some true) else (none))))) = some r := by rw [if_pos rfl] at H; exact H
                    clear H
                    have H := H1
                    clear H1
                    by_cases c26 : (t716 != t692) = true
                    · rw [if_pos c26] at H
                      exact absurd H (by simp)
                    · rw [if_neg c26] at H
                      have c26b0 : (t716 != t692) = false := by simpa using c26
                      (try (have c26b1 : decide (t716 = t692) = true := by simpa using c26))
                      (try (have c26b2 : (t716 == t692) = true := by simpa using c26))
                      clear c26
                      replace H := Option.bind_eq_some_iff.mp H
                      obtain ⟨t720, A270, H⟩ := H
                      replace H : (if t720 < 0 then (none) else (if t720 = t709 then (some true) else (none))) = some r := H
                      have A27 := Aside0.mk A270
                      clear A270
                      by_cases c28 : t720 < 0
                      · rw [if_pos c28] at H
                        exact absurd H (by simp)
                      · rw [if_neg c28] at H
                        have c28b0 : decide (t720 < 0) = false := decide_eq_false c28
                        clear c28
                        by_cases c29 : t720 = t709
                        · rw [if_pos c29] at H
                          have c29b0 : (t720 == t709) = true := beq_iff_eq.mpr c29
                          have c29b1 : (t720 != t709) = false := bne_eq_false_iff_eq.mpr c29
                          clear c29
                          obtain rfl := Option.some.inj H
                          go_enter Try.func13, Try.ntmps13
                          go_wp2_with (first | ((with_reducible refine gate_callee (f := 38) rfl ?_); refine goesL_ (some 16) rfl rfl Try.func38 (by kernel_rfl) rfl #[.slice A0 l0.length c0, .int .i64 1048576] rfl (by (try simp only [List.map_toArray, List.map_cons, List.map_nil]); first | done | rfl | (simp only [List.length_drop, List.length_take]; rfl)) ?_; (with_reducible refine (laws_szIntSS.calls k _ _ l0 1048576 t687 _ ?side1 ?side2 A2.out).mono ?_); (case side1 => repeat (first | exact HR0.out | (with_reducible refine Kd.C_alloc ?_ _) | (with_reducible refine Kd.C_drewN ?_ _) | (with_reducible refine Kd.C_drew ?_))); (case side2 => exact HC0.out); rintro e w' ⟨rfl, ⟨nd, rfl⟩⟩; refine ⟨_, rfl, ?_⟩) | ((with_reducible refine gate_callee (f := 40) rfl ?_); refine goesL_ (some 21) rfl rfl Try.func40 (by kernel_rfl) rfl #[.slice A0 l0.length c0] rfl (by (try simp only [List.map_toArray, List.map_cons, List.map_nil]); first | done | rfl | (simp only [List.length_drop, List.length_take]; rfl)) ?_; (with_reducible refine (laws_toIntSS.calls k _ _ l0 t688 _ ?side1 ?side2 A4.out).mono ?_); (case side1 => repeat (first | exact HR0.out | (with_reducible refine Kd.C_alloc ?_ _) | (with_reducible refine Kd.C_drewN ?_ _) | (with_reducible refine Kd.C_drew ?_))); (case side2 => exact HC0.out); rintro e w30 ⟨v689, rfl, ho0, hb⟩; refine ⟨_, rfl, ?_⟩; have n0_ := Aside0.mk (Kd.S_lower ho0 (below_size (by repeat (first | (with_reducible first | exact HB.out | apply below_alloc | apply pw_below_drewN | apply below_drew1) | exact HB.out)))); have n1_ := Aside0.mk (below_step (by repeat (first | (with_reducible first | exact HB.out | apply below_alloc | apply pw_below_drewN | apply below_drew1) | exact HB.out)) hb); clear HB; have HO690 := n0_; have HB := n1_; clear n0_ n1_; (try clear hb); (try clear hb2); (try clear hk); (try clear hi); (try clear ho0); obtain ⟨Ao31, co31, eo31⟩ := Kd.S_slice HO690.out; subst eo31) | ((with_reducible refine gate_callee (f := 46) rfl ?_); refine goesL_ (some 22) rfl rfl Try.func46 (by kernel_rfl) rfl #[.slice Ao31 t688.length co31] rfl (by (try simp only [List.map_toArray, List.map_cons, List.map_nil]); first | done | rfl | (simp only [List.length_drop, List.length_take]; rfl)) ?_; (with_reducible refine (spec_RowSums.calls k _ _ t688 t691 t692 _ ?side1 ?side2 A5.out).mono ?_); (case side1 => repeat (first | exact (Kd.S_reads' HO690.out).2.2 | (with_reducible refine Kd.C_alloc ?_ _) | (with_reducible refine Kd.C_drewN ?_ _) | (with_reducible refine Kd.C_drew ?_))); (case side2 => exact (Kd.S_reads' HO690.out).2.1); rintro e w32 ⟨v693, rfl, ho0, hb⟩; refine ⟨_, rfl, ?_⟩; have n0_ := Aside0.mk (Kd.S_elder' (by (with_reducible repeat (first | apply Kd.S_alloc | apply Kd.S_drewN | apply Kd.S_drew)); exact HO690.out) (Kd.R_base ho0) hb); have n1_ := Aside0.mk (Kd.R_lower ho0 (below_size (by repeat (first | (with_reducible first | exact HB.out | apply below_alloc | apply pw_below_drewN | apply below_drew1) | exact HB.out)))); have n2_ := Aside0.mk (below_step (by repeat (first | (with_reducible first | exact HB.out | apply below_alloc | apply pw_below_drewN | apply below_drew1) | exact HB.out)) hb); clear HO690; clear HB; have HO690 := n0_; have HO694 := n1_; have HB := n2_; clear n0_ n1_ n2_; (try clear hb); (try clear hb2); (try clear hk); (try clear hi); (try clear ho0)) | ((with_reducible refine gate_callee (f := 40) rfl ?_); refine goesL_ (some 26) rfl rfl Try.func40 (by kernel_rfl) rfl #[.slice A0 l0.length c0] rfl (by (try simp only [List.map_toArray, List.map_cons, List.map_nil]); first | done | rfl | (simp only [List.length_drop, List.length_take]; rfl)) ?_; (with_reducible refine (laws_toIntSS.calls k _ _ l0 t695 _ ?side1 ?side2 A6.out).mono ?_); (case side1 => repeat (first | exact (Kd.C_below HR0.out HB.out) | (with_reducible refine Kd.C_alloc ?_ _) | (with_reducible refine Kd.C_drewN ?_ _) | (with_reducible refine Kd.C_drew ?_))); (case side2 => exact HC0.out); rintro e w33 ⟨v696, rfl, ho0, hb⟩; refine ⟨_, rfl, ?_⟩; have n0_ := Aside0.mk (Kd.S_elder' (by (with_reducible repeat (first | apply Kd.S_alloc | apply Kd.S_drewN | apply Kd.S_drew)); exact HO690.out) (Kd.S_base ho0) hb); have n1_ := Aside0.mk (Kd.R_below (by (with_reducible repeat (first | apply Kd.R_alloc | apply Kd.R_drewN | apply Kd.R_drew)); exact HO694.out) hb); have n2_ := Aside0.mk (Kd.S_lower (Kd.S_new' (Kd.S_new' ho0 (Kd.S_lt (by (with_reducible repeat (first | apply Kd.S_alloc | apply Kd.S_drewN | apply Kd.S_drew)); exact HO690.out))) (Kd.R_lt (by (with_reducible repeat (first | apply Kd.R_alloc | apply Kd.R_drewN | apply Kd.R_drew)); exact HO694.out))) (below_size (by repeat (first | (with_reducible first | exact HB.out | apply below_alloc | apply pw_below_drewN | apply below_drew1) | exact HB.out)))); have n3_ := Aside0.mk (below_step (by repeat (first | (with_reducible first | exact HB.out | apply below_alloc | apply pw_below_drewN | apply below_drew1) | exact HB.out)) hb); clear HO690; clear HO694; clear HB; have HO690 := n0_; have HO694 := n1_; have HO697 := n2_; have HB := n3_; clear n0_ n1_ n2_ n3_; (try clear hb); (try clear hb2); (try clear hk); (try clear hi); (try clear ho0); obtain ⟨Ao34, co34, eo34⟩ := Kd.S_slice HO697.out; subst eo34) | ((with_reducible refine gate_callee (f := 47) rfl ?_); refine goesL_ (some 29) rfl rfl Try.func47 (by kernel_rfl) rfl #[.slice Ao34 t695.length co34] rfl (by (try simp only [List.map_toArray, List.map_cons, List.map_nil]); first | done | rfl | (simp only [List.length_drop, List.length_take]; rfl)) ?_; (with_reducible refine (impl_RowSums.calls k _ _ t695 t698 t699 _ ?side1 ?side2 A7.out).mono ?_); (case side1 => repeat (first | exact (Kd.S_reads' HO697.out).2.2 | (with_reducible refine Kd.C_alloc ?_ _) | (with_reducible refine Kd.C_drewN ?_ _) | (with_reducible refine Kd.C_drew ?_))); (case side2 => exact (Kd.S_reads' HO697.out).2.1); rintro e w35 ⟨v700, rfl, ho0, hb⟩; refine ⟨_, rfl, ?_⟩; have n0_ := Aside0.mk (Kd.S_elder' (by (with_reducible repeat (first | apply Kd.S_alloc | apply Kd.S_drewN | apply Kd.S_drew)); exact HO690.out) (Kd.R_base ho0) hb); have n1_ := Aside0.mk (Kd.R_elder' (by (with_reducible repeat (first | apply Kd.R_alloc | apply Kd.R_drewN | apply Kd.R_drew)); exact HO694.out) (Kd.R_base ho0) hb); have n2_ := Aside0.mk (Kd.S_elder' (by (with_reducible repeat (first | apply Kd.S_alloc | apply Kd.S_drewN | apply Kd.S_drew)); exact HO697.out) (Kd.R_base ho0) hb); have n3_ := Aside0.mk (Kd.R_lower (Kd.R_new' ho0 (Kd.R_lt (by (with_reducible repeat (first | apply Kd.R_alloc | apply Kd.R_drewN | apply Kd.R_drew)); exact HO694.out))) (below_size (by repeat (first | (with_reducible first | exact HB.out | apply below_alloc | apply pw_below_drewN | apply below_drew1) | exact HB.out)))); have n4_ := Aside0.mk (below_step (by repeat (first | (with_reducible first | exact HB.out | apply below_alloc | apply pw_below_drewN | apply below_drew1) | exact HB.out)) hb); clear HO690; clear HO694; clear HO697; clear HB; have HO690 := n0_; have HO694 := n1_; have HO697 := n2_; have HO701 := n3_; have HB := n4_; clear n0_ n1_ n2_ n3_ n4_; (try clear hb); (try clear hb2); (try clear hk); (try clear hi); (try clear ho0); obtain ⟨Ao36, co36, eo36⟩ := Kd.R_slice HO701.out; subst eo36; obtain ⟨Ao37, co37, eo37⟩ := Kd.R_slice HO694.out; subst eo37) | ((with_reducible refine gate_callee (f := 18) rfl ?_); refine goesL_ (some 34) rfl rfl Try.func18 (by kernel_rfl) rfl #[.slice Ao36 t698.length co36, .slice Ao37 t691.length co37] rfl (by (try simp only [List.map_toArray, List.map_cons, List.map_nil]); first | done | rfl | (simp only [List.length_drop, List.length_take]; rfl)) ?_; (with_reducible refine (laws_eqIntS.calls k _ _ t698 _ _ t691 true _ ?side1 ?side2 ?side3 ?side4 A8.out).mono ?_); (case side1 => repeat (first | exact (Kd.R_reads' HO701.out).2.2 | (with_reducible refine Kd.C_alloc ?_ _) | (with_reducible refine Kd.C_drewN ?_ _) | (with_reducible refine Kd.C_drew ?_))); (case side2 => exact (Kd.R_reads' HO701.out).2.1); (case side3 => repeat (first | exact (Kd.R_reads' HO694.out).2.2 | (with_reducible refine Kd.C_alloc ?_ _) | (with_reducible refine Kd.C_drewN ?_ _) | (with_reducible refine Kd.C_drew ?_))); (case side4 => exact (Kd.R_reads' HO694.out).2.1); rintro e w' ⟨rfl, ⟨nd, rfl⟩⟩; refine ⟨_, rfl, ?_⟩) | ((with_reducible refine gate_callee (f := 40) rfl ?_); refine goesL_ (some 43) rfl rfl Try.func40 (by kernel_rfl) rfl #[.slice A0 l0.length c0] rfl (by (try simp only [List.map_toArray, List.map_cons, List.map_nil]); first | done | rfl | (simp only [List.length_drop, List.length_take]; rfl)) ?_; (with_reducible refine (laws_toIntSS.calls k _ _ l0 t703 _ ?side1 ?side2 A11.out).mono ?_); (case side1 => repeat (first | exact (Kd.C_below HR0.out (by repeat (first | (with_reducible first | exact HB.out | apply below_alloc | apply pw_below_drewN | apply below_drew1) | exact HB.out))) | (with_reducible refine Kd.C_alloc ?_ _) | (with_reducible refine Kd.C_drewN ?_ _) | (with_reducible refine Kd.C_drew ?_))); (case side2 => exact HC0.out); rintro e w38 ⟨v704, rfl, ho0, hb⟩; refine ⟨_, rfl, ?_⟩; have n0_ := Aside0.mk (Kd.S_elder' (by (with_reducible repeat (first | apply Kd.S_alloc | apply Kd.S_drewN | apply Kd.S_drew)); exact HO690.out) (Kd.S_base ho0) hb); have n1_ := Aside0.mk (Kd.R_below (by (with_reducible repeat (first | apply Kd.R_alloc | apply Kd.R_drewN | apply Kd.R_drew)); exact HO694.out) hb); have n2_ := Aside0.mk (Kd.S_elder' (by (with_reducible repeat (first | apply Kd.S_alloc | apply Kd.S_drewN | apply Kd.S_drew)); exact HO697.out) (Kd.S_base ho0) hb); have n3_ := Aside0.mk (Kd.R_below (by (with_reducible repeat (first | apply Kd.R_alloc | apply Kd.R_drewN | apply Kd.R_drew)); exact HO701.out) hb); have n4_ := Aside0.mk (Kd.S_lower (Kd.S_new' (Kd.S_new' (Kd.S_new' (Kd.S_new' ho0 (Kd.S_lt (by (with_reducible repeat (first | apply Kd.S_alloc | apply Kd.S_drewN | apply Kd.S_drew)); exact HO690.out))) (Kd.R_lt (by (with_reducible repeat (first | apply Kd.R_alloc | apply Kd.R_drewN | apply Kd.R_drew)); exact HO694.out))) (Kd.S_lt (by (with_reducible repeat (first | apply Kd.S_alloc | apply Kd.S_drewN | apply Kd.S_drew)); exact HO697.out))) (Kd.R_lt (by (with_reducible repeat (first | apply Kd.R_alloc | apply Kd.R_drewN | apply Kd.R_drew)); exact HO701.out))) (below_size (by repeat (first | (with_reducible first | exact HB.out | apply below_alloc | apply pw_below_drewN | apply below_drew1) | exact HB.out)))); have n5_ := Aside0.mk (below_step (by repeat (first | (with_reducible first | exact HB.out | apply below_alloc | apply pw_below_drewN | apply below_drew1) | exact HB.out)) hb); clear HO690; clear HO694; clear HO697; clear HO701; clear HB; have HO690 := n0_; have HO694 := n1_; have HO697 := n2_; have HO701 := n3_; have HO705 := n4_; have HB := n5_; clear n0_ n1_ n2_ n3_ n4_ n5_; (try clear hb); (try clear hb2); (try clear hk); (try clear hi); (try clear ho0); obtain ⟨Ao39, co39, eo39⟩ := Kd.S_slice HO705.out; subst eo39) | ((with_reducible refine gate_callee (f := 42) rfl ?_); refine goesL_ (some 44) rfl rfl Try.func42 (by kernel_rfl) rfl #[.slice Ao34 t695.length co34, .slice Ao39 t703.length co39] rfl (by (try simp only [List.map_toArray, List.map_cons, List.map_nil]); first | done | rfl | (simp only [List.length_drop, List.length_take]; rfl)) ?_; (with_reducible refine (laws_eqIntSS.calls k _ _ t695 _ _ t703 true _ ?side1 ?side2 ?side3 ?side4 A12.out).mono ?_); (case side1 => repeat (first | exact (Kd.S_reads' HO697.out).2.2 | (with_reducible refine Kd.C_alloc ?_ _) | (with_reducible refine Kd.C_drewN ?_ _) | (with_reducible refine Kd.C_drew ?_))); (case side2 => exact (Kd.S_reads' HO697.out).2.1); (case side3 => repeat (first | exact (Kd.S_reads' HO705.out).2.2 | (with_reducible refine Kd.C_alloc ?_ _) | (with_reducible refine Kd.C_drewN ?_ _) | (with_reducible refine Kd.C_drew ?_))); (case side4 => exact (Kd.S_reads' HO705.out).2.1); rintro e w' ⟨rfl, ⟨nd, rfl⟩⟩; refine ⟨_, rfl, ?_⟩) | ((with_reducible refine gate_callee (f := 45) rfl ?_); refine goesL_ (some 48) rfl rfl Try.func45 (by kernel_rfl) rfl #[.slice Ao34 t695.length co34, .int .i64 1] rfl (by (try simp only [List.map_toArray, List.map_cons, List.map_nil]); first | done | rfl | (simp only [List.length_drop, List.length_take]; rfl)) ?_; (with_reducible refine (laws_markIntSS.calls k (fun k_ => ((((True ∧ some k_ ≠ (.slice Ao31 t688.length co31 : Value).ownBlock) ∧ some k_ ≠ (.slice Ao37 t691.length co37 : Value).ownBlock) ∧ some k_ ≠ (.slice Ao36 t698.length co36 : Value).ownBlock) ∧ some k_ ≠ (.slice Ao39 t703.length co39 : Value).ownBlock)) (.slice Ao34 t695.length co34) t695 1 t707 w _ ?side1 ?side2 A14.out).mono ?_); (case side1 => repeat (first | (with_reducible first | exact HB.out | apply below_alloc | apply pw_below_drewN | apply below_drew1) | exact HB.out)); (case side2 => exact HO697.out); rintro e w40 ⟨rfl, hb, hkp⟩; refine ⟨_, rfl, ?_⟩; have n0_ := Aside0.mk (Kd.R_mono (ok' := fun k_ => some k_ ≠ (.slice Ao36 t698.length co36 : Value).ownBlock) (Kd.R_keptB (Kd.R_tight rfl (HO694.out)) hkp (fun k_ hk_ hs_ => (hs_.1.1.2) hk_)) (fun k_ hk_ => (HO694.out.1 k_ hk_.1.symm).2)); have n1_ := Aside0.mk (Kd.R_mono (ok' := fun k_ => some k_ ≠ (.slice Ao37 t691.length co37 : Value).ownBlock) (Kd.R_keptB (Kd.R_tight rfl (HO701.out)) hkp (fun k_ hk_ hs_ => (hs_.1.2) hk_)) (fun k_ hk_ => (HO701.out.1 k_ hk_.1.symm).2)); have n2_ := Aside0.mk (hb); clear HO694; clear HO701; clear HB; clear HO690; clear HO697; clear HO705; have HO694 := n0_; have HO701 := n1_; have HB := n2_; clear n0_ n1_ n2_; (try clear hb); (try clear hkp)) | (go_at_call 18; (with_reducible refine (laws_eqIntS.calls k _ _ t698 _ _ t691 true _ ?side1 ?side2 ?side3 ?side4 A16.out).mono ?_); (case side1 => repeat (first | exact (Kd.R_reads' HO701.out).2.2 | (with_reducible refine Kd.C_alloc ?_ _) | (with_reducible refine Kd.C_drewN ?_ _) | (with_reducible refine Kd.C_drew ?_))); (case side2 => exact (Kd.R_reads' HO701.out).2.1); (case side3 => repeat (first | exact (Kd.R_reads' HO694.out).2.2 | (with_reducible refine Kd.C_alloc ?_ _) | (with_reducible refine Kd.C_drewN ?_ _) | (with_reducible refine Kd.C_drew ?_))); (case side4 => exact (Kd.R_reads' HO694.out).2.1); rintro e w' ⟨rfl, ⟨nd, rfl⟩⟩) | ((with_reducible refine gate_callee (f := 21) rfl ?_); refine goesL_ (some 64) rfl rfl Try.func21 (by kernel_rfl) rfl #[.slice Ao36 t698.length co36, .int .i64 1] rfl (by (try simp only [List.map_toArray, List.map_cons, List.map_nil]); first | done | rfl | (simp only [List.length_drop, List.length_take]; rfl)) ?_; (with_reducible refine (laws_markIntS.calls k (fun k_ => some k_ = (.slice Ao36 t698.length co36 : Value).ownBlock) (.slice Ao36 t698.length co36) t698 1 t709 t710 w _ ?side1 ?side2 A18.out).mono ?_); (case side1 => repeat (first | (with_reducible first | exact HB.out | apply below_alloc | apply pw_below_drewN | apply below_drew1) | exact HB.out)); (case side2 => exact Kd.R_tight rfl HO701.out); rintro e w41 ⟨rfl, hy0, hb, hkp⟩; refine ⟨_, rfl, ?_⟩; have n0_ := Aside0.mk (Kd.R_mono (ok' := fun k_ => some k_ ≠ (.slice Ao36 t698.length co36 : Value).ownBlock) (Kd.R_keptB (HO694.out) hkp (fun k_ hk_ hs_ => (hk_) hs_)) (fun k_ hk_ => hk_.1)); have n1_ := Aside0.mk (Kd.R_reok rfl hy0 (fun k_ e_ => HO701.out.1 k_ e_)); have n2_ := Aside0.mk (hb); clear HO694; clear HO701; clear HB; have HO694 := n0_; have HO701 := n1_; have HB := n2_; clear n0_ n1_ n2_; (try clear hb); (try clear hkp); (try clear hy0)) | ((with_reducible refine gate_callee (f := 22) rfl ?_); refine goesL_ (some 67) rfl rfl Try.func22 (by kernel_rfl) rfl #[.slice Ao36 t710.length co36, .int .i64 1] rfl (by (try simp only [List.map_toArray, List.map_cons, List.map_nil]); first | done | (rw [show t710.length = t698.length from (Kd.R_reads' HO701.out).1.symm] <;> rfl) | rfl | (simp only [List.length_drop, List.length_take]; rfl)) ?_; (with_reducible refine (laws_heldIntS.calls k _ _ t710 1 t711 _ ?side1 ?side2 A19.out).mono ?_); (case side1 => repeat (first | exact (Kd.R_reads' HO701.out).2.2 | (with_reducible refine Kd.C_alloc ?_ _) | (with_reducible refine Kd.C_drewN ?_ _) | (with_reducible refine Kd.C_drew ?_))); (case side2 => rw [show t710.length = t698.length from (Kd.R_reads' HO701.out).1.symm]; exact (Kd.R_reads' HO701.out).2.1); rintro e w' ⟨rfl, ⟨nd, rfl⟩⟩; refine ⟨_, rfl, ?_⟩) | ((with_reducible refine gate_callee (f := 40) rfl ?_); refine goesL_ (some 75) rfl rfl Try.func40 (by kernel_rfl) rfl #[.slice A0 l0.length c0] rfl (by (try simp only [List.map_toArray, List.map_cons, List.map_nil]); first | done | rfl | (simp only [List.length_drop, List.length_take]; rfl)) ?_; (with_reducible refine (laws_toIntSS.calls k _ _ l0 t712 _ ?side1 ?side2 A22.out).mono ?_); (case side1 => repeat (first | exact (Kd.C_below HR0.out (by repeat (first | (with_reducible first | exact HB.out | apply below_alloc | apply pw_below_drewN | apply below_drew1) | exact HB.out))) | (with_reducible refine Kd.C_alloc ?_ _) | (with_reducible refine Kd.C_drewN ?_ _) | (with_reducible refine Kd.C_drew ?_))); (case side2 => exact HC0.out); rintro e w42 ⟨v713, rfl, ho0, hb⟩; refine ⟨_, rfl, ?_⟩; have n0_ := Aside0.mk (Kd.R_below (by (with_reducible repeat (first | apply Kd.R_alloc | apply Kd.R_drewN | apply Kd.R_drew)); exact HO694.out) hb); have n1_ := Aside0.mk (Kd.R_below (by (with_reducible repeat (first | apply Kd.R_alloc | apply Kd.R_drewN | apply Kd.R_drew)); exact HO701.out) hb); have n2_ := Aside0.mk (Kd.S_lower (Kd.S_new' (Kd.S_new' ho0 (Kd.R_lt (by (with_reducible repeat (first | apply Kd.R_alloc | apply Kd.R_drewN | apply Kd.R_drew)); exact HO694.out))) (Kd.R_lt (by (with_reducible repeat (first | apply Kd.R_alloc | apply Kd.R_drewN | apply Kd.R_drew)); exact HO701.out))) (below_size (by repeat (first | (with_reducible first | exact HB.out | apply below_alloc | apply pw_below_drewN | apply below_drew1) | exact HB.out)))); have n3_ := Aside0.mk (below_step (by repeat (first | (with_reducible first | exact HB.out | apply below_alloc | apply pw_below_drewN | apply below_drew1) | exact HB.out)) hb); clear HO694; clear HO701; clear HB; have HO694 := n0_; have HO701 := n1_; have HO714 := n2_; have HB := n3_; clear n0_ n1_ n2_ n3_; (try clear hb); (try clear hb2); (try clear hk); (try clear hi); (try clear ho0); obtain ⟨Ao43, co43, eo43⟩ := Kd.S_slice HO714.out; subst eo43) | ((with_reducible refine gate_callee (f := 47) rfl ?_); refine goesL_ (some 76) rfl rfl Try.func47 (by kernel_rfl) rfl #[.slice Ao43 t712.length co43] rfl (by (try simp only [List.map_toArray, List.map_cons, List.map_nil]); first | done | rfl | (simp only [List.length_drop, List.length_take]; rfl)) ?_; (with_reducible refine (impl_RowSums.calls k _ _ t712 t715 t716 _ ?side1 ?side2 A23.out).mono ?_); (case side1 => repeat (first | exact (Kd.S_reads' HO714.out).2.2 | (with_reducible refine Kd.C_alloc ?_ _) | (with_reducible refine Kd.C_drewN ?_ _) | (with_reducible refine Kd.C_drew ?_))); (case side2 => exact (Kd.S_reads' HO714.out).2.1); rintro e w44 ⟨v717, rfl, ho0, hb⟩; refine ⟨_, rfl, ?_⟩; have n0_ := Aside0.mk (Kd.R_elder' (by (with_reducible repeat (first | apply Kd.R_alloc | apply Kd.R_drewN | apply Kd.R_drew)); exact HO694.out) (Kd.R_base ho0) hb); have n1_ := Aside0.mk (Kd.R_elder' (by (with_reducible repeat (first | apply Kd.R_alloc | apply Kd.R_drewN | apply Kd.R_drew)); exact HO701.out) (Kd.R_base ho0) hb); have n2_ := Aside0.mk (Kd.S_elder' (by (with_reducible repeat (first | apply Kd.S_alloc | apply Kd.S_drewN | apply Kd.S_drew)); exact HO714.out) (Kd.R_base ho0) hb); have n3_ := Aside0.mk (Kd.R_lower (Kd.R_new' (Kd.R_new' ho0 (Kd.R_lt (by (with_reducible repeat (first | apply Kd.R_alloc | apply Kd.R_drewN | apply Kd.R_drew)); exact HO694.out))) (Kd.R_lt (by (with_reducible repeat (first | apply Kd.R_alloc | apply Kd.R_drewN | apply Kd.R_drew)); exact HO701.out))) (below_size (by repeat (first | (with_reducible first | exact HB.out | apply below_alloc | apply pw_below_drewN | apply below_drew1) | exact HB.out)))); have n4_ := Aside0.mk (below_step (by repeat (first | (with_reducible first | exact HB.out | apply below_alloc | apply pw_below_drewN | apply below_drew1) | exact HB.out)) hb); clear HO694; clear HO701; clear HO714; clear HB; have HO694 := n0_; have HO701 := n1_; have HO714 := n2_; have HO718 := n3_; have HB := n4_; clear n0_ n1_ n2_ n3_ n4_; (try clear hb); (try clear hb2); (try clear hk); (try clear hi); (try clear ho0); obtain ⟨Ao45, co45, eo45⟩ := Kd.R_slice HO718.out; subst eo45) | ((with_reducible refine gate_callee (f := 18) rfl ?_); refine goesL_ (some 81) rfl rfl Try.func18 (by kernel_rfl) rfl #[.slice Ao45 t715.length co45, .slice Ao37 t691.length co37] rfl (by (try simp only [List.map_toArray, List.map_cons, List.map_nil]); first | done | rfl | (simp only [List.length_drop, List.length_take]; rfl)) ?_; (with_reducible refine (laws_eqIntS.calls k _ _ t715 _ _ t691 true _ ?side1 ?side2 ?side3 ?side4 A24.out).mono ?_); (case side1 => repeat (first | exact (Kd.R_reads' HO718.out).2.2 | (with_reducible refine Kd.C_alloc ?_ _) | (with_reducible refine Kd.C_drewN ?_ _) | (with_reducible refine Kd.C_drew ?_))); (case side2 => exact (Kd.R_reads' HO718.out).2.1); (case side3 => repeat (first | exact (Kd.R_reads' HO694.out).2.2 | (with_reducible refine Kd.C_alloc ?_ _) | (with_reducible refine Kd.C_drewN ?_ _) | (with_reducible refine Kd.C_drew ?_))); (case side4 => exact (Kd.R_reads' HO694.out).2.1); rintro e w' ⟨rfl, ⟨nd, rfl⟩⟩; refine ⟨_, rfl, ?_⟩) | ((with_reducible refine gate_callee (f := 22) rfl ?_); refine goesL_ (some 90) rfl rfl Try.func22 (by kernel_rfl) rfl #[.slice Ao36 t710.length co36, .int .i64 1] rfl (by (try simp only [List.map_toArray, List.map_cons, List.map_nil]); first | done | (rw [show t710.length = t698.length from (Kd.R_reads' HO701.out).1.symm] <;> rfl) | rfl | (simp only [List.length_drop, List.length_take]; rfl)) ?_; (with_reducible refine (laws_heldIntS.calls k _ _ t710 1 t720 _ ?side1 ?side2 A27.out).mono ?_); (case side1 => repeat (first | exact (Kd.R_reads' HO701.out).2.2 | (with_reducible refine Kd.C_alloc ?_ _) | (with_reducible refine Kd.C_drewN ?_ _) | (with_reducible refine Kd.C_drew ?_))); (case side2 => rw [show t710.length = t698.length from (Kd.R_reads' HO701.out).1.symm]; exact (Kd.R_reads' HO701.out).2.1); rintro e w' ⟨rfl, ⟨nd, rfl⟩⟩; refine ⟨_, rfl, ?_⟩))
                          go_ret
                          exact ⟨by first | rfl | (simp [errW_none, errW_some] <;> rfl) | (simp [*, errW_none, errW_some] <;> rfl), by repeat (first | (with_reducible first | exact HB.out | apply below_alloc | apply pw_below_drewN | apply below_drew1) | exact HB.out)⟩
                        · rw [if_neg c29] at H
                          exact absurd H (by simp)
                  · replace c25 := Bool.eq_false_iff.mpr c25
                    subst c25
                    have H1 : (none) = some r := by rw [if_neg (show ¬ (false = true) by decide)] at H; exact H
                    clear H
                    have H := H1
                    clear H1
                    exact absurd H (by simp)
                · rw [if_neg c21] at H
                  exact absurd H (by simp)
            · replace c17 := Bool.eq_false_iff.mpr c17
              subst c17
              have H1 : (none) = some r := by rw [if_neg (show ¬ (false = true) by decide)] at H; exact H
              clear H
              have H := H1
              clear H1
              exact absurd H (by simp)
        · replace c13 := Bool.eq_false_iff.mpr c13
          subst c13
          have H1 : (none) = some r := by rw [if_neg (show ¬ (false = true) by decide)] at H; exact H
          clear H
          have H := H1
          clear H1
          exact absurd H (by simp)
    · replace c9 := Bool.eq_false_iff.mpr c9
      subst c9
      have H1 : (none) = some r := by rw [if_neg (show ¬ (false = true) by decide)] at H; exact H
      clear H
      have H := H1
      clear H1
      exact absurd H (by simp)

end
end Go.Proofs.Ytnoagkhmmckiaaa.Hd
