-- Printed by hprint.py and laid together by pack.py (this session's programs over the kit's print program). Lean checks it.
import Derived.Test.YtnoagkhmmckiaaaG0
import Derived.Test.YtnoagkhmmckiaaaG5
import Derived.Test.YtnoagkhmmckiaaaMBlock
import Derived.Test.YtnoagkhmmckiaaaG2
import Derived.Test.YtnoagkhmmckiaaaG1
import Derived.Test.YtnoagkhmmckiaaaMMarkIntSS
namespace Go.Proofs.Ytnoagkhmmckiaaa.Hd
section
open Go.RowKit Go.Proofs.YtnoagkhmmckiaaaW.PrintWords Go.Proofs.YtnoagkhmmckiaaaW.PrintLast Go.Proofs.YtnoagkhmmckiaaaW.PrintMore
attribute [local go_sem] max2_int min2_int max_two min_two max_three min_three max_four min_four   -- for this text's walks alone
set_option linter.unusedVariables false
set_option linter.unusedSimpArgs false

/-! ### impl_BlockTiles: function 44 -/
def impl_BlockTiles.f (k : Nat) (l0 : List (List Int)) : Option ((List (S_Tile)) × Bool) := (impl_IsBlock.f k l0).bind fun t624 => (if t624 = true then ((slices_Concat_int_int.f k l0).bind fun t625 => ((impl_tilesIn.f k t625).bind fun t628 => (some (t628, true)))) else (some (([] : List (S_Tile)), false)))
theorem impl_BlockTiles.mono : ∀ a0 k, LeO (impl_BlockTiles.f k a0) (impl_BlockTiles.f (k + 1) a0) := by
  intro a0 k
  unfold impl_BlockTiles.f
  repeat' first
      | (with_reducible exact impl_IsBlock.mono _ _)
      | (with_reducible exact impl_tilesIn.mono _ _)
      | (with_reducible exact slices_Concat_int_int.mono _ _)
      | (with_reducible exact LeO.refl _)
      | (with_reducible exact LeO.none _)
      | (with_reducible refine LeO.ite ?_ ?_)
      | (with_reducible refine LeO.bind ?_ (fun _ => ?_))
      | exact impl_IsBlock.mono _ _
      | exact impl_tilesIn.mono _ _
      | exact slices_Concat_int_int.mono _ _
      | exact LeO.none _
      | refine LeO.ite ?_ ?_
      | refine LeO.bind ?_ (fun _ => ?_)
set_option maxHeartbeats 8000000 in
set_option maxRecDepth 100000 in
theorem impl_BlockTiles.calls (k : Nat) (A0 : Option Addr) (c0 : Nat) (l0 : List (List Int)) (r1 : List (S_Tile)) (r2 : Bool) (w : World) (hr0 : Kd.C (Kd.slice 3 (Kd.int .i64)) w A0 l0.length l0) (hc0 : l0.length ≤ c0) (h : impl_BlockTiles.f k l0 = some (r1, r2)) :
    Calls Try.prog 44 #[.slice A0 l0.length c0] w fun e w' => ∃ v0_ : Value, e = .returned (.tuple #[v0_, .bool r2]) ∧ Kd.R k48 48 w' w.heap.size (fun _ => True) v0_ r1 ∧ Below w.heap.size w w' := by
  have HR0 := Aside0.mk hr0
  have HC0 := Aside0.mk hc0
  clear hr0 hc0
  have HB := Aside0.mk (Below.refl w.heap.size w)
  have H : ((impl_IsBlock.f k l0).bind fun t624 => (if t624 = true then ((slices_Concat_int_int.f k l0).bind fun t625 => ((impl_tilesIn.f k t625).bind fun t628 => (some (t628, true)))) else (some (([] : List (S_Tile)), false)))) = some (r1, r2) := h
  clear h
  replace H := Option.bind_eq_some_iff.mp H
  obtain ⟨t624, A20, H⟩ := H
  replace H : (if t624 = true then ((slices_Concat_int_int.f k l0).bind fun t625 => ((impl_tilesIn.f k t625).bind fun t628 => (some (t628, true)))) else (some (([] : List (S_Tile)), false))) = some (r1, r2) := H
  have A2 := Aside0.mk A20
  clear A20
  by_cases c3 : t624 = true
  · subst c3
    have H1 : ((slices_Concat_int_int.f k l0).bind fun t625 => ((impl_tilesIn.f k t625).bind fun t628 => (some (t628, true)))) = some (r1, r2) := by rw [if_pos rfl] at H; exact H
    clear H
    have H := H1
    clear H1
    replace H := Option.bind_eq_some_iff.mp H
    obtain ⟨t625, A40, H⟩ := H
    replace H : ((impl_tilesIn.f k t625).bind fun t628 => (some (t628, true))) = some (r1, r2) := H
    have A4 := Aside0.mk A40
    clear A40
    replace H := Option.bind_eq_some_iff.mp H
    obtain ⟨t628, A50, H⟩ := H
    replace H : (some (t628, true)) = some (r1, r2) := H
    have A5 := Aside0.mk A50
    clear A50
    simp only [Option.some.injEq, Prod.mk.injEq] at H
    obtain ⟨rfl, rfl⟩ := H
    go_enter Try.func44, Try.ntmps44
    go_wp2_with (first | ((with_reducible refine gate_callee (f := 41) rfl ?_); refine goesL_ (some 5) rfl rfl Try.func41 (by kernel_rfl) rfl #[.slice A0 l0.length c0] rfl (by (try simp only [List.map_toArray, List.map_cons, List.map_nil]); first | done | rfl | (simp only [List.length_drop, List.length_take]; rfl)) ?_; (with_reducible refine (impl_IsBlock.calls k _ _ l0 true _ ?side1 ?side2 A2.out).mono ?_); (case side1 => repeat (first | exact HR0.out | (with_reducible refine Kd.C_alloc ?_ _) | (with_reducible refine Kd.C_drewN ?_ _) | (with_reducible refine Kd.C_drew ?_))); (case side2 => exact HC0.out); rintro e w6 ⟨rfl, hb⟩; refine ⟨_, rfl, ?_⟩; have n0_ := Aside0.mk (below_step (by repeat (first | (with_reducible first | exact HB.out | apply below_alloc | apply pw_below_drewN | apply below_drew1) | exact HB.out)) hb); clear HB; have HB := n0_; clear n0_; (try clear hb); (try clear hb2); (try clear hk); (try clear hi)) | ((with_reducible refine gate_callee (f := 73) rfl ?_); refine goesL_ (some 8) rfl rfl Try.func73 (by kernel_rfl) rfl #[.slice A0 l0.length c0] rfl (by (try simp only [List.map_toArray, List.map_cons, List.map_nil]); first | done | rfl | (simp only [List.length_drop, List.length_take]; rfl)) ?_; (with_reducible refine (slices_Concat_int_int.calls k _ _ l0 t625 _ ?side1 ?side2 A4.out).mono ?_); (case side1 => repeat (first | exact (Kd.C_below HR0.out HB.out) | (with_reducible refine Kd.C_alloc ?_ _) | (with_reducible refine Kd.C_drewN ?_ _) | (with_reducible refine Kd.C_drew ?_))); (case side2 => exact HC0.out); rintro e w7 ⟨v626, rfl, ho0, hb⟩; refine ⟨_, rfl, ?_⟩; have n0_ := Aside0.mk (Kd.R_lower ho0 (below_size (by repeat (first | (with_reducible first | exact HB.out | apply below_alloc | apply pw_below_drewN | apply below_drew1) | exact HB.out)))); have n1_ := Aside0.mk (below_step (by repeat (first | (with_reducible first | exact HB.out | apply below_alloc | apply pw_below_drewN | apply below_drew1) | exact HB.out)) hb); clear HB; have HO627 := n0_; have HB := n1_; clear n0_ n1_; (try clear hb); (try clear hb2); (try clear hk); (try clear hi); (try clear ho0); obtain ⟨Ao8, co8, eo8⟩ := Kd.R_slice HO627.out; subst eo8) | ((with_reducible refine gate_callee (f := 53) rfl ?_); refine goesL_ (some 9) rfl rfl Try.func53 (by kernel_rfl) rfl #[.slice Ao8 t625.length co8] rfl (by (try simp only [List.map_toArray, List.map_cons, List.map_nil]); first | done | rfl | (simp only [List.length_drop, List.length_take]; rfl)) ?_; (with_reducible refine (impl_tilesIn.calls k _ _ t625 t628 _ ?side1 ?side2 A5.out).mono ?_); (case side1 => repeat (first | exact (Kd.R_reads' HO627.out).2.2 | (with_reducible refine Kd.C_alloc ?_ _) | (with_reducible refine Kd.C_drewN ?_ _) | (with_reducible refine Kd.C_drew ?_))); (case side2 => exact (Kd.R_reads' HO627.out).2.1); rintro e w9 ⟨v629, rfl, ho0, hb⟩; refine ⟨_, rfl, ?_⟩; have n0_ := Aside0.mk (Kd.R_below (by (with_reducible repeat (first | apply Kd.R_alloc | apply Kd.R_drewN | apply Kd.R_drew)); exact HO627.out) hb); have n1_ := Aside0.mk (Kd.R_lower ho0 (below_size (by repeat (first | (with_reducible first | exact HB.out | apply below_alloc | apply pw_below_drewN | apply below_drew1) | exact HB.out)))); have n2_ := Aside0.mk (below_step (by repeat (first | (with_reducible first | exact HB.out | apply below_alloc | apply pw_below_drewN | apply below_drew1) | exact HB.out)) hb); clear HO627; clear HB; have HO627 := n0_; have HO630 := n1_; have HB := n2_; clear n0_ n1_ n2_; (try clear hb); (try clear hb2); (try clear hk); (try clear hi); (try clear ho0)))
    go_ret2
    exact ⟨_, by first | rfl | (simp [errW_none, errW_some] <;> rfl) | (simp [*, errW_none, errW_some] <;> rfl), by (with_reducible repeat (first | apply Kd.R_alloc | apply Kd.R_drewN | apply Kd.R_drew)); exact HO630.out, by repeat (first | (with_reducible first | exact HB.out | apply below_alloc | apply pw_below_drewN | apply below_drew1) | exact HB.out)⟩
  · replace c3 := Bool.eq_false_iff.mpr c3
    subst c3
    have H1 : (some (([] : List (S_Tile)), false)) = some (r1, r2) := by rw [if_neg (show ¬ (false = true) by decide)] at H; exact H
    clear H
    have H := H1
    clear H1
    simp only [Option.some.injEq, Prod.mk.injEq] at H
    obtain ⟨rfl, rfl⟩ := H
    go_enter Try.func44, Try.ntmps44
    go_wp2_with (first | ((with_reducible refine gate_callee (f := 41) rfl ?_); refine goesL_ (some 5) rfl rfl Try.func41 (by kernel_rfl) rfl #[.slice A0 l0.length c0] rfl (by (try simp only [List.map_toArray, List.map_cons, List.map_nil]); first | done | rfl | (simp only [List.length_drop, List.length_take]; rfl)) ?_; (with_reducible refine (impl_IsBlock.calls k _ _ l0 false _ ?side1 ?side2 A2.out).mono ?_); (case side1 => repeat (first | exact HR0.out | (with_reducible refine Kd.C_alloc ?_ _) | (with_reducible refine Kd.C_drewN ?_ _) | (with_reducible refine Kd.C_drew ?_))); (case side2 => exact HC0.out); rintro e w10 ⟨rfl, hb⟩; refine ⟨_, rfl, ?_⟩; have n0_ := Aside0.mk (below_step (by repeat (first | (with_reducible first | exact HB.out | apply below_alloc | apply pw_below_drewN | apply below_drew1) | exact HB.out)) hb); clear HB; have HB := n0_; clear n0_; (try clear hb); (try clear hb2); (try clear hk); (try clear hi)))
    go_ret2
    exact ⟨_, by first | rfl | (simp [errW_none, errW_some] <;> rfl) | (simp [*, errW_none, errW_some] <;> rfl), by first | exact Kd.R_nil _ _ _ _ _ | exact Kd.N_nil _ _ _ _ _ | exact Kd.V_nil _ _ _ _ _ | exact Kd.Q_nil _ _ _ _ _ | exact Kd.S_nil _ _ _ _ _, by repeat (first | (with_reducible first | exact HB.out | apply below_alloc | apply pw_below_drewN | apply below_drew1) | exact HB.out)⟩

end
section
open Go.RowKit Go.Proofs.YtnoagkhmmckiaaaW.PrintWords Go.Proofs.YtnoagkhmmckiaaaW.PrintLast Go.Proofs.YtnoagkhmmckiaaaW.PrintMore
attribute [local go_sem] max2_int min2_int max_two min_two max_three min_three max_four min_four   -- for this text's walks alone
set_option linter.unusedVariables false
set_option linter.unusedSimpArgs false

/-! ### laws_FnExactBlockTiles: function 12 -/
def laws_FnExactBlockTiles.f (k : Nat) (l0 : List (List Int)) : Option (Bool) := (laws_szIntSS.f k l0 1048576).bind fun t631 => (if t631 < 0 then (some true) else ((laws_toIntSS.f k l0).bind fun t632 => ((spec_BlockTiles.f k t632).bind fun bt635 => ((laws_toIntSS.f k l0).bind fun t639 => ((impl_BlockTiles.f k t639).bind fun bt642 => ((laws_eqTileS.f k bt642.1 bt635.1).bind fun t646 => (if t646 = true then (if (bt642.2 != bt635.2) = true then (none) else ((laws_toIntSS.f k l0).bind fun t647 => ((laws_eqIntSS.f k t639 t647).bind fun t650 => (if t650 = true then ((laws_markIntSS.f k t639 1).bind fun t651 => (if t651 < 0 then (none) else ((laws_eqTileS.f k bt642.1 bt635.1).bind fun t652 => (if t652 = true then ((laws_markTileS.f k bt642.1 1).bind fun bt653 => ((laws_heldTileS.f k bt653.2 1).bind fun t655 => (if t655 < 0 then (none) else (if t655 = bt653.1 then ((laws_toIntSS.f k l0).bind fun t656 => ((impl_BlockTiles.f k t656).bind fun bt659 => ((laws_eqTileS.f k bt659.1 bt635.1).bind fun t663 => (if t663 = true then (if (bt659.2 != bt635.2) = true then (none) else ((laws_heldTileS.f k bt653.2 1).bind fun t664 => (if t664 < 0 then (none) else (if t664 = bt653.1 then (some true) else (none))))) else (none))))) else (none))))) else (none))))) else (none))))) else (none))))))))
theorem laws_FnExactBlockTiles.mono : ∀ a0 k, LeO (laws_FnExactBlockTiles.f k a0) (laws_FnExactBlockTiles.f (k + 1) a0) := by
  intro a0 k
  unfold laws_FnExactBlockTiles.f
  repeat' first
      | (with_reducible exact impl_BlockTiles.mono _ _)
      | (with_reducible exact laws_eqIntSS.mono _ _ _)
      | (with_reducible exact laws_eqTileS.mono _ _ _)
      | (with_reducible exact laws_heldTileS.mono _ _ _)
      | (with_reducible exact laws_markIntSS.mono _ _ _)
      | (with_reducible exact laws_markTileS.mono _ _ _)
      | (with_reducible exact laws_szIntSS.mono _ _ _)
      | (with_reducible exact laws_toIntSS.mono _ _)
      | (with_reducible exact spec_BlockTiles.mono _ _)
      | (with_reducible exact LeO.refl _)
      | (with_reducible exact LeO.none _)
      | (with_reducible refine LeO.ite ?_ ?_)
      | (with_reducible refine LeO.bind ?_ (fun _ => ?_))
      | exact impl_BlockTiles.mono _ _
      | exact laws_eqIntSS.mono _ _ _
      | exact laws_eqTileS.mono _ _ _
      | exact laws_heldTileS.mono _ _ _
      | exact laws_markIntSS.mono _ _ _
      | exact laws_markTileS.mono _ _ _
      | exact laws_szIntSS.mono _ _ _
      | exact laws_toIntSS.mono _ _
      | exact spec_BlockTiles.mono _ _
      | exact LeO.none _
      | refine LeO.ite ?_ ?_
      | refine LeO.bind ?_ (fun _ => ?_)
set_option maxHeartbeats 8000000 in
set_option maxRecDepth 100000 in
theorem laws_FnExactBlockTiles.calls (k : Nat) (A0 : Option Addr) (c0 : Nat) (l0 : List (List Int)) (r : Bool) (w : World) (hr0 : Kd.C (Kd.slice 3 (Kd.int .i64)) w A0 l0.length l0) (hc0 : l0.length ≤ c0) (h : laws_FnExactBlockTiles.f k l0 = some r) :
    Calls Try.prog 12 #[.slice A0 l0.length c0] w fun e w' => e = .returned (.bool r) ∧ Below w.heap.size w w' := by
  have HR0 := Aside0.mk hr0
  have HC0 := Aside0.mk hc0
  clear hr0 hc0
  have HB := Aside0.mk (Below.refl w.heap.size w)
  have H : ((laws_szIntSS.f k l0 1048576).bind fun t631 => (if t631 < 0 then (some true) else ((laws_toIntSS.f k l0).bind fun t632 => ((spec_BlockTiles.f k t632).bind fun bt635 => ((laws_toIntSS.f k l0).bind fun t639 => ((impl_BlockTiles.f k t639).bind fun bt642 => ((laws_eqTileS.f k bt642.1 bt635.1).bind fun t646 => (if t646 = true then (if (bt642.2 != bt635.2) = true then (none) else ((laws_toIntSS.f k l0).bind fun t647 => ((laws_eqIntSS.f k t639 t647).bind fun t650 => (if t650 = true then ((laws_markIntSS.f k t639 1).bind fun t651 => (if t651 < 0 then (none) else ((laws_eqTileS.f k bt642.1 bt635.1).bind fun t652 => (if t652 = true then ((laws_markTileS.f k bt642.1 1).bind fun bt653 => ((laws_heldTileS.f k bt653.2 1).bind fun t655 => (if t655 < 0 then (none) else (if t655 = bt653.1 then ((laws_toIntSS.f k l0).bind fun t656 => ((impl_BlockTiles.f k t656).bind fun bt659 => ((laws_eqTileS.f k bt659.1 bt635.1).bind fun t663 => (if t663 = true then (if (bt659.2 != bt635.2) = true then (none) else ((laws_heldTileS.f k bt653.2 1).bind fun t664 => (if t664 < 0 then (none) else (if t664 = bt653.1 then (some true) else (none))))) else (none))))) else (none))))) else (none))))) else (none))))) else (none))))))))) = some r := h
  clear h
  replace H := Option.bind_eq_some_iff.mp H
  obtain ⟨t631, A20, H⟩ := H
  replace H : (if t631 < 0 then (some true) else ((laws_toIntSS.f k l0).bind fun t632 => ((spec_BlockTiles.f k t632).bind fun bt635 => ((laws_toIntSS.f k l0).bind fun t639 => ((impl_BlockTiles.f k t639).bind fun bt642 => ((laws_eqTileS.f k bt642.1 bt635.1).bind fun t646 => (if t646 = true then (if (bt642.2 != bt635.2) = true then (none) else ((laws_toIntSS.f k l0).bind fun t647 => ((laws_eqIntSS.f k t639 t647).bind fun t650 => (if t650 = true then ((laws_markIntSS.f k t639 1).bind fun t651 => (if t651 < 0 then (none) else ((laws_eqTileS.f k bt642.1 bt635.1).bind fun t652 => (if t652 = true then ((laws_markTileS.f k bt642.1 1).bind fun bt653 => ((laws_heldTileS.f k bt653.2 1).bind fun t655 => (if t655 < 0 then (none) else (if t655 = bt653.1 then ((laws_toIntSS.f k l0).bind fun t656 => ((impl_BlockTiles.f k t656).bind fun bt659 => ((laws_eqTileS.f k bt659.1 bt635.1).bind fun t663 => (if t663 = true then (if (bt659.2 != bt635.2) = true then (none) else ((laws_heldTileS.f k bt653.2 1).bind fun t664 => (if t664 < 0 then (none) else (if t664 = bt653.1 then (some true) else (none))))) else (none))))) else (none))))) else (none))))) else (none))))) else (none)))))))) = some r := H
  have A2 := Aside0.mk A20
  clear A20
  by_cases c3 : t631 < 0
  · rw [if_pos c3] at H
    have c3b0 : decide (t631 < 0) = true := decide_eq_true c3
    clear c3
    obtain rfl := Option.some.inj H
    go_enter Try.func12, Try.ntmps12
    go_wp2_with (first | ((with_reducible refine gate_callee (f := 38) rfl ?_); refine goesL_ (some 16) rfl rfl Try.func38 (by kernel_rfl) rfl #[.slice A0 l0.length c0, .int .i64 1048576] rfl (by (try simp only [List.map_toArray, List.map_cons, List.map_nil]); first | done | rfl | (simp only [List.length_drop, List.length_take]; rfl)) ?_; (with_reducible refine (laws_szIntSS.calls k _ _ l0 1048576 t631 _ ?side1 ?side2 A2.out).mono ?_); (case side1 => repeat (first | exact HR0.out | (with_reducible refine Kd.C_alloc ?_ _) | (with_reducible refine Kd.C_drewN ?_ _) | (with_reducible refine Kd.C_drew ?_))); (case side2 => exact HC0.out); rintro e w' ⟨rfl, ⟨nd, rfl⟩⟩; refine ⟨_, rfl, ?_⟩))
    go_ret
    exact ⟨by first | rfl | (simp [errW_none, errW_some] <;> rfl) | (simp [*, errW_none, errW_some] <;> rfl), by repeat (first | (with_reducible first | exact HB.out | apply below_alloc | apply pw_below_drewN | apply below_drew1) | exact HB.out)⟩
  · rw [if_neg c3] at H
    have c3b0 : decide (t631 < 0) = false := decide_eq_false c3
    clear c3
    replace H := Option.bind_eq_some_iff.mp H
    obtain ⟨t632, A40, H⟩ := H
    replace H : ((spec_BlockTiles.f k t632).bind fun bt635 => ((laws_toIntSS.f k l0).bind fun t639 => ((impl_BlockTiles.f k t639).bind fun bt642 => ((laws_eqTileS.f k bt642.1 bt635.1).bind fun t646 => (if t646 = true then (if (bt642.2 != bt635.2) = true then (none) else ((laws_toIntSS.f k l0).bind fun t647 => ((laws_eqIntSS.f k t639 t647).bind fun t650 => (if t650 = true then ((laws_markIntSS.f k t639 1).bind fun t651 => (if t651 < 0 then (none) else ((laws_eqTileS.f k bt642.1 bt635.1).bind fun t652 => (if t652 = true then ((laws_markTileS.f k bt642.1 1).bind fun bt653 => ((laws_heldTileS.f k bt653.2 1).bind fun t655 => (if t655 < 0 then (none) else (if t655 = bt653.1 then ((laws_toIntSS.f k l0).bind fun t656 => ((impl_BlockTiles.f k t656).bind fun bt659 => ((laws_eqTileS.f k bt659.1 bt635.1).bind fun t663 => (if t663 = true then (if (bt659.2 != bt635.2) = true then (none) else ((laws_heldTileS.f k bt653.2 1).bind fun t664 => (if t664 < 0 then (none) else (if t664 = bt653.1 then (some true) else (none))))) else (none))))) else (none))))) else (none))))) else (none))))) else (none)))))) = some r := H
    have A4 := Aside0.mk A40
    clear A40
    replace H := Option.bind_eq_some_iff.mp H
    obtain ⟨⟨t635, t636⟩, A50, H⟩ := H
    replace H : ((laws_toIntSS.f k l0).bind fun t639 => ((impl_BlockTiles.f k t639).bind fun bt642 => ((laws_eqTileS.f k bt642.1 t635).bind fun t646 => (if t646 = true then (if (bt642.2 != t636) = true then (none) else ((laws_toIntSS.f k l0).bind fun t647 => ((laws_eqIntSS.f k t639 t647).bind fun t650 => (if t650 = true then ((laws_markIntSS.f k t639 1).bind fun t651 => (if t651 < 0 then (none) else ((laws_eqTileS.f k bt642.1 t635).bind fun t652 => (if t652 = true then ((laws_markTileS.f k bt642.1 1).bind fun bt653 => ((laws_heldTileS.f k bt653.2 1).bind fun t655 => (if t655 < 0 then (none) else (if t655 = bt653.1 then ((laws_toIntSS.f k l0).bind fun t656 => ((impl_BlockTiles.f k t656).bind fun bt659 => ((laws_eqTileS.f k bt659.1 t635).bind fun t663 => (if t663 = true then (if (bt659.2 != t636) = true then (none) else ((laws_heldTileS.f k bt653.2 1).bind fun t664 => (if t664 < 0 then (none) else (if t664 = bt653.1 then (some true) else (none))))) else (none))))) else (none))))) else (none))))) else (none))))) else (none))))) = some r := H
    have A5 := Aside0.mk A50
    clear A50
    replace H := Option.bind_eq_some_iff.mp H
    obtain ⟨t639, A60, H⟩ := H
    replace H : ((impl_BlockTiles.f k t639).bind fun bt642 => ((laws_eqTileS.f k bt642.1 t635).bind fun t646 => (if t646 = true then (if (bt642.2 != t636) = true then (none) else ((laws_toIntSS.f k l0).bind fun t647 => ((laws_eqIntSS.f k t639 t647).bind fun t650 => (if t650 = true then ((laws_markIntSS.f k t639 1).bind fun t651 => (if t651 < 0 then (none) else ((laws_eqTileS.f k bt642.1 t635).bind fun t652 => (if t652 = true then ((laws_markTileS.f k bt642.1 1).bind fun bt653 => ((laws_heldTileS.f k bt653.2 1).bind fun t655 => (if t655 < 0 then (none) else (if t655 = bt653.1 then ((laws_toIntSS.f k l0).bind fun t656 => ((impl_BlockTiles.f k t656).bind fun bt659 => ((laws_eqTileS.f k bt659.1 t635).bind fun t663 => (if t663 = true then (if (bt659.2 != t636) = true then (none) else ((laws_heldTileS.f k bt653.2 1).bind fun t664 => (if t664 < 0 then (none) else (if t664 = bt653.1 then (some true) else (none))))) else (none))))) else (none))))) else (none))))) else (none))))) else (none)))) = some r := H
    have A6 := Aside0.mk A60
    clear A60
    replace H := Option.bind_eq_some_iff.mp H
    obtain ⟨⟨t642, t643⟩, A70, H⟩ := H
    replace H : ((laws_eqTileS.f k t642 t635).bind fun t646 => (if t646 = true then (if (t643 != t636) = true then (none) else ((laws_toIntSS.f k l0).bind fun t647 => ((laws_eqIntSS.f k t639 t647).bind fun t650 => (if t650 = true then ((laws_markIntSS.f k t639 1).bind fun t651 => (if t651 < 0 then (none) else ((laws_eqTileS.f k t642 t635).bind fun t652 => (if t652 = true then ((laws_markTileS.f k t642 1).bind fun bt653 => ((laws_heldTileS.f k bt653.2 1).bind fun t655 => (if t655 < 0 then (none) else (if t655 = bt653.1 then ((laws_toIntSS.f k l0).bind fun t656 => ((impl_BlockTiles.f k t656).bind fun bt659 => ((laws_eqTileS.f k bt659.1 t635).bind fun t663 => (if t663 = true then (if (bt659.2 != t636) = true then (none) else ((laws_heldTileS.f k bt653.2 1).bind fun t664 => (if t664 < 0 then (none) else (if t664 = bt653.1 then (some true) else (none))))) else (none))))) else (none))))) else (none))))) else (none))))) else (none))) = some r := H
    have A7 := Aside0.mk A70
    clear A70
    replace H := Option.bind_eq_some_iff.mp H
    obtain ⟨t646, A80, H⟩ := H
    replace H : (if t646 = true then (if (t643 != t636) = true then (none) else ((laws_toIntSS.f k l0).bind fun t647 => ((laws_eqIntSS.f k t639 t647).bind fun t650 => (if t650 = true then ((laws_markIntSS.f k t639 1).bind fun t651 => (if t651 < 0 then (none) else ((laws_eqTileS.f k t642 t635).bind fun t652 => (if t652 = true then ((laws_markTileS.f k t642 1).bind fun bt653 => ((laws_heldTileS.f k bt653.2 1).bind fun t655 => (if t655 < 0 then (none) else (if t655 = bt653.1 then ((laws_toIntSS.f k l0).bind fun t656 => ((impl_BlockTiles.f k t656).bind fun bt659 => ((laws_eqTileS.f k bt659.1 t635).bind fun t663 => (if t663 = true then (if (bt659.2 != t636) = true then (none) else ((laws_heldTileS.f k bt653.2 1).bind fun t664 => (if t664 < 0 then (none) else (if t664 = bt653.1 then (some true) else (none))))) else (none))))) else (none))))) else (none))))) else (none))))) else (none)) = some r := H
    have A8 := Aside0.mk A80
    clear A80
    by_cases c9 : t646 = true
    · subst c9
      have H1 : (if (t643 != t636) = true then (none) else ((laws_toIntSS.f k l0).bind fun t647 => ((laws_eqIntSS.f k t639 t647).bind fun t650 => (if t650 = true then ((laws_markIntSS.f k t639 1).bind fun t651 => (if t651 < 0 then (none) else ((laws_eqTileS.f k t642 t635).bind fun t652 => (if t652 = true then ((laws_markTileS.f k t642 1).bind fun bt653 => ((laws_heldTileS.f k bt653.2 1).bind fun t655 => (if t655 < 0 then (none) else (if t655 = bt653.1 then ((laws_toIntSS.f k l0).bind fun t656 => ((impl_BlockTiles.f k t656).bind fun bt659 => ((laws_eqTileS.f k bt659.1 t635).bind fun t663 => (if t663 = true then (if (bt659.2 != t636) = true then (none) else ((laws_heldTileS.f k bt653.2 1).bind fun t664 => (if t664 < 0 then (none) else (if t664 = bt653.1 then (some true) else (none))))) else (none))))) else (none))))) else (none))))) else (none))))) = some r := by rw [if_pos rfl] at H; exact H
      clear H
      have H := H1
      clear H1
      by_cases c10 : (t643 != t636) = true
      · rw [if_pos c10] at H
        exact absurd H (by simp)
      · rw [if_neg c10] at H
        have c10b0 : (t643 != t636) = false := by simpa using c10
        (try (have c10b1 : decide (t643 = t636) = true := by simpa using c10))
        (try (have c10b2 : (t643 == t636) = true := by simpa using c10))
        clear c10
        replace H := Option.bind_eq_some_iff.mp H
        obtain ⟨t647, A110, H⟩ := H
        replace H : ((laws_eqIntSS.f k t639 t647).bind fun t650 => (if t650 = true then ((laws_markIntSS.f k t639 1).bind fun t651 => (if t651 < 0 then (none) else ((laws_eqTileS.f k t642 t635).bind fun t652 => (if t652 = true then ((laws_markTileS.f k t642 1).bind fun bt653 => ((laws_heldTileS.f k bt653.2 1).bind fun t655 => (if t655 < 0 then (none) else (if t655 = bt653.1 then ((laws_toIntSS.f k l0).bind fun t656 => ((impl_BlockTiles.f k t656).bind fun bt659 => ((laws_eqTileS.f k bt659.1 t635).bind fun t663 => (if t663 = true then (if (bt659.2 != t636) = true then (none) else ((laws_heldTileS.f k bt653.2 1).bind fun t664 => (if t664 < 0 then (none) else (if t664 = bt653.1 then (some true) else (none))))) else (none))))) else (none))))) else (none))))) else (none))) = some r := H
        have A11 := Aside0.mk A110
        clear A110
        replace H := Option.bind_eq_some_iff.mp H
        obtain ⟨t650, A120, H⟩ := H
        replace H : (if t650 = true then ((laws_markIntSS.f k t639 1).bind fun t651 => (if t651 < 0 then (none) else ((laws_eqTileS.f k t642 t635).bind fun t652 => (if t652 = true then ((laws_markTileS.f k t642 1).bind fun bt653 => ((laws_heldTileS.f k bt653.2 1).bind fun t655 => (if t655 < 0 then (none) else (if t655 = bt653.1 then ((laws_toIntSS.f k l0).bind fun t656 => ((impl_BlockTiles.f k t656).bind fun bt659 => ((laws_eqTileS.f k bt659.1 t635).bind fun t663 => (if t663 = true then (if (bt659.2 != t636) = true then (none) else ((laws_heldTileS.f k bt653.2 1).bind fun t664 => (if t664 < 0 then (none) else (if t664 = bt653.1 then (some true) else (none))))) else (none))))) else (none))))) else (none))))) else (none)) = some r := H
        have A12 := Aside0.mk A120
        clear A120
        by_cases c13 : t650 = true
        · subst c13
          have H1 : ((laws_markIntSS.f k t639 1).bind fun t651 => (if t651 < 0 then (none) else ((laws_eqTileS.f k t642 t635).bind fun t652 => (if t652 = true then ((laws_markTileS.f k t642 1).bind fun bt653 => ((laws_heldTileS.f k bt653.2 1).bind fun t655 => (if t655 < 0 then (none) else (if t655 = bt653.1 then ((laws_toIntSS.f k l0).bind fun t656 => ((impl_BlockTiles.f k t656).bind fun bt659 => ((laws_eqTileS.f k bt659.1 t635).bind fun t663 => (if t663 = true then (if (bt659.2 != t636) = true then (none) else ((laws_heldTileS.f k bt653.2 1).bind fun t664 => (if t664 < 0 then (none) else (if t664 = bt653.1 then (some true) else (none))))) else (none))))) else (none))))) else (none))))) = some r := by rw [if_pos rfl] at H; exact H
          clear H
          have H := H1
          clear H1
          replace H := Option.bind_eq_some_iff.mp H
          obtain ⟨t651, A140, H⟩ := H
          replace H : (if t651 < 0 then (none) else ((laws_eqTileS.f k t642 t635).bind fun t652 => (if t652 = true then ((laws_markTileS.f k t642 1).bind fun bt653 => ((laws_heldTileS.f k bt653.2 1).bind fun t655 => (if t655 < 0 then (none) else (if t655 = bt653.1 then ((laws_toIntSS.f k l0).bind fun t656 => ((impl_BlockTiles.f k t656).bind fun bt659 => ((laws_eqTileS.f k bt659.1 t635).bind fun t663 => (if t663 = true then (if (bt659.2 != t636) = true then (none) else ((laws_heldTileS.f k bt653.2 1).bind fun t664 => (if t664 < 0 then (none) else (if t664 = bt653.1 then (some true) else (none))))) else (none))))) else (none))))) else (none)))) = some r := H
          have A14 := Aside0.mk A140
          clear A140
          by_cases c15 : t651 < 0
          · rw [if_pos c15] at H
            exact absurd H (by simp)
          · rw [if_neg c15] at H
            have c15b0 : decide (t651 < 0) = false := decide_eq_false c15
            clear c15
            replace H := Option.bind_eq_some_iff.mp H
            obtain ⟨t652, A160, H⟩ := H
            replace H : (if t652 = true then ((laws_markTileS.f k t642 1).bind fun bt653 => ((laws_heldTileS.f k bt653.2 1).bind fun t655 => (if t655 < 0 then (none) else (if t655 = bt653.1 then ((laws_toIntSS.f k l0).bind fun t656 => ((impl_BlockTiles.f k t656).bind fun bt659 => ((laws_eqTileS.f k bt659.1 t635).bind fun t663 => (if t663 = true then (if (bt659.2 != t636) = true then (none) else ((laws_heldTileS.f k bt653.2 1).bind fun t664 => (if t664 < 0 then (none) else (if t664 = bt653.1 then (some true) else (none))))) else (none))))) else (none))))) else (none)) = some r := H
            have A16 := Aside0.mk A160
            clear A160
            by_cases c17 : t652 = true
            · subst c17
              have H1 : ((laws_markTileS.f k t642 1).bind fun bt653 => ((laws_heldTileS.f k bt653.2 1).bind fun t655 => (if t655 < 0 then (none) else (if t655 = bt653.1 then ((laws_toIntSS.f k l0).bind fun t656 => ((impl_BlockTiles.f k t656).bind fun bt659 => ((laws_eqTileS.f k bt659.1 t635).bind fun t663 => (if t663 = true then (if (bt659.2 != t636) = true then (none) else ((laws_heldTileS.f k bt653.2 1).bind fun t664 => (if t664 < 0 then (none) else (if t664 = bt653.1 then (some true) else (none))))) else (none))))) else (none))))) = some r := by rw [if_pos rfl] at H; exact H
              clear H
              have H := H1
              clear H1
              replace H := Option.bind_eq_some_iff.mp H
              obtain ⟨⟨t653, t654⟩, A180, H⟩ := H
              replace H : ((laws_heldTileS.f k t654 1).bind fun t655 => (if t655 < 0 then (none) else (if t655 = t653 then ((laws_toIntSS.f k l0).bind fun t656 => ((impl_BlockTiles.f k t656).bind fun bt659 => ((laws_eqTileS.f k bt659.1 t635).bind fun t663 => (if t663 = true then (if (bt659.2 != t636) = true then (none) else ((laws_heldTileS.f k t654 1).bind fun t664 => (if t664 < 0 then (none) else (if t664 = t653 then (some true) else (none))))) else (none))))) else (none)))) = some r := H
              have A18 := Aside0.mk A180
              clear A180
              replace H := Option.bind_eq_some_iff.mp H
              obtain ⟨t655, A190, H⟩ := H
              replace H : (if t655 < 0 then (none) else (if t655 = t653 then ((laws_toIntSS.f k l0).bind fun t656 => ((impl_BlockTiles.f k t656).bind fun bt659 => ((laws_eqTileS.f k bt659.1 t635).bind fun t663 => (if t663 = true then (if (bt659.2 != t636) = true then (none) else ((laws_heldTileS.f k t654 1).bind fun t664 => (if t664 < 0 then (none) else (if t664 = t653 then (some true) else (none))))) else (none))))) else (none))) = some r := H
              have A19 := Aside0.mk A190
              clear A190
              by_cases c20 : t655 < 0
              · rw [if_pos c20] at H
                exact absurd H (by simp)
              · rw [if_neg c20] at H
                have c20b0 : decide (t655 < 0) = false := decide_eq_false c20
                clear c20
                by_cases c21 : t655 = t653
                · rw [if_pos c21] at H
                  have c21b0 : (t655 == t653) = true := beq_iff_eq.mpr c21
                  have c21b1 : (t655 != t653) = false := bne_eq_false_iff_eq.mpr c21
                  clear c21
                  replace H := Option.bind_eq_some_iff.mp H
                  obtain ⟨t656, A220, H⟩ := H
                  replace H : ((impl_BlockTiles.f k t656).bind fun bt659 => ((laws_eqTileS.f k bt659.1 t635).bind fun t663 => (if t663 = true then (if (bt659.2 != t636) = true then (none) else ((laws_heldTileS.f k t654 1).bind fun t664 => (if t664 < 0 then (none) else (if t664 = t653 then (some true) else (none))))) else (none)))) = some r := H
                  have A22 := Aside0.mk A220
                  clear A220
                  replace H := Option.bind_eq_some_iff.mp H
                  obtain ⟨⟨t659, t660⟩, A230, H⟩ := H
                  replace H : ((laws_eqTileS.f k t659 t635).bind fun t663 => (if t663 = true then (if (t660 != t636) = true then (none) else ((laws_heldTileS.f k t654 1).bind fun t664 => (if t664 < 0 then (none) else (if t664 = t653 then (some true) else (none))))) else (none))) = some r := H
                  have A23 := Aside0.mk A230
                  clear A230
                  replace H := Option.bind_eq_some_iff.mp H
                  obtain ⟨t663, A240, H⟩ := H
                  replace H : (if t663 = true then (if (t660 != t636) = true then (none) else ((laws_heldTileS.f k t654 1).bind fun t664 => (if t664 < 0 then (none) else (if t664 = t653 then (some true) else (none))))) else (none)) = some r := H
                  have A24 := Aside0.mk A240
                  clear A240
                  by_cases c25 : t663 = true
                  · subst c25
                    have H1 : (if (t660 != t636) = true then (none) else ((laws_heldTileS.f k t654 1).bind fun t664 => (if t664 < 0 then (none) else (if t664 = t653 then (some true) else (none))))) = some r := by rw [if_pos rfl] at H; exact H
                    clear H
                    have H := H1
                    clear H1
                    by_cases c26 : (t660 != t636) = true
                    · rw [if_pos c26] at H
                      exact absurd H (by simp)
                    · rw [if_neg c26] at H
                      have c26b0 : (t660 != t636) = false := by simpa using c26
                      (try (have c26b1 : decide (t660 = t636) = true := by simpa using c26))
                      (try (have c26b2 : (t660 == t636) = true := by simpa using c26))
                      clear c26
                      replace H := Option.bind_eq_some_iff.mp H
                      obtain ⟨t664, A270, H⟩ := H
                      replace H : (if t664 < 0 then (none) else (if t664 = t653 then (some true) else (none))) = some r := H
                      have A27 := Aside0.mk A270
                      clear A270
                      by_cases c28 : t664 < 0
                      · rw [if_pos c28] at H
                        exact absurd H (by simp)
                      · rw [if_neg c28] at H
                        have c28b0 : decide (t664 < 0) = false := decide_eq_false c28
                        clear c28
                        by_cases c29 : t664 = t653
                        · rw [if_pos c29] at H
                          have c29b0 : (t664 == t653) = true := beq_iff_eq.mpr c29
                          have c29b1 : (t664 != t653) = false := bne_eq_false_iff_eq.mpr c29
                          clear c29
                          obtain rfl := Option.some.inj H
                          go_enter Try.func12, Try.ntmps12
                          go_wp2_with (first | ((with_reducible refine gate_callee (f := 38) rfl ?_); refine goesL_ (some 16) rfl rfl Try.func38 (by kernel_rfl) rfl #[.slice A0 l0.length c0, .int .i64 1048576] rfl (by (try simp only [List.map_toArray, List.map_cons, List.map_nil]); first | done | rfl | (simp only [List.length_drop, List.length_take]; rfl)) ?_; (with_reducible refine (laws_szIntSS.calls k _ _ l0 1048576 t631 _ ?side1 ?side2 A2.out).mono ?_); (case side1 => repeat (first | exact HR0.out | (with_reducible refine Kd.C_alloc ?_ _) | (with_reducible refine Kd.C_drewN ?_ _) | (with_reducible refine Kd.C_drew ?_))); (case side2 => exact HC0.out); rintro e w' ⟨rfl, ⟨nd, rfl⟩⟩; refine ⟨_, rfl, ?_⟩) | ((with_reducible refine gate_callee (f := 40) rfl ?_); refine goesL_ (some 21) rfl rfl Try.func40 (by kernel_rfl) rfl #[.slice A0 l0.length c0] rfl (by (try simp only [List.map_toArray, List.map_cons, List.map_nil]); first | done | rfl | (simp only [List.length_drop, List.length_take]; rfl)) ?_; (with_reducible refine (laws_toIntSS.calls k _ _ l0 t632 _ ?side1 ?side2 A4.out).mono ?_); (case side1 => repeat (first | exact HR0.out | (with_reducible refine Kd.C_alloc ?_ _) | (with_reducible refine Kd.C_drewN ?_ _) | (with_reducible refine Kd.C_drew ?_))); (case side2 => exact HC0.out); rintro e w30 ⟨v633, rfl, ho0, hb⟩; refine ⟨_, rfl, ?_⟩; have n0_ := Aside0.mk (Kd.S_lower ho0 (below_size (by repeat (first | (with_reducible first | exact HB.out | apply below_alloc | apply pw_below_drewN | apply below_drew1) | exact HB.out)))); have n1_ := Aside0.mk (below_step (by repeat (first | (with_reducible first | exact HB.out | apply below_alloc | apply pw_below_drewN | apply below_drew1) | exact HB.out)) hb); clear HB; have HO634 := n0_; have HB := n1_; clear n0_ n1_; (try clear hb); (try clear hb2); (try clear hk); (try clear hi); (try clear ho0); obtain ⟨Ao31, co31, eo31⟩ := Kd.S_slice HO634.out; subst eo31) | ((with_reducible refine gate_callee (f := 43) rfl ?_); refine goesL_ (some 22) rfl rfl Try.func43 (by kernel_rfl) rfl #[.slice Ao31 t632.length co31] rfl (by (try simp only [List.map_toArray, List.map_cons, List.map_nil]); first | done | rfl | (simp only [List.length_drop, List.length_take]; rfl)) ?_; (with_reducible refine (spec_BlockTiles.calls k _ _ t632 t635 t636 _ ?side1 ?side2 A5.out).mono ?_); (case side1 => repeat (first | exact (Kd.S_reads' HO634.out).2.2 | (with_reducible refine Kd.C_alloc ?_ _) | (with_reducible refine Kd.C_drewN ?_ _) | (with_reducible refine Kd.C_drew ?_))); (case side2 => exact (Kd.S_reads' HO634.out).2.1); rintro e w32 ⟨v637, rfl, ho0, hb⟩; refine ⟨_, rfl, ?_⟩; have n0_ := Aside0.mk (Kd.S_below (by (with_reducible repeat (first | apply Kd.S_alloc | apply Kd.S_drewN | apply Kd.S_drew)); exact HO634.out) hb); have n1_ := Aside0.mk (Kd.R_lower ho0 (below_size (by repeat (first | (with_reducible first | exact HB.out | apply below_alloc | apply pw_below_drewN | apply below_drew1) | exact HB.out)))); have n2_ := Aside0.mk (below_step (by repeat (first | (with_reducible first | exact HB.out | apply below_alloc | apply pw_below_drewN | apply below_drew1) | exact HB.out)) hb); clear HO634; clear HB; have HO634 := n0_; have HO638 := n1_; have HB := n2_; clear n0_ n1_ n2_; (try clear hb); (try clear hb2); (try clear hk); (try clear hi); (try clear ho0)) | ((with_reducible refine gate_callee (f := 40) rfl ?_); refine goesL_ (some 26) rfl rfl Try.func40 (by kernel_rfl) rfl #[.slice A0 l0.length c0] rfl (by (try simp only [List.map_toArray, List.map_cons, List.map_nil]); first | done | rfl | (simp only [List.length_drop, List.length_take]; rfl)) ?_; (with_reducible refine (laws_toIntSS.calls k _ _ l0 t639 _ ?side1 ?side2 A6.out).mono ?_); (case side1 => repeat (first | exact (Kd.C_below HR0.out HB.out) | (with_reducible refine Kd.C_alloc ?_ _) | (with_reducible refine Kd.C_drewN ?_ _) | (with_reducible refine Kd.C_drew ?_))); (case side2 => exact HC0.out); rintro e w33 ⟨v640, rfl, ho0, hb⟩; refine ⟨_, rfl, ?_⟩; have n0_ := Aside0.mk (Kd.S_elder' (by (with_reducible repeat (first | apply Kd.S_alloc | apply Kd.S_drewN | apply Kd.S_drew)); exact HO634.out) (Kd.S_base ho0) hb); have n1_ := Aside0.mk (Kd.R_below (by (with_reducible repeat (first | apply Kd.R_alloc | apply Kd.R_drewN | apply Kd.R_drew)); exact HO638.out) hb); have n2_ := Aside0.mk (Kd.S_lower (Kd.S_new' ho0 (Kd.S_lt (by (with_reducible repeat (first | apply Kd.S_alloc | apply Kd.S_drewN | apply Kd.S_drew)); exact HO634.out))) (below_size (by repeat (first | (with_reducible first | exact HB.out | apply below_alloc | apply pw_below_drewN | apply below_drew1) | exact HB.out)))); have n3_ := Aside0.mk (below_step (by repeat (first | (with_reducible first | exact HB.out | apply below_alloc | apply pw_below_drewN | apply below_drew1) | exact HB.out)) hb); clear HO634; clear HO638; clear HB; have HO634 := n0_; have HO638 := n1_; have HO641 := n2_; have HB := n3_; clear n0_ n1_ n2_ n3_; (try clear hb); (try clear hb2); (try clear hk); (try clear hi); (try clear ho0); obtain ⟨Ao34, co34, eo34⟩ := Kd.S_slice HO641.out; subst eo34) | ((with_reducible refine gate_callee (f := 44) rfl ?_); refine goesL_ (some 29) rfl rfl Try.func44 (by kernel_rfl) rfl #[.slice Ao34 t639.length co34] rfl (by (try simp only [List.map_toArray, List.map_cons, List.map_nil]); first | done | rfl | (simp only [List.length_drop, List.length_take]; rfl)) ?_; (with_reducible refine (impl_BlockTiles.calls k _ _ t639 t642 t643 _ ?side1 ?side2 A7.out).mono ?_); (case side1 => repeat (first | exact (Kd.S_reads' HO641.out).2.2 | (with_reducible refine Kd.C_alloc ?_ _) | (with_reducible refine Kd.C_drewN ?_ _) | (with_reducible refine Kd.C_drew ?_))); (case side2 => exact (Kd.S_reads' HO641.out).2.1); rintro e w35 ⟨v644, rfl, ho0, hb⟩; refine ⟨_, rfl, ?_⟩; have n0_ := Aside0.mk (Kd.S_below (by (with_reducible repeat (first | apply Kd.S_alloc | apply Kd.S_drewN | apply Kd.S_drew)); exact HO634.out) hb); have n1_ := Aside0.mk (Kd.R_elder' (by (with_reducible repeat (first | apply Kd.R_alloc | apply Kd.R_drewN | apply Kd.R_drew)); exact HO638.out) (Kd.R_base ho0) hb); have n2_ := Aside0.mk (Kd.S_below (by (with_reducible repeat (first | apply Kd.S_alloc | apply Kd.S_drewN | apply Kd.S_drew)); exact HO641.out) hb); have n3_ := Aside0.mk (Kd.R_lower (Kd.R_new' ho0 (Kd.R_lt (by (with_reducible repeat (first | apply Kd.R_alloc | apply Kd.R_drewN | apply Kd.R_drew)); exact HO638.out))) (below_size (by repeat (first | (with_reducible first | exact HB.out | apply below_alloc | apply pw_below_drewN | apply below_drew1) | exact HB.out)))); have n4_ := Aside0.mk (below_step (by repeat (first | (with_reducible first | exact HB.out | apply below_alloc | apply pw_below_drewN | apply below_drew1) | exact HB.out)) hb); clear HO634; clear HO638; clear HO641; clear HB; have HO634 := n0_; have HO638 := n1_; have HO641 := n2_; have HO645 := n3_; have HB := n4_; clear n0_ n1_ n2_ n3_ n4_; (try clear hb); (try clear hb2); (try clear hk); (try clear hi); (try clear ho0); obtain ⟨Ao36, co36, eo36⟩ := Kd.R_slice HO645.out; subst eo36; obtain ⟨Ao37, co37, eo37⟩ := Kd.R_slice HO638.out; subst eo37) | ((with_reducible refine gate_callee (f := 33) rfl ?_); refine goesL_ (some 34) rfl rfl Try.func33 (by kernel_rfl) rfl #[.slice Ao36 t642.length co36, .slice Ao37 t635.length co37] rfl (by (try simp only [List.map_toArray, List.map_cons, List.map_nil]); first | done | rfl | (simp only [List.length_drop, List.length_take]; rfl)) ?_; (with_reducible refine (laws_eqTileS.calls k _ _ t642 _ _ t635 true _ ?side1 ?side2 ?side3 ?side4 A8.out).mono ?_); (case side1 => repeat (first | exact (Kd.R_reads' HO645.out).2.2 | (with_reducible refine Kd.C_alloc ?_ _) | (with_reducible refine Kd.C_drewN ?_ _) | (with_reducible refine Kd.C_drew ?_))); (case side2 => exact (Kd.R_reads' HO645.out).2.1); (case side3 => repeat (first | exact (Kd.R_reads' HO638.out).2.2 | (with_reducible refine Kd.C_alloc ?_ _) | (with_reducible refine Kd.C_drewN ?_ _) | (with_reducible refine Kd.C_drew ?_))); (case side4 => exact (Kd.R_reads' HO638.out).2.1); rintro e w38 ⟨rfl, hb⟩; refine ⟨_, rfl, ?_⟩; have n0_ := Aside0.mk (Kd.S_below (by (with_reducible repeat (first | apply Kd.S_alloc | apply Kd.S_drewN | apply Kd.S_drew)); exact HO634.out) hb); have n1_ := Aside0.mk (Kd.R_below (by (with_reducible repeat (first | apply Kd.R_alloc | apply Kd.R_drewN | apply Kd.R_drew)); exact HO638.out) hb); have n2_ := Aside0.mk (Kd.S_below (by (with_reducible repeat (first | apply Kd.S_alloc | apply Kd.S_drewN | apply Kd.S_drew)); exact HO641.out) hb); have n3_ := Aside0.mk (Kd.R_below (by (with_reducible repeat (first | apply Kd.R_alloc | apply Kd.R_drewN | apply Kd.R_drew)); exact HO645.out) hb); have n4_ := Aside0.mk (below_step (by repeat (first | (with_reducible first | exact HB.out | apply below_alloc | apply pw_below_drewN | apply below_drew1) | exact HB.out)) hb); clear HO634; clear HO638; clear HO641; clear HO645; clear HB; have HO634 := n0_; have HO638 := n1_; have HO641 := n2_; have HO645 := n3_; have HB := n4_; clear n0_ n1_ n2_ n3_ n4_; (try clear hb); (try clear hb2); (try clear hk); (try clear hi)) | ((with_reducible refine gate_callee (f := 40) rfl ?_); refine goesL_ (some 43) rfl rfl Try.func40 (by kernel_rfl) rfl #[.slice A0 l0.length c0] rfl (by (try simp only [List.map_toArray, List.map_cons, List.map_nil]); first | done | rfl | (simp only [List.length_drop, List.length_take]; rfl)) ?_; (with_reducible refine (laws_toIntSS.calls k _ _ l0 t647 _ ?side1 ?side2 A11.out).mono ?_); (case side1 => repeat (first | exact (Kd.C_below HR0.out HB.out) | (with_reducible refine Kd.C_alloc ?_ _) | (with_reducible refine Kd.C_drewN ?_ _) | (with_reducible refine Kd.C_drew ?_))); (case side2 => exact HC0.out); rintro e w39 ⟨v648, rfl, ho0, hb⟩; refine ⟨_, rfl, ?_⟩; have n0_ := Aside0.mk (Kd.S_elder' (by (with_reducible repeat (first | apply Kd.S_alloc | apply Kd.S_drewN | apply Kd.S_drew)); exact HO634.out) (Kd.S_base ho0) hb); have n1_ := Aside0.mk (Kd.R_below (by (with_reducible repeat (first | apply Kd.R_alloc | apply Kd.R_drewN | apply Kd.R_drew)); exact HO638.out) hb); have n2_ := Aside0.mk (Kd.S_elder' (by (with_reducible repeat (first | apply Kd.S_alloc | apply Kd.S_drewN | apply Kd.S_drew)); exact HO641.out) (Kd.S_base ho0) hb); have n3_ := Aside0.mk (Kd.R_below (by (with_reducible repeat (first | apply Kd.R_alloc | apply Kd.R_drewN | apply Kd.R_drew)); exact HO645.out) hb); have n4_ := Aside0.mk (Kd.S_lower (Kd.S_new' (Kd.S_new' ho0 (Kd.S_lt (by (with_reducible repeat (first | apply Kd.S_alloc | apply Kd.S_drewN | apply Kd.S_drew)); exact HO634.out))) (Kd.S_lt (by (with_reducible repeat (first | apply Kd.S_alloc | apply Kd.S_drewN | apply Kd.S_drew)); exact HO641.out))) (below_size (by repeat (first | (with_reducible first | exact HB.out | apply below_alloc | apply pw_below_drewN | apply below_drew1) | exact HB.out)))); have n5_ := Aside0.mk (below_step (by repeat (first | (with_reducible first | exact HB.out | apply below_alloc | apply pw_below_drewN | apply below_drew1) | exact HB.out)) hb); clear HO634; clear HO638; clear HO641; clear HO645; clear HB; have HO634 := n0_; have HO638 := n1_; have HO641 := n2_; have HO645 := n3_; have HO649 := n4_; have HB := n5_; clear n0_ n1_ n2_ n3_ n4_ n5_; (try clear hb); (try clear hb2); (try clear hk); (try clear hi); (try clear ho0); obtain ⟨Ao40, co40, eo40⟩ := Kd.S_slice HO649.out; subst eo40) | ((with_reducible refine gate_callee (f := 42) rfl ?_); refine goesL_ (some 44) rfl rfl Try.func42 (by kernel_rfl) rfl #[.slice Ao34 t639.length co34, .slice Ao40 t647.length co40] rfl (by (try simp only [List.map_toArray, List.map_cons, List.map_nil]); first | done | rfl | (simp only [List.length_drop, List.length_take]; rfl)) ?_; (with_reducible refine (laws_eqIntSS.calls k _ _ t639 _ _ t647 true _ ?side1 ?side2 ?side3 ?side4 A12.out).mono ?_); (case side1 => repeat (first | exact (Kd.S_reads' HO641.out).2.2 | (with_reducible refine Kd.C_alloc ?_ _) | (with_reducible refine Kd.C_drewN ?_ _) | (with_reducible refine Kd.C_drew ?_))); (case side2 => exact (Kd.S_reads' HO641.out).2.1); (case side3 => repeat (first | exact (Kd.S_reads' HO649.out).2.2 | (with_reducible refine Kd.C_alloc ?_ _) | (with_reducible refine Kd.C_drewN ?_ _) | (with_reducible refine Kd.C_drew ?_))); (case side4 => exact (Kd.S_reads' HO649.out).2.1); rintro e w' ⟨rfl, ⟨nd, rfl⟩⟩; refine ⟨_, rfl, ?_⟩) | ((with_reducible refine gate_callee (f := 45) rfl ?_); refine goesL_ (some 48) rfl rfl Try.func45 (by kernel_rfl) rfl #[.slice Ao34 t639.length co34, .int .i64 1] rfl (by (try simp only [List.map_toArray, List.map_cons, List.map_nil]); first | done | rfl | (simp only [List.length_drop, List.length_take]; rfl)) ?_; (with_reducible refine (laws_markIntSS.calls k (fun k_ => ((((True ∧ some k_ ≠ (.slice Ao31 t632.length co31 : Value).ownBlock) ∧ some k_ ≠ (.slice Ao40 t647.length co40 : Value).ownBlock) ∧ some k_ ≠ (.slice Ao37 t635.length co37 : Value).ownBlock) ∧ some k_ ≠ (.slice Ao36 t642.length co36 : Value).ownBlock)) (.slice Ao34 t639.length co34) t639 1 t651 w _ ?side1 ?side2 A14.out).mono ?_); (case side1 => repeat (first | (with_reducible first | exact HB.out | apply below_alloc | apply pw_below_drewN | apply below_drew1) | exact HB.out)); (case side2 => exact (Kd.S_apart' (Kd.S_apart' HO641.out (Kd.R_typed HO638.out) (by decide)) (Kd.R_typed HO645.out) (by decide))); rintro e w41 ⟨rfl, hb, hkp⟩; refine ⟨_, rfl, ?_⟩; have n0_ := Aside0.mk (Kd.R_mono (ok' := fun k_ => some k_ ≠ (.slice Ao36 t642.length co36 : Value).ownBlock) (Kd.R_keptB (Kd.R_tight rfl (HO638.out)) hkp (fun k_ hk_ hs_ => (hs_.1.2) hk_)) (fun k_ hk_ => (HO638.out.1 k_ hk_.1.symm).2)); have n1_ := Aside0.mk (Kd.R_mono (ok' := fun k_ => some k_ ≠ (.slice Ao37 t635.length co37 : Value).ownBlock) (Kd.R_keptB (Kd.R_tight rfl (HO645.out)) hkp (fun k_ hk_ hs_ => (hs_.2) hk_)) (fun k_ hk_ => (HO645.out.1 k_ hk_.1.symm).2)); have n2_ := Aside0.mk (hb); clear HO638; clear HO645; clear HB; clear HO634; clear HO641; clear HO649; have HO638 := n0_; have HO645 := n1_; have HB := n2_; clear n0_ n1_ n2_; (try clear hb); (try clear hkp)) | (go_at_call 33; (with_reducible refine (laws_eqTileS.calls k _ _ t642 _ _ t635 true _ ?side1 ?side2 ?side3 ?side4 A16.out).mono ?_); (case side1 => repeat (first | exact (Kd.R_reads' HO645.out).2.2 | (with_reducible refine Kd.C_alloc ?_ _) | (with_reducible refine Kd.C_drewN ?_ _) | (with_reducible refine Kd.C_drew ?_))); (case side2 => exact (Kd.R_reads' HO645.out).2.1); (case side3 => repeat (first | exact (Kd.R_reads' HO638.out).2.2 | (with_reducible refine Kd.C_alloc ?_ _) | (with_reducible refine Kd.C_drewN ?_ _) | (with_reducible refine Kd.C_drew ?_))); (case side4 => exact (Kd.R_reads' HO638.out).2.1); rintro e w42 ⟨rfl, hb⟩; have n0_ := Aside0.mk (Kd.R_below (by (with_reducible repeat (first | apply Kd.R_alloc | apply Kd.R_drewN | apply Kd.R_drew)); exact HO638.out) hb); have n1_ := Aside0.mk (Kd.R_below (by (with_reducible repeat (first | apply Kd.R_alloc | apply Kd.R_drewN | apply Kd.R_drew)); exact HO645.out) hb); have n2_ := Aside0.mk (below_step (by repeat (first | (with_reducible first | exact HB.out | apply below_alloc | apply pw_below_drewN | apply below_drew1) | exact HB.out)) hb); clear HO638; clear HO645; clear HB; have HO638 := n0_; have HO645 := n1_; have HB := n2_; clear n0_ n1_ n2_; (try clear hb); (try clear hb2); (try clear hk); (try clear hi)) | ((with_reducible refine gate_callee (f := 34) rfl ?_); refine goesL_ (some 64) rfl rfl Try.func34 (by kernel_rfl) rfl #[.slice Ao36 t642.length co36, .int .i64 1] rfl (by (try simp only [List.map_toArray, List.map_cons, List.map_nil]); first | done | rfl | (simp only [List.length_drop, List.length_take]; rfl)) ?_; (with_reducible refine (laws_markTileS.calls k (fun k_ => some k_ = (.slice Ao36 t642.length co36 : Value).ownBlock) (.slice Ao36 t642.length co36) t642 1 t653 t654 w _ ?side1 ?side2 A18.out).mono ?_); (case side1 => repeat (first | (with_reducible first | exact HB.out | apply below_alloc | apply pw_below_drewN | apply below_drew1) | exact HB.out)); (case side2 => exact Kd.R_tight rfl HO645.out); rintro e w43 ⟨rfl, hy0, hb, hkp⟩; refine ⟨_, rfl, ?_⟩; have n0_ := Aside0.mk (Kd.R_mono (ok' := fun k_ => some k_ ≠ (.slice Ao36 t642.length co36 : Value).ownBlock) (Kd.R_keptB (HO638.out) hkp (fun k_ hk_ hs_ => (hk_) hs_)) (fun k_ hk_ => hk_.1)); have n1_ := Aside0.mk (Kd.R_reok rfl hy0 (fun k_ e_ => HO645.out.1 k_ e_)); have n2_ := Aside0.mk (hb); clear HO638; clear HO645; clear HB; have HO638 := n0_; have HO645 := n1_; have HB := n2_; clear n0_ n1_ n2_; (try clear hb); (try clear hkp); (try clear hy0)) | ((with_reducible refine gate_callee (f := 35) rfl ?_); refine goesL_ (some 67) rfl rfl Try.func35 (by kernel_rfl) rfl #[.slice Ao36 t654.length co36, .int .i64 1] rfl (by (try simp only [List.map_toArray, List.map_cons, List.map_nil]); first | done | (rw [show t654.length = t642.length from (Kd.R_reads' HO645.out).1.symm] <;> rfl) | rfl | (simp only [List.length_drop, List.length_take]; rfl)) ?_; (with_reducible refine (laws_heldTileS.calls k _ _ t654 1 t655 _ ?side1 ?side2 A19.out).mono ?_); (case side1 => repeat (first | exact (Kd.R_reads' HO645.out).2.2 | (with_reducible refine Kd.C_alloc ?_ _) | (with_reducible refine Kd.C_drewN ?_ _) | (with_reducible refine Kd.C_drew ?_))); (case side2 => rw [show t654.length = t642.length from (Kd.R_reads' HO645.out).1.symm]; exact (Kd.R_reads' HO645.out).2.1); rintro e w' ⟨rfl, ⟨nd, rfl⟩⟩; refine ⟨_, rfl, ?_⟩) | ((with_reducible refine gate_callee (f := 40) rfl ?_); refine goesL_ (some 75) rfl rfl Try.func40 (by kernel_rfl) rfl #[.slice A0 l0.length c0] rfl (by (try simp only [List.map_toArray, List.map_cons, List.map_nil]); first | done | rfl | (simp only [List.length_drop, List.length_take]; rfl)) ?_; (with_reducible refine (laws_toIntSS.calls k _ _ l0 t656 _ ?side1 ?side2 A22.out).mono ?_); (case side1 => repeat (first | exact (Kd.C_below HR0.out (by repeat (first | (with_reducible first | exact HB.out | apply below_alloc | apply pw_below_drewN | apply below_drew1) | exact HB.out))) | (with_reducible refine Kd.C_alloc ?_ _) | (with_reducible refine Kd.C_drewN ?_ _) | (with_reducible refine Kd.C_drew ?_))); (case side2 => exact HC0.out); rintro e w44 ⟨v657, rfl, ho0, hb⟩; refine ⟨_, rfl, ?_⟩; have n0_ := Aside0.mk (Kd.R_below (by (with_reducible repeat (first | apply Kd.R_alloc | apply Kd.R_drewN | apply Kd.R_drew)); exact HO638.out) hb); have n1_ := Aside0.mk (Kd.R_below (by (with_reducible repeat (first | apply Kd.R_alloc | apply Kd.R_drewN | apply Kd.R_drew)); exact HO645.out) hb); have n2_ := Aside0.mk (Kd.S_lower ho0 (below_size (by repeat (first | (with_reducible first | exact HB.out | apply below_alloc | apply pw_below_drewN | apply below_drew1) | exact HB.out)))); have n3_ := Aside0.mk (below_step (by repeat (first | (with_reducible first | exact HB.out | apply below_alloc | apply pw_below_drewN | apply below_drew1) | exact HB.out)) hb); clear HO638; clear HO645; clear HB; have HO638 := n0_; have HO645 := n1_; have HO658 := n2_; have HB := n3_; clear n0_ n1_ n2_ n3_; (try clear hb); (try clear hb2); (try clear hk); (try clear hi); (try clear ho0); obtain ⟨Ao45, co45, eo45⟩ := Kd.S_slice HO658.out; subst eo45) | ((with_reducible refine gate_callee (f := 44) rfl ?_); refine goesL_ (some 76) rfl rfl Try.func44 (by kernel_rfl) rfl #[.slice Ao45 t656.length co45] rfl (by (try simp only [List.map_toArray, List.map_cons, List.map_nil]); first | done | rfl | (simp only [List.length_drop, List.length_take]; rfl)) ?_; (with_reducible refine (impl_BlockTiles.calls k _ _ t656 t659 t660 _ ?side1 ?side2 A23.out).mono ?_); (case side1 => repeat (first | exact (Kd.S_reads' HO658.out).2.2 | (with_reducible refine Kd.C_alloc ?_ _) | (with_reducible refine Kd.C_drewN ?_ _) | (with_reducible refine Kd.C_drew ?_))); (case side2 => exact (Kd.S_reads' HO658.out).2.1); rintro e w46 ⟨v661, rfl, ho0, hb⟩; refine ⟨_, rfl, ?_⟩; have n0_ := Aside0.mk (Kd.R_elder' (by (with_reducible repeat (first | apply Kd.R_alloc | apply Kd.R_drewN | apply Kd.R_drew)); exact HO638.out) (Kd.R_base ho0) hb); have n1_ := Aside0.mk (Kd.R_elder' (by (with_reducible repeat (first | apply Kd.R_alloc | apply Kd.R_drewN | apply Kd.R_drew)); exact HO645.out) (Kd.R_base ho0) hb); have n2_ := Aside0.mk (Kd.S_below (by (with_reducible repeat (first | apply Kd.S_alloc | apply Kd.S_drewN | apply Kd.S_drew)); exact HO658.out) hb); have n3_ := Aside0.mk (Kd.R_lower (Kd.R_new' (Kd.R_new' ho0 (Kd.R_lt (by (with_reducible repeat (first | apply Kd.R_alloc | apply Kd.R_drewN | apply Kd.R_drew)); exact HO638.out))) (Kd.R_lt (by (with_reducible repeat (first | apply Kd.R_alloc | apply Kd.R_drewN | apply Kd.R_drew)); exact HO645.out))) (below_size (by repeat (first | (with_reducible first | exact HB.out | apply below_alloc | apply pw_below_drewN | apply below_drew1) | exact HB.out)))); have n4_ := Aside0.mk (below_step (by repeat (first | (with_reducible first | exact HB.out | apply below_alloc | apply pw_below_drewN | apply below_drew1) | exact HB.out)) hb); clear HO638; clear HO645; clear HO658; clear HB; have HO638 := n0_; have HO645 := n1_; have HO658 := n2_; have HO662 := n3_; have HB := n4_; clear n0_ n1_ n2_ n3_ n4_; (try clear hb); (try clear hb2); (try clear hk); (try clear hi); (try clear ho0); obtain ⟨Ao47, co47, eo47⟩ := Kd.R_slice HO662.out; subst eo47) | ((with_reducible refine gate_callee (f := 33) rfl ?_); refine goesL_ (some 81) rfl rfl Try.func33 (by kernel_rfl) rfl #[.slice Ao47 t659.length co47, .slice Ao37 t635.length co37] rfl (by (try simp only [List.map_toArray, List.map_cons, List.map_nil]); first | done | rfl | (simp only [List.length_drop, List.length_take]; rfl)) ?_; (with_reducible refine (laws_eqTileS.calls k _ _ t659 _ _ t635 true _ ?side1 ?side2 ?side3 ?side4 A24.out).mono ?_); (case side1 => repeat (first | exact (Kd.R_reads' HO662.out).2.2 | (with_reducible refine Kd.C_alloc ?_ _) | (with_reducible refine Kd.C_drewN ?_ _) | (with_reducible refine Kd.C_drew ?_))); (case side2 => exact (Kd.R_reads' HO662.out).2.1); (case side3 => repeat (first | exact (Kd.R_reads' HO638.out).2.2 | (with_reducible refine Kd.C_alloc ?_ _) | (with_reducible refine Kd.C_drewN ?_ _) | (with_reducible refine Kd.C_drew ?_))); (case side4 => exact (Kd.R_reads' HO638.out).2.1); rintro e w48 ⟨rfl, hb⟩; refine ⟨_, rfl, ?_⟩; have n0_ := Aside0.mk (Kd.R_below (by (with_reducible repeat (first | apply Kd.R_alloc | apply Kd.R_drewN | apply Kd.R_drew)); exact HO638.out) hb); have n1_ := Aside0.mk (Kd.R_below (by (with_reducible repeat (first | apply Kd.R_alloc | apply Kd.R_drewN | apply Kd.R_drew)); exact HO645.out) hb); have n2_ := Aside0.mk (Kd.S_below (by (with_reducible repeat (first | apply Kd.S_alloc | apply Kd.S_drewN | apply Kd.S_drew)); exact HO658.out) hb); have n3_ := Aside0.mk (Kd.R_below (by (with_reducible repeat (first | apply Kd.R_alloc | apply Kd.R_drewN | apply Kd.R_drew)); exact HO662.out) hb); have n4_ := Aside0.mk (below_step (by repeat (first | (with_reducible first | exact HB.out | apply below_alloc | apply pw_below_drewN | apply below_drew1) | exact HB.out)) hb); clear HO638; clear HO645; clear HO658; clear HO662; clear HB; have HO638 := n0_; have HO645 := n1_; have HO658 := n2_; have HO662 := n3_; have HB := n4_; clear n0_ n1_ n2_ n3_ n4_; (try clear hb); (try clear hb2); (try clear hk); (try clear hi)) | ((with_reducible refine gate_callee (f := 35) rfl ?_); refine goesL_ (some 90) rfl rfl Try.func35 (by kernel_rfl) rfl #[.slice Ao36 t654.length co36, .int .i64 1] rfl (by (try simp only [List.map_toArray, List.map_cons, List.map_nil]); first | done | (rw [show t654.length = t642.length from (Kd.R_reads' HO645.out).1.symm] <;> rfl) | rfl | (simp only [List.length_drop, List.length_take]; rfl)) ?_; (with_reducible refine (laws_heldTileS.calls k _ _ t654 1 t664 _ ?side1 ?side2 A27.out).mono ?_); (case side1 => repeat (first | exact (Kd.R_reads' HO645.out).2.2 | (with_reducible refine Kd.C_alloc ?_ _) | (with_reducible refine Kd.C_drewN ?_ _) | (with_reducible refine Kd.C_drew ?_))); (case side2 => rw [show t654.length = t642.length from (Kd.R_reads' HO645.out).1.symm]; exact (Kd.R_reads' HO645.out).2.1); rintro e w' ⟨rfl, ⟨nd, rfl⟩⟩; refine ⟨_, rfl, ?_⟩))
                          go_ret
                          exact ⟨by first | rfl | (simp [errW_none, errW_some] <;> rfl) | (simp [*, errW_none, errW_some] <;> rfl), by repeat (first | (with_reducible first | exact HB.out | apply below_alloc | apply pw_below_drewN | apply below_drew1) | exact HB.out)⟩
                        · rw [if_neg c29] at H
                          exact absurd H (by simp)
                  · replace c25 := Bool.eq_false_iff.mpr c25
                    subst c25
                    have H1 : (none) = some r := by rw [if_neg (show ¬ (false = true) by decide)] at H; exact H
                    clear H
                    have H := H1
                    clear H1
                    exact absurd H (by simp)
                · rw [if_neg c21] at H
                  exact absurd H (by simp)
            · replace c17 := Bool.eq_false_iff.mpr c17
              subst c17
              have H1 : (none) = some r := by rw [if_neg (show ¬ (false = true) by decide)] at H; exact H
              clear H
              have H := H1
              clear H1
              exact absurd H (by simp)
        · replace c13 := Bool.eq_false_iff.mpr c13
          subst c13
          have H1 : (none) = some r := by rw [if_neg (show ¬ (false = true) by decide)] at H; exact H
          clear H
          have H := H1
          clear H1
          exact absurd H (by simp)
    · replace c9 := Bool.eq_false_iff.mpr c9
      subst c9
      have H1 : (none) = some r := by rw [if_neg (show ¬ (false = true) by decide)] at H; exact H
      clear H
      have H := H1
      clear H1
      exact absurd H (by simp)

end
end Go.Proofs.Ytnoagkhmmckiaaa.Hd
