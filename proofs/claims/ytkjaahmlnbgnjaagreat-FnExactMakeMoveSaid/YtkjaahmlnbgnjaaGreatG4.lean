-- Printed by hprint.py and laid together by pack.py (this session's programs over the kit's print program). Lean checks it.
import Derived.Test.YtkjaahmlnbgnjaaGreatG0
import Derived.Test.YtkjaahmlnbgnjaaGreatG3
import Derived.Test.YtkjaahmlnbgnjaaGreatMSx5
import Derived.Test.YtkjaahmlnbgnjaaGreatMSxL
import Derived.Test.YtkjaahmlnbgnjaaGreatG1
namespace Go.Proofs.YtkjaahmlnbgnjaaGreat.Hd
section
open Go.RowKit Go.Proofs.YtkjaahmlnbgnjaaGreatW.PrintWords Go.Proofs.YtkjaahmlnbgnjaaGreatW.PrintLast Go.Proofs.YtkjaahmlnbgnjaaGreatW.PrintMore
attribute [local go_sem] max2_int min2_int max_two min_two max_three min_three max_four min_four   -- for this text's walks alone
set_option linter.unusedVariables false
set_option linter.unusedSimpArgs false

def laws_eqTileS.l0 : Nat → List (S_Tile) → List (S_Tile) → Int → Option (Bool)
  | 0, _, _, _ => none
  | k + 1, x0, x1, x5 => if x5 < (x0.length : Int) then (if 0 ≤ x5 then (if x5 < (x1.length : Int) then ((laws_eqTile.f ((rd_Tile x0 x5).f0) ((rd_Tile x0 x5).f1) ((rd_Tile x1 x5).f0) ((rd_Tile x1 x5).f1)).bind fun t414 => (if t414 = true then (laws_eqTileS.l0 k x0 x1 (wrap64 (x5 + 1))) else (some false))) else (none)) else (none)) else (some true)
def laws_eqTileS.f (k : Nat) (l0 : List (S_Tile)) (l1 : List (S_Tile)) : Option (Bool) := if (l0.length : Int) = (l1.length : Int) then (laws_eqTileS.l0 k l0 l1 0) else (some false)
def laws_eqTileS.T6 : Bool × List (List Nat × List Nat) := (true, [([], []), ([], []), ([0, 1], [0, 1]), ([2], [2]), ([], []), ([], []), ([4, 5], [4, 5]), ([6], [6]), ([3, 7], [3, 7]), ([8], [8])])
def laws_eqTileS.B6 : List Nat := [0, 0, 3, 7, 0, 0, 48, 112, 255, 511]
theorem laws_eqTileS.tab6 : rtab .any (opsOf Tryz.f32 6) = laws_eqTileS.T6 := by kernel_rfl
theorem laws_eqTileS.bits6 : waitsOk laws_eqTileS.T6.2 laws_eqTileS.B6 = true := by kernel_rfl
set_option maxHeartbeats 8000000 in
set_option maxRecDepth 100000 in
theorem laws_eqTileS.calls (k : Nat) (A0 : Option Addr) (c0 : Nat) (l0 : List (S_Tile)) (A1 : Option Addr) (c1 : Nat) (l1 : List (S_Tile)) (r : Bool) (w : World) (hr0 : Kd.C k59 w A0 l0.length l0) (hc0 : l0.length ≤ c0) (hr1 : Kd.C k59 w A1 l1.length l1) (hc1 : l1.length ≤ c1) (h : laws_eqTileS.f k l0 l1 = some r) :
    Calls Tryz.prog 32 #[.slice A0 l0.length c0, .slice A1 l1.length c1] w fun e w' => e = .returned (.bool r) ∧ Below w.heap.size w w' := by
  have hu59 := Tryz.underlying59
  have HR0 := Aside0.mk hr0
  have HC0 := Aside0.mk hc0
  clear hr0 hc0
  have HR1 := Aside0.mk hr1
  have HC1 := Aside0.mk hc1
  clear hr1 hc1
  have HB := Aside0.mk (Below.refl w.heap.size w)
  have H : (if (l0.length : Int) = (l1.length : Int) then (laws_eqTileS.l0 k l0 l1 0) else (some false)) = some r := h
  clear h
  by_cases c3 : (l0.length : Int) = (l1.length : Int)
  · rw [if_pos c3] at H
    have c3b0 : ((l0.length : Int) == (l1.length : Int)) = true := beq_iff_eq.mpr c3
    have c3b1 : ((l0.length : Int) != (l1.length : Int)) = false := bne_eq_false_iff_eq.mpr c3
    have c3b2 : (l0.length == l1.length) = true := by first | simpa using c3 | (simp at c3 ⊢; omega)
    clear c3
    have H' := Aside0.mk H
    clear H
    go_enter Tryz.func32, Tryz.ntmps32
    go_wp2
    go_loopg [5] k (fun kq v5 w' => ∃ (x5_1 : Int), v5 = .int .i64 x5_1 ∧ Aside0 (laws_eqTileS.l0 kq l0 l1 x5_1 = some r) ∧ Aside0 (kq ≤ k) ∧ Aside0 (Below w.heap.size w w'))
    case atStart => exact ⟨(0), (by first | rfl | (simp; done) | (simp [*]; done)), H', ⟨Nat.le_refl _⟩, ⟨by repeat (first | (with_reducible first | exact HB.out | apply below_alloc | apply pw_below_drewN | apply below_drew1) | exact HB.out)⟩⟩
    case round =>
      clear H'
      try clear c1
      try clear p2
      try clear c3
      try clear c3b0
      try clear c3b1
      try clear c3b2
      obtain ⟨x5_1, rfl, HA, HK1, HB⟩ := hrel
      cases gk with
      | zero => exact absurd HA.out (by simp [laws_eqTileS.l0])
      | succ k1 =>
        have H := HA.out
        clear HA
        simp only [laws_eqTileS.l0] at H
        by_cases c4 : x5_1 < (l0.length : Int)
        · rw [if_pos c4] at H
          have c4b0 : decide (x5_1 < (l0.length : Int)) = true := decide_eq_true c4
          clear c4
          by_cases c5 : 0 ≤ x5_1
          · rw [if_pos c5] at H
            have c5b0 : decide (0 ≤ x5_1) = true := decide_eq_true c5
            clear c5
            by_cases c6 : x5_1 < (l1.length : Int)
            · rw [if_pos c6] at H
              have c6b0 : decide (x5_1 < (l1.length : Int)) = true := decide_eq_true c6
              clear c6
              replace H := Option.bind_eq_some_iff.mp H
              obtain ⟨t414, A70, H⟩ := H
              replace H : (if t414 = true then (laws_eqTileS.l0 k1 l0 l1 (wrap64 (x5_1 + 1))) else (some false)) = some r := H
              have A7 := Aside0.mk A70
              clear A70
              by_cases c8 : t414 = true
              · subst c8
                have H1 : (laws_eqTileS.l0 k1 l0 l1 (wrap64 (x5_1 + 1))) = some r := by rw [if_pos rfl] at H; exact H
                clear H
                have H := H1
                clear H1
                have H' := Aside0.mk H
                clear H
                try go_wp2
                have n0_ := Aside0.mk (below_drew1 HB.out)
                clear HB
                have HB := n0_
                clear n0_
                have p412 : 0 ≤ (x5_1 : Int) := of_decide_eq_true (by first | (with_reducible assumption) | assumption)
                have q412 : x5_1 < (l0.length : Int) := of_decide_eq_true (by first | (with_reducible assumption) | assumption)
                obtain ⟨ad412, e412, hx412_0, hx412_1⟩ := at_T59 HR0.out x5_1 p412 q412
                have hw412_1 := hx412_1
                have hw412_0 := hx412_0
                cases e412
                replace hx412_0 := (HB.out.cell (World.block_lt_of_cell? w _ hx412_0)).trans hx412_0
                replace hx412_1 := (HB.out.cell (World.block_lt_of_cell? w _ hx412_1)).trans hx412_1
                replace p412 := eq_true p412
                replace q412 := eq_true q412
                have p413 : 0 ≤ (x5_1 : Int) := of_decide_eq_true (by first | (with_reducible assumption) | assumption)
                have q413 : x5_1 < (l1.length : Int) := of_decide_eq_true (by first | (with_reducible assumption) | assumption)
                obtain ⟨ad413, e413, hx413_0, hx413_1⟩ := at_T59 HR1.out x5_1 p413 q413
                have hw413_1 := hx413_1
                have hw413_0 := hx413_0
                cases e413
                replace hx413_0 := (HB.out.cell (World.block_lt_of_cell? w _ hx413_0)).trans hx413_0
                replace hx413_1 := (HB.out.cell (World.block_lt_of_cell? w _ hx413_1)).trans hx413_1
                replace p413 := eq_true p413
                replace q413 := eq_true q413
                refine start_ (n := 10) (S := fun w' => w'.cell? (ad412.add ((x5_1).toNat * 2)) = some (.int .i64 ((rd_Tile l0 x5_1).f0)) ∧ w'.cell? ⟨(ad412.add ((x5_1).toNat * 2)).block, (ad412.add ((x5_1).toNat * 2)).off + 1, none⟩ = some (.int .i64 ((rd_Tile l0 x5_1).f1)) ∧ w'.cell? (ad413.add ((x5_1).toNat * 2)) = some (.int .i64 ((rd_Tile l1 x5_1).f0)) ∧ w'.cell? ⟨(ad413.add ((x5_1).toNat * 2)).block, (ad413.add ((x5_1).toNat * 2)).off + 1, none⟩ = some (.int .i64 ((rd_Tile l1 x5_1).f1))) (ds := []) #[false, false, false, false, false, false, false, false, false, false] (by kernel_rfl) rfl rfl ⟨((HB.out.cell (World.block_lt_of_cell? w _ hw412_0)).trans hw412_0), ((HB.out.cell (World.block_lt_of_cell? w _ hw412_1)).trans hw412_1), ((HB.out.cell (World.block_lt_of_cell? w _ hw413_0)).trans hw413_0), ((HB.out.cell (World.block_lt_of_cell? w _ hw413_1)).trans hw413_1)⟩ (fun hHeld => ?_); refine with_tabW laws_eqTileS.tab6 laws_eqTileS.bits6 (fun HT_ HW_ => ?_)
                generalize wr.drew = w9 at HB hx412_0 hx412_1 hx413_0 hx413_1 hHeld ⊢
                refine pure_ (i := 0) (N := some 17) (v := ?_) (a' := ?_) #[true, false, false, false, false, false, false, false, false, false] rfl rfl (any_of HT_.out (by kernel_rfl)) (fun _ _ _ h => h) (Or.inl ⟨by rfl, ?_⟩) ?_ ?_
                rotate_left
                · intro w'
                  go_simp
                  with_reducible rfl
                rotate_left
                · simp only [Act.put, List.setIfInBounds_toArray, List.set_cons_zero, List.set_cons_succ, i64_w, i32_w]
                  rfl
                refine pure_ (i := 1) (N := some 18) (v := ?_) (a' := ?_) #[true, true, false, false, false, false, false, false, false, false] rfl rfl (any_of HT_.out (by kernel_rfl)) (fun _ _ _ h => h) (Or.inl ⟨by rfl, ?_⟩) ?_ ?_
                rotate_left
                · intro w'
                  go_simp
                  with_reducible rfl
                rotate_left
                · simp only [Act.put, List.setIfInBounds_toArray, List.set_cons_zero, List.set_cons_succ, i64_w, i32_w]
                  rfl
                refine pure_ (i := 2) (N := some 19) (v := ?_) (a' := ?_) #[true, true, true, false, false, false, false, false, false, false] rfl rfl (any_of HT_.out (by kernel_rfl)) (fun _ _ _ h => h) (Or.inl ⟨by rfl, ?_⟩) ?_ ?_
                rotate_left
                · intro w'
                  go_simp
                  with_reducible rfl
                rotate_left
                · simp only [Act.put, List.setIfInBounds_toArray, List.set_cons_zero, List.set_cons_succ, i64_w, i32_w]
                  rfl
                refine pure_ (i := 4) (N := some 21) (v := ?_) (a' := ?_) #[true, true, true, false, true, false, false, false, false, false] rfl rfl (any_of HT_.out (by kernel_rfl)) (fun _ _ _ h => h) (Or.inl ⟨by rfl, ?_⟩) ?_ ?_
                rotate_left
                · intro w'
                  go_simp
                  with_reducible rfl
                rotate_left
                · simp only [Act.put, List.setIfInBounds_toArray, List.set_cons_zero, List.set_cons_succ, i64_w, i32_w]
                  rfl
                refine pure_ (i := 5) (N := some 22) (v := ?_) (a' := ?_) #[true, true, true, false, true, true, false, false, false, false] rfl rfl (any_of HT_.out (by kernel_rfl)) (fun _ _ _ h => h) (Or.inl ⟨by rfl, ?_⟩) ?_ ?_
                rotate_left
                · intro w'
                  go_simp
                  with_reducible rfl
                rotate_left
                · simp only [Act.put, List.setIfInBounds_toArray, List.set_cons_zero, List.set_cons_succ, i64_w, i32_w]
                  rfl
                refine pure_ (i := 6) (N := some 23) (v := ?_) (a' := ?_) #[true, true, true, false, true, true, true, false, false, false] rfl rfl (any_of HT_.out (by kernel_rfl)) (fun _ _ _ h => h) (Or.inl ⟨by rfl, ?_⟩) ?_ ?_
                rotate_left
                · intro w'
                  go_simp
                  with_reducible rfl
                rotate_left
                · simp only [Act.put, List.setIfInBounds_toArray, List.set_cons_zero, List.set_cons_succ, i64_w, i32_w]
                  rfl
                refine take_ (i := 3) (N := some 20) (v := ?_) (a' := ?_) #[true, true, true, true, true, true, true, false, false, false] rfl rfl (take_ofW HT_.out HW_.out (by kernel_rfl)) (fun _ _ _ h => h) (Or.inl ⟨by rfl, ?_⟩) hHeld ?_ ?_
                rotate_left
                · rintro w' ⟨s0, s1, s2, s3⟩
                  go_simp
                  with_reducible rfl
                rotate_left
                · simp only [Act.put, List.setIfInBounds_toArray, List.set_cons_zero, List.set_cons_succ, i64_w, i32_w]
                  rfl
                refine take_ (i := 7) (N := some 24) (v := ?_) (a' := ?_) #[true, true, true, true, true, true, true, true, false, false] rfl rfl (take_ofW HT_.out HW_.out (by kernel_rfl)) (fun _ _ _ h => h) (Or.inl ⟨by rfl, ?_⟩) hHeld ?_ ?_
                rotate_left
                · rintro w' ⟨s0, s1, s2, s3⟩
                  go_simp
                  with_reducible rfl
                rotate_left
                · simp only [Act.put, List.setIfInBounds_toArray, List.set_cons_zero, List.set_cons_succ, i64_w, i32_w]
                  rfl
                refine one_ (i := 8) (N := some 25) #[true, true, true, true, true, true, true, true, true, false] rfl rfl (one_of HT_.out (by kernel_rfl)) (by decide) (fun K hK => ?_)
                refine goes_ Tryz.func70 (by kernel_rfl) rfl #[.agg #[.int .i64 ((rd_Tile l0 x5_1).f0), .int .i64 ((rd_Tile l0 x5_1).f1)], .agg #[.int .i64 ((rd_Tile l1 x5_1).f0), .int .i64 ((rd_Tile l1 x5_1).f1)]] (by rfl) rfl rfl (by (try simp only [List.map_toArray, List.map_cons, List.map_nil]); first | done | rfl | (simp only [List.length_drop, List.length_take]; rfl)) ?_
                with_reducible refine (laws_eqTile.calls ((rd_Tile l0 x5_1).f0) ((rd_Tile l0 x5_1).f1) ((rd_Tile l1 x5_1).f0) ((rd_Tile l1 x5_1).f1) true _ A7.out).mono ?_
                rintro e w10 ⟨rfl, hb⟩
                refine ⟨_, rfl, ?_⟩
                have n0_ := Aside0.mk (below_step (by repeat (first | (with_reducible first | exact HB.out | apply below_alloc | apply pw_below_drewN | apply below_drew1) | exact HB.out)) hb)
                clear HB
                have HB := n0_
                clear n0_
                (try clear hb)
                (try clear hb2)
                (try clear hk)
                (try clear hi)
                refine hK.out _ _ ⟨((HB.out.cell (World.block_lt_of_cell? w _ hw412_0)).trans hw412_0), ((HB.out.cell (World.block_lt_of_cell? w _ hw412_1)).trans hw412_1), ((HB.out.cell (World.block_lt_of_cell? w _ hw413_0)).trans hw413_0), ((HB.out.cell (World.block_lt_of_cell? w _ hw413_1)).trans hw413_1)⟩ (fun hHeld => ?_)
                clear hK K
                refine norm_ (a' := ?_) ?_ ?_
                rotate_left
                · show Act.put _ (some 25) _ = _
                  simp only [Act.put, List.setIfInBounds_toArray, List.set_cons_zero, List.set_cons_succ, i64_w, i32_w]
                  rfl
                refine pure_ (i := 9) (N := some 26) (v := ?_) (a' := ?_) #[true, true, true, true, true, true, true, true, true, true] rfl rfl (any_of HT_.out (by kernel_rfl)) (fun _ _ _ h => h) (Or.inl ⟨by rfl, ?_⟩) ?_ ?_
                rotate_left
                · intro w'
                  go_simp
                  with_reducible rfl
                rotate_left
                · simp only [Act.put, List.setIfInBounds_toArray, List.set_cons_zero, List.set_cons_succ, i64_w, i32_w]
                  rfl
                refine done_ (done_of HT_.out (by kernel_rfl)) ?_
                try go_wp2
                go_roundg k1
                case measure => have := HK1.out; omega
                case rel => exact ⟨(wrap64 (x5_1 + 1)), (by first | rfl | (simp; done) | (simp [*]; done)), H', ⟨by have := HK1.out; omega⟩, ⟨by repeat (first | (with_reducible first | exact HB.out | apply below_alloc | apply pw_below_drewN | apply below_drew1) | exact HB.out)⟩⟩
              · replace c8 := Bool.eq_false_iff.mpr c8
                subst c8
                have H1 : (some false) = some r := by rw [if_neg (show ¬ (false = true) by decide)] at H; exact H
                clear H
                have H := H1
                clear H1
                obtain rfl := Option.some.inj H
                try go_wp2
                have n0_ := Aside0.mk (below_drew1 HB.out)
                clear HB
                have HB := n0_
                clear n0_
                have p412 : 0 ≤ (x5_1 : Int) := of_decide_eq_true (by first | (with_reducible assumption) | assumption)
                have q412 : x5_1 < (l0.length : Int) := of_decide_eq_true (by first | (with_reducible assumption) | assumption)
                obtain ⟨ad412, e412, hx412_0, hx412_1⟩ := at_T59 HR0.out x5_1 p412 q412
                have hw412_1 := hx412_1
                have hw412_0 := hx412_0
                cases e412
                replace hx412_0 := (HB.out.cell (World.block_lt_of_cell? w _ hx412_0)).trans hx412_0
                replace hx412_1 := (HB.out.cell (World.block_lt_of_cell? w _ hx412_1)).trans hx412_1
                replace p412 := eq_true p412
                replace q412 := eq_true q412
                have p413 : 0 ≤ (x5_1 : Int) := of_decide_eq_true (by first | (with_reducible assumption) | assumption)
                have q413 : x5_1 < (l1.length : Int) := of_decide_eq_true (by first | (with_reducible assumption) | assumption)
                obtain ⟨ad413, e413, hx413_0, hx413_1⟩ := at_T59 HR1.out x5_1 p413 q413
                have hw413_1 := hx413_1
                have hw413_0 := hx413_0
                cases e413
                replace hx413_0 := (HB.out.cell (World.block_lt_of_cell? w _ hx413_0)).trans hx413_0
                replace hx413_1 := (HB.out.cell (World.block_lt_of_cell? w _ hx413_1)).trans hx413_1
                replace p413 := eq_true p413
                replace q413 := eq_true q413
                refine start_ (n := 10) (S := fun w' => w'.cell? (ad412.add ((x5_1).toNat * 2)) = some (.int .i64 ((rd_Tile l0 x5_1).f0)) ∧ w'.cell? ⟨(ad412.add ((x5_1).toNat * 2)).block, (ad412.add ((x5_1).toNat * 2)).off + 1, none⟩ = some (.int .i64 ((rd_Tile l0 x5_1).f1)) ∧ w'.cell? (ad413.add ((x5_1).toNat * 2)) = some (.int .i64 ((rd_Tile l1 x5_1).f0)) ∧ w'.cell? ⟨(ad413.add ((x5_1).toNat * 2)).block, (ad413.add ((x5_1).toNat * 2)).off + 1, none⟩ = some (.int .i64 ((rd_Tile l1 x5_1).f1))) (ds := []) #[false, false, false, false, false, false, false, false, false, false] (by kernel_rfl) rfl rfl ⟨((HB.out.cell (World.block_lt_of_cell? w _ hw412_0)).trans hw412_0), ((HB.out.cell (World.block_lt_of_cell? w _ hw412_1)).trans hw412_1), ((HB.out.cell (World.block_lt_of_cell? w _ hw413_0)).trans hw413_0), ((HB.out.cell (World.block_lt_of_cell? w _ hw413_1)).trans hw413_1)⟩ (fun hHeld => ?_); refine with_tabW laws_eqTileS.tab6 laws_eqTileS.bits6 (fun HT_ HW_ => ?_)
                generalize wr.drew = w11 at HB hx412_0 hx412_1 hx413_0 hx413_1 hHeld ⊢
                refine pure_ (i := 0) (N := some 17) (v := ?_) (a' := ?_) #[true, false, false, false, false, false, false, false, false, false] rfl rfl (any_of HT_.out (by kernel_rfl)) (fun _ _ _ h => h) (Or.inl ⟨by rfl, ?_⟩) ?_ ?_
                rotate_left
                · intro w'
                  go_simp
                  with_reducible rfl
                rotate_left
                · simp only [Act.put, List.setIfInBounds_toArray, List.set_cons_zero, List.set_cons_succ, i64_w, i32_w]
                  rfl
                refine pure_ (i := 1) (N := some 18) (v := ?_) (a' := ?_) #[true, true, false, false, false, false, false, false, false, false] rfl rfl (any_of HT_.out (by kernel_rfl)) (fun _ _ _ h => h) (Or.inl ⟨by rfl, ?_⟩) ?_ ?_
                rotate_left
                · intro w'
                  go_simp
                  with_reducible rfl
                rotate_left
                · simp only [Act.put, List.setIfInBounds_toArray, List.set_cons_zero, List.set_cons_succ, i64_w, i32_w]
                  rfl
                refine pure_ (i := 2) (N := some 19) (v := ?_) (a' := ?_) #[true, true, true, false, false, false, false, false, false, false] rfl rfl (any_of HT_.out (by kernel_rfl)) (fun _ _ _ h => h) (Or.inl ⟨by rfl, ?_⟩) ?_ ?_
                rotate_left
                · intro w'
                  go_simp
                  with_reducible rfl
                rotate_left
                · simp only [Act.put, List.setIfInBounds_toArray, List.set_cons_zero, List.set_cons_succ, i64_w, i32_w]
                  rfl
                refine pure_ (i := 4) (N := some 21) (v := ?_) (a' := ?_) #[true, true, true, false, true, false, false, false, false, false] rfl rfl (any_of HT_.out (by kernel_rfl)) (fun _ _ _ h => h) (Or.inl ⟨by rfl, ?_⟩) ?_ ?_
                rotate_left
                · intro w'
                  go_simp
                  with_reducible rfl
                rotate_left
                · simp only [Act.put, List.setIfInBounds_toArray, List.set_cons_zero, List.set_cons_succ, i64_w, i32_w]
                  rfl
                refine pure_ (i := 5) (N := some 22) (v := ?_) (a' := ?_) #[true, true, true, false, true, true, false, false, false, false] rfl rfl (any_of HT_.out (by kernel_rfl)) (fun _ _ _ h => h) (Or.inl ⟨by rfl, ?_⟩) ?_ ?_
                rotate_left
                · intro w'
                  go_simp
                  with_reducible rfl
                rotate_left
                · simp only [Act.put, List.setIfInBounds_toArray, List.set_cons_zero, List.set_cons_succ, i64_w, i32_w]
                  rfl
                refine pure_ (i := 6) (N := some 23) (v := ?_) (a' := ?_) #[true, true, true, false, true, true, true, false, false, false] rfl rfl (any_of HT_.out (by kernel_rfl)) (fun _ _ _ h => h) (Or.inl ⟨by rfl, ?_⟩) ?_ ?_
                rotate_left
                · intro w'
                  go_simp
                  with_reducible rfl
                rotate_left
                · simp only [Act.put, List.setIfInBounds_toArray, List.set_cons_zero, List.set_cons_succ, i64_w, i32_w]
                  rfl
                refine take_ (i := 3) (N := some 20) (v := ?_) (a' := ?_) #[true, true, true, true, true, true, true, false, false, false] rfl rfl (take_ofW HT_.out HW_.out (by kernel_rfl)) (fun _ _ _ h => h) (Or.inl ⟨by rfl, ?_⟩) hHeld ?_ ?_
                rotate_left
                · rintro w' ⟨s0, s1, s2, s3⟩
                  go_simp
                  with_reducible rfl
                rotate_left
                · simp only [Act.put, List.setIfInBounds_toArray, List.set_cons_zero, List.set_cons_succ, i64_w, i32_w]
                  rfl
                refine take_ (i := 7) (N := some 24) (v := ?_) (a' := ?_) #[true, true, true, true, true, true, true, true, false, false] rfl rfl (take_ofW HT_.out HW_.out (by kernel_rfl)) (fun _ _ _ h => h) (Or.inl ⟨by rfl, ?_⟩) hHeld ?_ ?_
                rotate_left
                · rintro w' ⟨s0, s1, s2, s3⟩
                  go_simp
                  with_reducible rfl
                rotate_left
                · simp only [Act.put, List.setIfInBounds_toArray, List.set_cons_zero, List.set_cons_succ, i64_w, i32_w]
                  rfl
                refine one_ (i := 8) (N := some 25) #[true, true, true, true, true, true, true, true, true, false] rfl rfl (one_of HT_.out (by kernel_rfl)) (by decide) (fun K hK => ?_)
                refine goes_ Tryz.func70 (by kernel_rfl) rfl #[.agg #[.int .i64 ((rd_Tile l0 x5_1).f0), .int .i64 ((rd_Tile l0 x5_1).f1)], .agg #[.int .i64 ((rd_Tile l1 x5_1).f0), .int .i64 ((rd_Tile l1 x5_1).f1)]] (by rfl) rfl rfl (by (try simp only [List.map_toArray, List.map_cons, List.map_nil]); first | done | rfl | (simp only [List.length_drop, List.length_take]; rfl)) ?_
                with_reducible refine (laws_eqTile.calls ((rd_Tile l0 x5_1).f0) ((rd_Tile l0 x5_1).f1) ((rd_Tile l1 x5_1).f0) ((rd_Tile l1 x5_1).f1) false _ A7.out).mono ?_
                rintro e w12 ⟨rfl, hb⟩
                refine ⟨_, rfl, ?_⟩
                have n0_ := Aside0.mk (below_step (by repeat (first | (with_reducible first | exact HB.out | apply below_alloc | apply pw_below_drewN | apply below_drew1) | exact HB.out)) hb)
                clear HB
                have HB := n0_
                clear n0_
                (try clear hb)
                (try clear hb2)
                (try clear hk)
                (try clear hi)
                refine hK.out _ _ ⟨((HB.out.cell (World.block_lt_of_cell? w _ hw412_0)).trans hw412_0), ((HB.out.cell (World.block_lt_of_cell? w _ hw412_1)).trans hw412_1), ((HB.out.cell (World.block_lt_of_cell? w _ hw413_0)).trans hw413_0), ((HB.out.cell (World.block_lt_of_cell? w _ hw413_1)).trans hw413_1)⟩ (fun hHeld => ?_)
                clear hK K
                refine norm_ (a' := ?_) ?_ ?_
                rotate_left
                · show Act.put _ (some 25) _ = _
                  simp only [Act.put, List.setIfInBounds_toArray, List.set_cons_zero, List.set_cons_succ, i64_w, i32_w]
                  rfl
                refine pure_ (i := 9) (N := some 26) (v := ?_) (a' := ?_) #[true, true, true, true, true, true, true, true, true, true] rfl rfl (any_of HT_.out (by kernel_rfl)) (fun _ _ _ h => h) (Or.inl ⟨by rfl, ?_⟩) ?_ ?_
                rotate_left
                · intro w'
                  go_simp
                  with_reducible rfl
                rotate_left
                · simp only [Act.put, List.setIfInBounds_toArray, List.set_cons_zero, List.set_cons_succ, i64_w, i32_w]
                  rfl
                refine done_ (done_of HT_.out (by kernel_rfl)) ?_
                try go_wp2
                go_ret
                exact ⟨by first | rfl | (simp [errW_none, errW_some] <;> rfl) | (simp [*, errW_none, errW_some] <;> rfl), by repeat (first | (with_reducible first | exact HB.out | apply below_alloc | apply pw_below_drewN | apply below_drew1) | exact HB.out)⟩
            · rw [if_neg c6] at H
              exact absurd H (by simp)
          · rw [if_neg c5] at H
            exact absurd H (by simp)
        · rw [if_neg c4] at H
          have c4b0 : decide (x5_1 < (l0.length : Int)) = false := decide_eq_false c4
          clear c4
          obtain rfl := Option.some.inj H
          go_wp2
          go_ret
          exact ⟨by first | rfl | (simp [errW_none, errW_some] <;> rfl) | (simp [*, errW_none, errW_some] <;> rfl), by repeat (first | (with_reducible first | exact HB.out | apply below_alloc | apply pw_below_drewN | apply below_drew1) | exact HB.out)⟩
  · rw [if_neg c3] at H
    have c3b0 : ((l0.length : Int) == (l1.length : Int)) = false := beq_eq_false_iff_ne.mpr c3
    have c3b1 : ((l0.length : Int) != (l1.length : Int)) = true := bne_iff_ne.mpr c3
    have c3b2 : (l0.length == l1.length) = false := by first | simpa using c3 | (simp at c3 ⊢; omega)
    obtain rfl := Option.some.inj H
    go_enter Tryz.func32, Tryz.ntmps32
    go_wp2
    go_ret
    exact ⟨by first | rfl | (simp [errW_none, errW_some] <;> rfl) | (simp [*, errW_none, errW_some] <;> rfl), by repeat (first | (with_reducible first | exact HB.out | apply below_alloc | apply pw_below_drewN | apply below_drew1) | exact HB.out)⟩

end
section
open Go.RowKit Go.Proofs.YtkjaahmlnbgnjaaGreatW.PrintWords Go.Proofs.YtkjaahmlnbgnjaaGreatW.PrintLast Go.Proofs.YtkjaahmlnbgnjaaGreatW.PrintMore
attribute [local go_sem] max2_int min2_int max_two min_two max_three min_three max_four min_four   -- for this text's walks alone
set_option linter.unusedVariables false
set_option linter.unusedSimpArgs false

def laws_eqGame.f (k : Nat) (l0_0 : List (S_Tile)) (l0_1 : List (S_Tile)) (l0_2 : List Int) (a0_3 : Int) (a0_4 : Int) (l1_0 : List (S_Tile)) (l1_1 : List (S_Tile)) (l1_2 : List Int) (a1_3 : Int) (a1_4 : Int) : Option (Bool) := (laws_eqTileS.f k l0_0 l1_0).bind fun t419 => (if t419 = true then ((laws_eqTileS.f k l0_1 l1_1).bind fun t420 => (if t420 = true then ((laws_eqIntS.f k l0_2 l1_2).bind fun t421 => (if t421 = true then (if a0_3 = a1_3 then (if a0_4 = a1_4 then (some true) else (some false)) else (some false)) else (some false))) else (some false))) else (some false))
set_option maxRecDepth 100000 in
set_option maxHeartbeats 40000000 in
theorem laws_eqGame.calls (k : Nat) (A0_0 : Option Addr) (c0_0 : Nat) (l0_0 : List (S_Tile)) (A0_1 : Option Addr) (c0_1 : Nat) (l0_1 : List (S_Tile)) (A0_2 : Option Addr) (c0_2 : Nat) (l0_2 : List Int) (a0_3 : Int) (a0_4 : Int) (A1_0 : Option Addr) (c1_0 : Nat) (l1_0 : List (S_Tile)) (A1_1 : Option Addr) (c1_1 : Nat) (l1_1 : List (S_Tile)) (A1_2 : Option Addr) (c1_2 : Nat) (l1_2 : List Int) (a1_3 : Int) (a1_4 : Int) (r : Bool) (w : World) (hr0_0 : Kd.C k59 w A0_0 l0_0.length l0_0) (hc0_0 : l0_0.length ≤ c0_0) (hr0_1 : Kd.C k59 w A0_1 l0_1.length l0_1) (hc0_1 : l0_1.length ≤ c0_1) (hr0_2 : Kd.C (Kd.int .i64) w A0_2 l0_2.length l0_2) (hc0_2 : l0_2.length ≤ c0_2) (hr1_0 : Kd.C k59 w A1_0 l1_0.length l1_0) (hc1_0 : l1_0.length ≤ c1_0) (hr1_1 : Kd.C k59 w A1_1 l1_1.length l1_1) (hc1_1 : l1_1.length ≤ c1_1) (hr1_2 : Kd.C (Kd.int .i64) w A1_2 l1_2.length l1_2) (hc1_2 : l1_2.length ≤ c1_2) (h : laws_eqGame.f k l0_0 l0_1 l0_2 a0_3 a0_4 l1_0 l1_1 l1_2 a1_3 a1_4 = some r) :
    Calls Tryz.prog 10 #[.agg #[.slice A0_0 l0_0.length c0_0, .slice A0_1 l0_1.length c0_1, .slice A0_2 l0_2.length c0_2, .int .i64 a0_3, .int .i64 a0_4], .agg #[.slice A1_0 l1_0.length c1_0, .slice A1_1 l1_1.length c1_1, .slice A1_2 l1_2.length c1_2, .int .i64 a1_3, .int .i64 a1_4]] w fun e w' => e = .returned (.bool r) ∧ Below w.heap.size w w' := by
  obtain ⟨cs, hcs⟩ : ∃ cs, cs = [old w w.heap.size] := ⟨_, rfl⟩
  have hp : Hp w cs w := by rw [hcs]; exact Hp.old_start w
  have hc2 : ∀ W, Hp w cs W → Below w.heap.size w W := fun W h => by rw [hcs] at h; exact h.since 0 _ rfl
  have hC0_0 : ∀ W, Hp w cs W → Kd.C k59 W A0_0 l0_0.length l0_0 := fun W h => Kd.C_below hr0_0 (hc2 W h)
  have hC0_1 : ∀ W, Hp w cs W → Kd.C k59 W A0_1 l0_1.length l0_1 := fun W h => Kd.C_below hr0_1 (hc2 W h)
  have hC0_2 : ∀ W, Hp w cs W → Kd.C (Kd.int .i64) W A0_2 l0_2.length l0_2 := fun W h => Kd.C_below hr0_2 (hc2 W h)
  have hC1_0 : ∀ W, Hp w cs W → Kd.C k59 W A1_0 l1_0.length l1_0 := fun W h => Kd.C_below hr1_0 (hc2 W h)
  have hC1_1 : ∀ W, Hp w cs W → Kd.C k59 W A1_1 l1_1.length l1_1 := fun W h => Kd.C_below hr1_1 (hc2 W h)
  have hC1_2 : ∀ W, Hp w cs W → Kd.C (Kd.int .i64) W A1_2 l1_2.length l1_2 := fun W h => Kd.C_below hr1_2 (hc2 W h)
  clear hcs
  unfold laws_eqGame.f at h
  obtain ⟨t_2, hv_1, h⟩ := Option.bind_eq_some_iff.mp h
  try dsimp only at h
  refine sx_enter (N := 33) (l := [.agg #[.slice A0_0 l0_0.length c0_0, .slice A0_1 l0_1.length c0_1, .slice A0_2 l0_2.length c0_2, .int .i64 a0_3, .int .i64 a0_4], .agg #[.slice A1_0 l1_0.length c1_0, .slice A1_1 l1_1.length c1_1, .slice A1_2 l1_2.length c1_2, .int .i64 a1_3, .int .i64 a1_4]]) Tryz.func10 rfl rfl rfl ?_
  refine wp_seq ?_
  refine sx_region ?_
  refine sx_box 2 hp #[.slice A0_0 l0_0.length c0_0, .slice A0_1 l0_1.length c0_1, .slice A0_2 l0_2.length c0_2, .int .i64 a0_3, .int .i64 a0_4] 29 (by rfl) (fun W => by kernel_rfl) ?_
  intro g_3 W_4 hp
  refine sx_box 3 hp #[.slice A1_0 l1_0.length c1_0, .slice A1_1 l1_1.length c1_1, .slice A1_2 l1_2.length c1_2, .int .i64 a1_3, .int .i64 a1_4] 29 (by rfl) (fun W => by kernel_rfl) ?_
  intro g_5 W_6 hp
  refine sx_rd 4 (.bool false) (by rfl) (by kernel_rfl) ?_
  refine sx_nil ?_
  refine ex_then_n ?_
  refine wp_seq ?_
  refine wp_seq ?_
  refine sx_region ?_
  refine sx_rd 5 (.pointer (some ⟨g_3, 0, none⟩)) (by rfl) (by kernel_rfl) ?_
  refine sx_rd 6 (.slice A0_0 l0_0.length c0_0) (by rfl) (ld1 (t := 27) (p := (.tmp 5)) (by rfl) (by rfl) (by kernel_rfl) (hp.cell 1 (by rfl) 0 _ (by rfl))) ?_
  refine sx_rd 7 (.pointer (some ⟨g_5, 0, none⟩)) (by rfl) (by kernel_rfl) ?_
  refine sx_rd 8 (.slice A1_0 l1_0.length c1_0) (by rfl) (ld1 (t := 27) (p := (.tmp 7)) (by rfl) (by rfl) (by kernel_rfl) (hp.cell 0 (by rfl) 0 _ (by rfl))) ?_
  refine sx_call 9 (by rfl) (by kernel_rfl) ((laws_eqTileS.calls _ A0_0 c0_0 l0_0 A1_0 c1_0 l1_0 _ _ (hC0_0 _ hp.tail.tail) hc0_0 (hC1_0 _ hp.tail.tail) hc1_0 hv_1).mono ?_)
  rintro _ W_7 ⟨rfl, hb⟩
  refine ⟨_, rfl, ?_⟩
  replace hp := hp.below hb
  clear hb
  refine sx_rd 10 (.bool (!t_2)) (by rfl) (by kernel_rfl) ?_
  refine sx_nil ?_
  refine ex_then_n ?_
  by_cases hc_8 : t_2 = true
  ·
    rw [if_pos hc_8] at h
    obtain ⟨t_10, hv_9, h⟩ := Option.bind_eq_some_iff.mp h
    try dsimp only at h
    refine sx_else (!t_2) (by rfl) (show (!t_2) = false from by rw [hc_8]; rfl) ?_
    refine wp_skip ?_
    refine ex_then_n ?_
    refine wp_seq ?_
    refine wp_seq ?_
    refine sx_region ?_
    refine sx_rd 11 (.pointer (some ⟨g_3, 1, none⟩)) (by rfl) (by kernel_rfl) ?_
    refine sx_rd 12 (.slice A0_1 l0_1.length c0_1) (by rfl) (ld1 (t := 27) (p := (.tmp 11)) (by rfl) (by rfl) (by kernel_rfl) (hp.cell 1 (by rfl) 1 _ (by rfl))) ?_
    refine sx_rd 13 (.pointer (some ⟨g_5, 1, none⟩)) (by rfl) (by kernel_rfl) ?_
    refine sx_rd 14 (.slice A1_1 l1_1.length c1_1) (by rfl) (ld1 (t := 27) (p := (.tmp 13)) (by rfl) (by rfl) (by kernel_rfl) (hp.cell 0 (by rfl) 1 _ (by rfl))) ?_
    refine sx_call 15 (by rfl) (by kernel_rfl) ((laws_eqTileS.calls _ A0_1 c0_1 l0_1 A1_1 c1_1 l1_1 _ _ (hC0_1 _ hp.tail.tail) hc0_1 (hC1_1 _ hp.tail.tail) hc1_1 hv_9).mono ?_)
    rintro _ W_11 ⟨rfl, hb⟩
    refine ⟨_, rfl, ?_⟩
    replace hp := hp.below hb
    clear hb
    refine sx_rd 16 (.bool (!t_10)) (by rfl) (by kernel_rfl) ?_
    refine sx_nil ?_
    refine ex_then_n ?_
    by_cases hc_12 : t_10 = true
    ·
      rw [if_pos hc_12] at h
      obtain ⟨t_14, hv_13, h⟩ := Option.bind_eq_some_iff.mp h
      try dsimp only at h
      refine sx_else (!t_10) (by rfl) (show (!t_10) = false from by rw [hc_12]; rfl) ?_
      refine wp_skip ?_
      refine ex_then_n ?_
      refine wp_seq ?_
      refine wp_seq ?_
      refine sx_region ?_
      refine sx_rd 17 (.pointer (some ⟨g_3, 2, none⟩)) (by rfl) (by kernel_rfl) ?_
      refine sx_rd 18 (.slice A0_2 l0_2.length c0_2) (by rfl) (ld1 (t := 23) (p := (.tmp 17)) (by rfl) (by rfl) (by kernel_rfl) (hp.cell 1 (by rfl) 2 _ (by rfl))) ?_
      refine sx_rd 19 (.pointer (some ⟨g_5, 2, none⟩)) (by rfl) (by kernel_rfl) ?_
      refine sx_rd 20 (.slice A1_2 l1_2.length c1_2) (by rfl) (ld1 (t := 23) (p := (.tmp 19)) (by rfl) (by rfl) (by kernel_rfl) (hp.cell 0 (by rfl) 2 _ (by rfl))) ?_
      refine sx_call 21 (by rfl) (by kernel_rfl) ((laws_eqIntS.calls _ A0_2 c0_2 l0_2 A1_2 c1_2 l1_2 _ _ (hC0_2 _ hp.tail.tail) hc0_2 (hC1_2 _ hp.tail.tail) hc1_2 hv_13).mono ?_)
      rintro _ W_15 ⟨rfl, hb⟩
      refine ⟨_, rfl, ?_⟩
      replace hp := hp.below hb.below
      clear hb
      refine sx_rd 22 (.bool (!t_14)) (by rfl) (by kernel_rfl) ?_
      refine sx_nil ?_
      refine ex_then_n ?_
      by_cases hc_16 : t_14 = true
      ·
        rw [if_pos hc_16] at h
        refine sx_else (!t_14) (by rfl) (show (!t_14) = false from by rw [hc_16]; rfl) ?_
        refine wp_skip ?_
        refine ex_then_n ?_
        refine wp_seq ?_
        refine wp_seq ?_
        refine sx_region ?_
        refine sx_rd 23 (.pointer (some ⟨g_3, 3, none⟩)) (by rfl) (by kernel_rfl) ?_
        refine sx_rd 24 (.int .i64 a0_3) (by rfl) (ld1 (t := 3) (p := (.tmp 23)) (by rfl) (by rfl) (by kernel_rfl) (hp.cell 1 (by rfl) 3 _ (by rfl))) ?_
        refine sx_rd 25 (.pointer (some ⟨g_5, 3, none⟩)) (by rfl) (by kernel_rfl) ?_
        refine sx_rd 26 (.int .i64 a1_3) (by rfl) (ld1 (t := 3) (p := (.tmp 25)) (by rfl) (by rfl) (by kernel_rfl) (hp.cell 0 (by rfl) 3 _ (by rfl))) ?_
        refine sx_rd 27 (.bool (a0_3 != a1_3)) (by rfl) (by kernel_rfl) ?_
        refine sx_nil ?_
        refine ex_then_n ?_
        by_cases hc_17 : a0_3 = a1_3
        ·
          rw [if_pos hc_17] at h
          refine sx_else (a0_3 != a1_3) (by rfl) (bne_eq_false_iff_eq.mpr hc_17) ?_
          refine wp_skip ?_
          refine ex_then_n ?_
          refine wp_seq ?_
          refine wp_seq ?_
          refine sx_region ?_
          refine sx_rd 28 (.pointer (some ⟨g_3, 4, none⟩)) (by rfl) (by kernel_rfl) ?_
          refine sx_rd 29 (.int .i64 a0_4) (by rfl) (ld1 (t := 3) (p := (.tmp 28)) (by rfl) (by rfl) (by kernel_rfl) (hp.cell 1 (by rfl) 4 _ (by rfl))) ?_
          refine sx_rd 30 (.pointer (some ⟨g_5, 4, none⟩)) (by rfl) (by kernel_rfl) ?_
          refine sx_rd 31 (.int .i64 a1_4) (by rfl) (ld1 (t := 3) (p := (.tmp 30)) (by rfl) (by rfl) (by kernel_rfl) (hp.cell 0 (by rfl) 4 _ (by rfl))) ?_
          refine sx_rd 32 (.bool (a0_4 != a1_4)) (by rfl) (by kernel_rfl) ?_
          refine sx_nil ?_
          refine ex_then_n ?_
          by_cases hc_18 : a0_4 = a1_4
          ·
            rw [if_pos hc_18] at h
            refine sx_else (a0_4 != a1_4) (by rfl) (bne_eq_false_iff_eq.mpr hc_18) ?_
            refine wp_skip ?_
            refine ex_then_n ?_
            refine wp_seq ?_
            refine sx_region ?_
            refine sx_rd 4 (.bool true) (by rfl) (by kernel_rfl) ?_
            refine sx_nil ?_
            refine ex_then_n ?_
            refine wp_ret ?_
            refine sx_end (.bool true) (res1 4 (by rfl)) ?_
            obtain rfl := Option.some.inj h
            exact ⟨rfl, hc2 _ (hp.tail.tail)⟩
          ·
            rw [if_neg hc_18] at h
            refine sx_then (a0_4 != a1_4) (by rfl) (bne_iff_ne.mpr hc_18) ?_
            refine wp_seq ?_
            refine sx_region ?_
            refine sx_rd 4 (.bool false) (by rfl) (by kernel_rfl) ?_
            refine sx_nil ?_
            refine ex_then_n ?_
            refine wp_ret ?_
            refine ex_then_r ?_
            refine sx_end (.bool false) (res1 4 (by rfl)) ?_
            obtain rfl := Option.some.inj h
            exact ⟨rfl, hc2 _ (hp.tail.tail)⟩
        ·
          rw [if_neg hc_17] at h
          refine sx_then (a0_3 != a1_3) (by rfl) (bne_iff_ne.mpr hc_17) ?_
          refine wp_seq ?_
          refine sx_region ?_
          refine sx_rd 4 (.bool false) (by rfl) (by kernel_rfl) ?_
          refine sx_nil ?_
          refine ex_then_n ?_
          refine wp_ret ?_
          refine ex_then_r ?_
          refine sx_end (.bool false) (res1 4 (by rfl)) ?_
          obtain rfl := Option.some.inj h
          exact ⟨rfl, hc2 _ (hp.tail.tail)⟩
      ·
        rw [if_neg hc_16] at h
        refine sx_then (!t_14) (by rfl) (show (!t_14) = true from by rw [(Bool.eq_false_iff.mpr hc_16)]; rfl) ?_
        refine wp_seq ?_
        refine sx_region ?_
        refine sx_rd 4 (.bool false) (by rfl) (by kernel_rfl) ?_
        refine sx_nil ?_
        refine ex_then_n ?_
        refine wp_ret ?_
        refine ex_then_r ?_
        refine sx_end (.bool false) (res1 4 (by rfl)) ?_
        obtain rfl := Option.some.inj h
        exact ⟨rfl, hc2 _ (hp.tail.tail)⟩
    ·
      rw [if_neg hc_12] at h
      refine sx_then (!t_10) (by rfl) (show (!t_10) = true from by rw [(Bool.eq_false_iff.mpr hc_12)]; rfl) ?_
      refine wp_seq ?_
      refine sx_region ?_
      refine sx_rd 4 (.bool false) (by rfl) (by kernel_rfl) ?_
      refine sx_nil ?_
      refine ex_then_n ?_
      refine wp_ret ?_
      refine ex_then_r ?_
      refine sx_end (.bool false) (res1 4 (by rfl)) ?_
      obtain rfl := Option.some.inj h
      exact ⟨rfl, hc2 _ (hp.tail.tail)⟩
  ·
    rw [if_neg hc_8] at h
    refine sx_then (!t_2) (by rfl) (show (!t_2) = true from by rw [(Bool.eq_false_iff.mpr hc_8)]; rfl) ?_
    refine wp_seq ?_
    refine sx_region ?_
    refine sx_rd 4 (.bool false) (by rfl) (by kernel_rfl) ?_
    refine sx_nil ?_
    refine ex_then_n ?_
    refine wp_ret ?_
    refine ex_then_r ?_
    refine sx_end (.bool false) (res1 4 (by rfl)) ?_
    obtain rfl := Option.some.inj h
    exact ⟨rfl, hc2 _ (hp.tail.tail)⟩
end
section
open Go.RowKit Go.Proofs.YtkjaahmlnbgnjaaGreatW.PrintWords Go.Proofs.YtkjaahmlnbgnjaaGreatW.PrintLast Go.Proofs.YtkjaahmlnbgnjaaGreatW.PrintMore
attribute [local go_sem] max2_int min2_int max_two min_two max_three min_three max_four min_four   -- for this text's walks alone
set_option linter.unusedVariables false
set_option linter.unusedSimpArgs false

def laws_heldGame.f (k : Nat) (l0_0 : List (S_Tile)) (l0_1 : List (S_Tile)) (l0_2 : List Int) (a0_3 : Int) (a0_4 : Int) (a1 : Int) : Option (Int) := (laws_heldTileS.f k l0_0 a1).bind fun t436 => (if t436 < 0 then (some (-1)) else ((laws_heldTileS.f k l0_1 t436).bind fun t437 => (if t437 < 0 then (some (-1)) else ((laws_heldIntS.f k l0_2 t437).bind fun t438 => (if t438 < 0 then (some (-1)) else (some t438))))))
set_option maxRecDepth 100000 in
set_option maxHeartbeats 40000000 in
theorem laws_heldGame.calls (k : Nat) (A0_0 : Option Addr) (c0_0 : Nat) (l0_0 : List (S_Tile)) (A0_1 : Option Addr) (c0_1 : Nat) (l0_1 : List (S_Tile)) (A0_2 : Option Addr) (c0_2 : Nat) (l0_2 : List Int) (a0_3 : Int) (a0_4 : Int) (a1 : Int) (r : Int) (w : World) (hr0_0 : Kd.C k59 w A0_0 l0_0.length l0_0) (hc0_0 : l0_0.length ≤ c0_0) (hr0_1 : Kd.C k59 w A0_1 l0_1.length l0_1) (hc0_1 : l0_1.length ≤ c0_1) (hr0_2 : Kd.C (Kd.int .i64) w A0_2 l0_2.length l0_2) (hc0_2 : l0_2.length ≤ c0_2) (h : laws_heldGame.f k l0_0 l0_1 l0_2 a0_3 a0_4 a1 = some r) :
    Calls Tryz.prog 12 #[.agg #[.slice A0_0 l0_0.length c0_0, .slice A0_1 l0_1.length c0_1, .slice A0_2 l0_2.length c0_2, .int .i64 a0_3, .int .i64 a0_4], .int .i64 a1] w fun e w' => e = .returned (.int .i64 r) ∧ Below w.heap.size w w' := by
  obtain ⟨cs, hcs⟩ : ∃ cs, cs = [old w w.heap.size] := ⟨_, rfl⟩
  have hp : Hp w cs w := by rw [hcs]; exact Hp.old_start w
  have hc2 : ∀ W, Hp w cs W → Below w.heap.size w W := fun W h => by rw [hcs] at h; exact h.since 0 _ rfl
  have hC0_0 : ∀ W, Hp w cs W → Kd.C k59 W A0_0 l0_0.length l0_0 := fun W h => Kd.C_below hr0_0 (hc2 W h)
  have hC0_1 : ∀ W, Hp w cs W → Kd.C k59 W A0_1 l0_1.length l0_1 := fun W h => Kd.C_below hr0_1 (hc2 W h)
  have hC0_2 : ∀ W, Hp w cs W → Kd.C (Kd.int .i64) W A0_2 l0_2.length l0_2 := fun W h => Kd.C_below hr0_2 (hc2 W h)
  clear hcs
  unfold laws_heldGame.f at h
  obtain ⟨t_2, hv_1, h⟩ := Option.bind_eq_some_iff.mp h
  try dsimp only at h
  refine sx_enter (N := 24) (l := [.agg #[.slice A0_0 l0_0.length c0_0, .slice A0_1 l0_1.length c0_1, .slice A0_2 l0_2.length c0_2, .int .i64 a0_3, .int .i64 a0_4], .int .i64 a1]) Tryz.func12 rfl rfl rfl ?_
  refine wp_seq ?_
  refine sx_region ?_
  refine sx_box 2 hp #[.slice A0_0 l0_0.length c0_0, .slice A0_1 l0_1.length c0_1, .slice A0_2 l0_2.length c0_2, .int .i64 a0_3, .int .i64 a0_4] 29 (by rfl) (fun W => by kernel_rfl) ?_
  intro g_3 W_4 hp
  refine sx_rd 4 (.int .i64 0) (by rfl) (by kernel_rfl) ?_
  refine sx_nil ?_
  refine ex_then_n ?_
  refine wp_seq ?_
  refine sx_region ?_
  refine sx_rd 5 (.pointer (some ⟨g_3, 0, none⟩)) (by rfl) (by kernel_rfl) ?_
  refine sx_rd 6 (.slice A0_0 l0_0.length c0_0) (by rfl) (ld1 (t := 27) (p := (.tmp 5)) (by rfl) (by rfl) (by kernel_rfl) (hp.cell 0 (by rfl) 0 _ (by rfl))) ?_
  refine sx_rd 7 (.int .i64 a1) (by rfl) (by kernel_rfl) ?_
  refine sx_call 8 (by rfl) (by kernel_rfl) ((laws_heldTileS.calls _ A0_0 c0_0 l0_0 a1 _ _ (hC0_0 _ hp.tail) hc0_0 hv_1).mono ?_)
  rintro _ W_5 ⟨rfl, hb⟩
  refine ⟨_, rfl, ?_⟩
  replace hp := hp.below hb.below
  clear hb
  refine sx_rd 1 (.int .i64 t_2) (by rfl) (by kernel_rfl) ?_
  refine sx_nil ?_
  refine ex_then_n ?_
  refine wp_seq ?_
  refine wp_seq ?_
  refine sx_region ?_
  refine sx_rd 9 (.int .i64 t_2) (by rfl) (by kernel_rfl) ?_
  refine sx_rd 10 (.bool (decide (t_2 < 0))) (by rfl) (by kernel_rfl) ?_
  refine sx_nil ?_
  refine ex_then_n ?_
  by_cases hc_6 : t_2 < 0
  ·
    rw [if_pos hc_6] at h
    refine sx_then (decide (t_2 < 0)) (by rfl) (decide_eq_true hc_6) ?_
    refine wp_seq ?_
    refine sx_region ?_
    refine sx_rd 4 (.int .i64 (-1)) (by rfl) (by kernel_rfl) ?_
    refine sx_nil ?_
    refine ex_then_n ?_
    refine wp_ret ?_
    refine ex_then_r ?_
    refine sx_end (.int .i64 (-1)) (res1 4 (by rfl)) ?_
    obtain rfl := Option.some.inj h
    exact ⟨rfl, hc2 _ (hp.tail)⟩
  ·
    rw [if_neg hc_6] at h
    obtain ⟨t_8, hv_7, h⟩ := Option.bind_eq_some_iff.mp h
    try dsimp only at h
    refine sx_else (decide (t_2 < 0)) (by rfl) (decide_eq_false hc_6) ?_
    refine wp_skip ?_
    refine ex_then_n ?_
    refine wp_seq ?_
    refine sx_region ?_
    refine sx_rd 11 (.pointer (some ⟨g_3, 1, none⟩)) (by rfl) (by kernel_rfl) ?_
    refine sx_rd 12 (.slice A0_1 l0_1.length c0_1) (by rfl) (ld1 (t := 27) (p := (.tmp 11)) (by rfl) (by rfl) (by kernel_rfl) (hp.cell 0 (by rfl) 1 _ (by rfl))) ?_
    refine sx_rd 13 (.int .i64 t_2) (by rfl) (by kernel_rfl) ?_
    refine sx_call 14 (by rfl) (by kernel_rfl) ((laws_heldTileS.calls _ A0_1 c0_1 l0_1 t_2 _ _ (hC0_1 _ hp.tail) hc0_1 hv_7).mono ?_)
    rintro _ W_9 ⟨rfl, hb⟩
    refine ⟨_, rfl, ?_⟩
    replace hp := hp.below hb.below
    clear hb
    refine sx_rd 1 (.int .i64 t_8) (by rfl) (by kernel_rfl) ?_
    refine sx_nil ?_
    refine ex_then_n ?_
    refine wp_seq ?_
    refine wp_seq ?_
    refine sx_region ?_
    refine sx_rd 15 (.int .i64 t_8) (by rfl) (by kernel_rfl) ?_
    refine sx_rd 16 (.bool (decide (t_8 < 0))) (by rfl) (by kernel_rfl) ?_
    refine sx_nil ?_
    refine ex_then_n ?_
    by_cases hc_10 : t_8 < 0
    ·
      rw [if_pos hc_10] at h
      refine sx_then (decide (t_8 < 0)) (by rfl) (decide_eq_true hc_10) ?_
      refine wp_seq ?_
      refine sx_region ?_
      refine sx_rd 4 (.int .i64 (-1)) (by rfl) (by kernel_rfl) ?_
      refine sx_nil ?_
      refine ex_then_n ?_
      refine wp_ret ?_
      refine ex_then_r ?_
      refine sx_end (.int .i64 (-1)) (res1 4 (by rfl)) ?_
      obtain rfl := Option.some.inj h
      exact ⟨rfl, hc2 _ (hp.tail)⟩
    ·
      rw [if_neg hc_10] at h
      obtain ⟨t_12, hv_11, h⟩ := Option.bind_eq_some_iff.mp h
      try dsimp only at h
      refine sx_else (decide (t_8 < 0)) (by rfl) (decide_eq_false hc_10) ?_
      refine wp_skip ?_
      refine ex_then_n ?_
      refine wp_seq ?_
      refine sx_region ?_
      refine sx_rd 17 (.pointer (some ⟨g_3, 2, none⟩)) (by rfl) (by kernel_rfl) ?_
      refine sx_rd 18 (.slice A0_2 l0_2.length c0_2) (by rfl) (ld1 (t := 23) (p := (.tmp 17)) (by rfl) (by rfl) (by kernel_rfl) (hp.cell 0 (by rfl) 2 _ (by rfl))) ?_
      refine sx_rd 19 (.int .i64 t_8) (by rfl) (by kernel_rfl) ?_
      refine sx_call 20 (by rfl) (by kernel_rfl) ((laws_heldIntS.calls _ A0_2 c0_2 l0_2 t_8 _ _ (hC0_2 _ hp.tail) hc0_2 hv_11).mono ?_)
      rintro _ W_13 ⟨rfl, hb⟩
      refine ⟨_, rfl, ?_⟩
      replace hp := hp.below hb.below
      clear hb
      refine sx_rd 1 (.int .i64 t_12) (by rfl) (by kernel_rfl) ?_
      refine sx_nil ?_
      refine ex_then_n ?_
      refine wp_seq ?_
      refine wp_seq ?_
      refine sx_region ?_
      refine sx_rd 21 (.int .i64 t_12) (by rfl) (by kernel_rfl) ?_
      refine sx_rd 22 (.bool (decide (t_12 < 0))) (by rfl) (by kernel_rfl) ?_
      refine sx_nil ?_
      refine ex_then_n ?_
      by_cases hc_14 : t_12 < 0
      ·
        rw [if_pos hc_14] at h
        refine sx_then (decide (t_12 < 0)) (by rfl) (decide_eq_true hc_14) ?_
        refine wp_seq ?_
        refine sx_region ?_
        refine sx_rd 4 (.int .i64 (-1)) (by rfl) (by kernel_rfl) ?_
        refine sx_nil ?_
        refine ex_then_n ?_
        refine wp_ret ?_
        refine ex_then_r ?_
        refine sx_end (.int .i64 (-1)) (res1 4 (by rfl)) ?_
        obtain rfl := Option.some.inj h
        exact ⟨rfl, hc2 _ (hp.tail)⟩
      ·
        rw [if_neg hc_14] at h
        refine sx_else (decide (t_12 < 0)) (by rfl) (decide_eq_false hc_14) ?_
        refine wp_skip ?_
        refine ex_then_n ?_
        refine wp_seq ?_
        refine sx_region ?_
        refine sx_rd 23 (.int .i64 t_12) (by rfl) (by kernel_rfl) ?_
        refine sx_rd 4 (.int .i64 t_12) (by rfl) (by kernel_rfl) ?_
        refine sx_nil ?_
        refine ex_then_n ?_
        refine wp_ret ?_
        refine sx_end (.int .i64 t_12) (res1 4 (by rfl)) ?_
        obtain rfl := Option.some.inj h
        exact ⟨rfl, hc2 _ (hp.tail)⟩
end
end Go.Proofs.YtkjaahmlnbgnjaaGreat.Hd
