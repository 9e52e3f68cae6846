/- spec.taApart, by hand. -/
import Derived.Test.YtokkiiepddhkiaaDoorMAptS
import Derived.Test.YtokkiiepddhkiaaDoorPApB
import Derived.Test.YtokkiiepddhkiaaDoorMSxS
namespace Go.Proofs.YtokkiiepddhkiaaDoor.Hd
open Go.RowKit Go.Proofs.YtokkiiepddhkiaaDoor.Pure Go.Proofs.YtokkiiepddhkiaaDoorW.PrintWords Go.Proofs.YtokkiiepddhkiaaDoorW.PrintLast Go.Proofs.YtokkiiepddhkiaaDoorW.PrintMore
set_option linter.unusedVariables false
set_option linter.unusedSimpArgs false
set_option maxRecDepth 100000 in
set_option maxHeartbeats 40000000 in
theorem taApart_sx {w0 W : World} {cs : List Chunk} (w h most : Int) (C : List Int) (AG : Option Addr) (cG : Nat) (H : List S_Tile) (AH : Option Addr) (cH : Nat) (hw1 : 1 ≤ w) (hw2 : w ≤ 30) (hh1 : 1 ≤ h) (hh2 : h ≤ 30) (hwh : w * h = (C.length : Int)) (hn : C.length ≤ 30) (hcG : C.length ≤ cG) (hG : ∀ W, Hp w0 cs W → Kd.C (Kd.int .i64) W AG C.length C) (hHn : H.length ≤ 1000) (hcH : H.length ≤ cH) (hH : ∀ W, Hp w0 cs W → Kd.C k54 W AH H.length H) (hp : Hp w0 cs W) :
    Calls Tryd.prog 22 #[.agg #[.int .i64 w, .int .i64 h, .slice AG C.length cG], .slice AH H.length cH, .int .i64 most] W fun e W' => ∃ (g gL cL : Nat) (FL Fd : Nat → Prop) (Af : Option Addr) (cf : Nat), e = .returned (.pointer (some ⟨g, 0, none⟩)) ∧ (addF most [] (apL w (C.length : Int) C H)).length ≤ cf ∧ Hp w0 (blk g #[.int .i64 w, .int .i64 h, .slice AG C.length cG, .bool false, .slice AH H.length cH, .slice (some ⟨gL, 0, none⟩) C.length cL, .slice Af ((addF most [] (apL w (C.length : Int) C H)).length) cf, .int .i64 (0 + ((apL w (C.length : Int) C H).length : Int)), .int .i64 most] 50 :: row (Kd.int .u8) 5 w0.heap.size (.slice (some ⟨gL, 0, none⟩) C.length cL) (List.replicate C.length (0 : Int)) FL :: rowS (Kd.slice 5 (Kd.int .u8)) 42 w0.heap.size (.slice Af ((addF most [] (apL w (C.length : Int) C H)).length) cf) (addF most [] (apL w (C.length : Int) C H)) Fd :: cs) W' := by
  have hCn := hn
  refine sx_enter (N := 27) (l := [.agg #[.int .i64 w, .int .i64 h, .slice AG C.length cG], .slice AH H.length cH, .int .i64 most]) Tryd.func22 rfl rfl rfl ?_
  refine wp_seq ?_
  refine sx_region ?_
  refine sx_box 3 hp #[.int .i64 w, .int .i64 h, .slice AG C.length cG] 36 (by rfl) (fun W => by kernel_rfl) ?_
  intro g_1 W_2 hp
  refine sx_rd 6 (.pointer none) (by rfl) (by kernel_rfl) ?_
  refine sx_nil ?_
  refine ex_then_n ?_
  refine wp_seq ?_
  refine sx_drawT [1, 2, 6] (.rd 0 (.rd 3 (.rd 4 (.alt 5 (.rd 7 (.alt 8 (.rd 9 (.fin)) .non)) .non)))) 10 (C := Hp w0 (blk g_1 #[.int .i64 w, .int .i64 h, .slice AG C.length cG] 36 :: cs)) (by kernel_rfl) (by kernel_rfl) (fun d _ _ _ _ h => by cases d <;> exact h) (fun W h => h.drew) hp ?_
  refine preI_read rfl ?_
  refine sxq_val 9 (.slice AH H.length cH) (by rfl) (fun W _ => (by kernel_rfl)) ?_
  refine sxq_nil ?_
  refine preI_read rfl ?_
  refine sxq_val 10 (.pointer (some ⟨g_1, 2, none⟩)) (by rfl) (fun W _ => (by kernel_rfl)) ?_
  refine sxq_nil ?_
  refine preI_read rfl ?_
  refine sxq_val 14 (.int .i64 most) (by rfl) (fun W _ => (by kernel_rfl)) ?_
  refine sxq_nil ?_
  refine preI_nil ?_
  intro W_3 hp
  refine treeI_rd rfl ?_
  refine sxq_val 8 (.agg #[.int .i64 w, .int .i64 h, .slice AG C.length cG]) (by rfl) (fun W hp => (ldn (t := 36) (p := (.tmp 3)) (by rfl) (by rfl) (by kernel_rfl) (by kernel_rfl) (by kernel_rfl) (hp.at_ 0 _ (by rfl)))) ?_
  refine sxq_nil ?_
  refine treeI_rd rfl ?_
  refine sxq_val 11 (.slice AG C.length cG) (by rfl) (fun W hp => (ld1 (t := 34) (p := (.tmp 10)) (by rfl) (by rfl) (by kernel_rfl) (hp.cell 0 (by rfl) 2 _ (by rfl)))) ?_
  refine sxq_nil ?_
  refine treeI_rd rfl ?_
  refine sxq_val 12 (.int .i64 (C.length : Int)) (by rfl) (fun W hp => (by kernel_rfl)) ?_
  refine sxq_nil ?_
  refine treeI_ev rfl ?_
  refine sx_make 13 (by rfl) (Kd.int .u8) w0.heap.size 5 C.length (by rfl) (by rfl) (by rfl) (by omega) Tryd.underlying42 (.int .u8 0) 1 (by rfl) (by rfl) (by decide) (by decide) 0 rfl (by omega) hp.size hp ?_
  intro g_4 F_5 W_6 hp
  refine step_fin hp.tail ?_
  refine treeI_rd rfl ?_
  refine sxq_val 15 (.agg #[.int .i64 w, .int .i64 h, .slice AG C.length cG, .bool false, .slice AH H.length cH, .slice (some ⟨g_4, 0, none⟩) ((List.replicate C.length (0 : Int)).length) ((List.replicate C.length (0 : Int)).length), .slice none 0 0, .int .i64 0, .int .i64 most]) (by rfl) (fun W hp => (by kernel_rfl)) ?_
  refine sxq_nil ?_
  refine treeI_ev rfl ?_
  refine sx_box 16 hp #[.int .i64 w, .int .i64 h, .slice AG C.length cG, .bool false, .slice AH H.length cH, .slice (some ⟨g_4, 0, none⟩) ((List.replicate C.length (0 : Int)).length) ((List.replicate C.length (0 : Int)).length), .slice none 0 0, .int .i64 0, .int .i64 most] 50 (by rfl) (fun W => by kernel_rfl) ?_
  intro g_7 W_8 hp
  refine step_fin hp.tail.tail ?_
  refine treeI_rd rfl ?_
  refine sxq_val 7 (.pointer (some ⟨g_7, 0, none⟩)) (by rfl) (fun W hp => (by kernel_rfl)) ?_
  refine sxq_nil ?_
  refine treeI_fin ?_
  refine sx_nil ?_
  refine ex_then_n ?_
  refine wp_seq ?_
  refine wp_seq ?_
  refine sx_region ?_
  refine sx_rd 17 (.slice AH H.length cH) (by rfl) (by kernel_rfl) ?_
  refine sx_rd 18 (.int .i64 (H.length : Int)) (by rfl) (by kernel_rfl) ?_
  refine sx_rd 19 (.int .i64 (2 * (H.length : Int))) (by rfl) (wr_ok (by omega) (by kernel_rfl)) ?_
  refine sx_rd 20 (.pointer (some ⟨g_1, 2, none⟩)) (by rfl) (by kernel_rfl) ?_
  refine sx_rd 21 (.slice AG C.length cG) (by rfl) (ld1 (t := 34) (p := (.tmp 20)) (by rfl) (by rfl) (by kernel_rfl) (hp.cell 2 (by rfl) 2 _ (by rfl))) ?_
  refine sx_rd 22 (.int .i64 (C.length : Int)) (by rfl) (by kernel_rfl) ?_
  refine sx_rd 23 (.bool ((2 * (H.length : Int)) == (C.length : Int))) (by rfl) (by kernel_rfl) ?_
  refine sx_nil ?_
  refine ex_then_n ?_
  refine sx_cond ((2 * (H.length : Int)) == (C.length : Int)) (by rfl) (fun c_9 => ?_) (fun c_9 => ?_)
  ·
    have c_9p := eq_of_beq_ c_9
    refine sx_region ?_
    refine sx_rd 24 (.pointer (some ⟨g_7, 0, none⟩)) (by rfl) (by kernel_rfl) ?_
    have hp := hp.nilrowS (Kd.slice 5 (Kd.int .u8)) 42 w0.heap.size
    have hzl : (List.replicate C.length (0 : Int)).length = C.length := List.length_replicate
    have hp2 := (hp.take [1, 2, 0, 3] 4 (by decide) (by simp))
    rw [hzl] at hp2
    refine sx_call 25 (by rfl) (by kernel_rfl) ((lookS_all w0 31 _ (blk g_1 #[.int .i64 w, .int .i64 h, .slice AG C.length cG] 36 :: cs) g_7 g_4 w h C.length (List.replicate C.length (0 : Int)) 0 0 most false C AG cG H AH cH C.length F_5 [] none 0 (fun _ => False) hw1 hw2 hh1 hh2 hwh hn hzl rfl hcG (fun W h => hG W h.tail) hHn hcH (fun W h => hH W h.tail) (by decide) (by decide) (by decide) (Nat.le_refl _) (Nat.zero_le _) (by omega) hp2).mono ?_)
    rintro _ W_10 ⟨FL2, Fd2, Af2, cf2, rfl, hfc2, hp⟩
    refine ⟨_, rfl, ?_⟩
    refine sx_nil ?_
    refine ex_then_n ?_
    refine wp_seq ?_
    refine sx_region ?_
    refine sx_rd 26 (.pointer (some ⟨g_7, 0, none⟩)) (by rfl) (by kernel_rfl) ?_
    refine sx_rd 6 (.pointer (some ⟨g_7, 0, none⟩)) (by rfl) (by kernel_rfl) ?_
    refine sx_nil ?_
    refine ex_then_n ?_
    refine wp_ret ?_
    refine sx_end (.pointer (some ⟨g_7, 0, none⟩)) (res1 6 (by rfl)) ?_
    have hL : (apL w (C.length : Int) C H) = ((lvs (nxS false C) w (C.length : Int) 31 (List.replicate C.length (0 : Int)) 0 H).map Prod.fst) := by unfold apL; rw [if_pos c_9p]
    rw [hL]
    exact ⟨_, _, _, _, _, _, _, rfl, hfc2, (hp.take [0, 1, 2] 4 (by decide) (by simp))⟩
  ·
    have c_9p := ne_of_beq_ c_9
    refine wp_skip ?_
    refine ex_then_n ?_
    refine wp_seq ?_
    refine sx_region ?_
    refine sx_rd 26 (.pointer (some ⟨g_7, 0, none⟩)) (by rfl) (by kernel_rfl) ?_
    refine sx_rd 6 (.pointer (some ⟨g_7, 0, none⟩)) (by rfl) (by kernel_rfl) ?_
    refine sx_nil ?_
    refine ex_then_n ?_
    refine wp_ret ?_
    refine sx_end (.pointer (some ⟨g_7, 0, none⟩)) (res1 6 (by rfl)) ?_
    have hp := hp.nilrowS (Kd.slice 5 (Kd.int .u8)) 42 w0.heap.size
    have hzl : (List.replicate C.length (0 : Int)).length = C.length := List.length_replicate
    have hL : (apL w (C.length : Int) C H) = [] := by unfold apL; rw [if_neg c_9p]
    rw [hL]
    have hq := (hp.take [1, 2, 0] 4 (by decide) (by simp))
    rw [hzl] at hq
    exact ⟨_, _, _, _, _, _, _, rfl, Nat.le_refl _, hq⟩
end Go.Proofs.YtokkiiepddhkiaaDoor.Hd
