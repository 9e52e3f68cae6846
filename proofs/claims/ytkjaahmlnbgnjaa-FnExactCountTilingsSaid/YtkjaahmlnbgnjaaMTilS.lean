/- spec.taNear, taSearch.put and look, by hand. -/
import Derived.Test.YtkjaahmlnbgnjaaPTilA
import Derived.Test.YtkjaahmlnbgnjaaMSxM
import Derived.Test.YtkjaahmlnbgnjaaG0
namespace Go.Proofs.Ytkjaahmlnbgnjaa.Hd
open Go.RowKit Go.Proofs.Ytkjaahmlnbgnjaa.Pure Go.Proofs.YtkjaahmlnbgnjaaW.PrintWords Go.Proofs.YtkjaahmlnbgnjaaW.PrintLast Go.Proofs.YtkjaahmlnbgnjaaW.PrintMore
set_option linter.unusedVariables false
set_option linter.unusedSimpArgs false
def LookOk (d : Nat) : Prop := ∀ (w0 W : World) (cs : List Chunk) (g gL : Nat) (w h : Int) (n : Nat) (b : List Int) (a : Nat) (c : Int) (AG : Option Addr) (nG cG cL : Nat) (FL : Nat → Prop) (Af : Option Addr) (nf cf : Nat), 1 ≤ w → w ≤ 30 → 1 ≤ h → h ≤ 30 → w * h = (n : Int) → n ≤ 30 → b.length = n → a ≤ n → n < a + d → 0 ≤ c → c + P2 d ≤ 1099511627776 → (nf = 0 → Af = none ∧ cf = 0) → Hp w0 (blk g #[.int .i64 w, .int .i64 h, .slice AG nG cG, .bool true, .slice none 0 0, .slice (some ⟨gL, 0, none⟩) n cL, .slice Af nf cf, .int .i64 c, .int .i64 0] 63 :: row (Kd.int .u8) 5 w0.heap.size (.slice (some ⟨gL, 0, none⟩) n cL) b FL :: cs) W → Calls Try.prog 34 #[.pointer (some ⟨g, 0, none⟩), .int .i64 (a : Int)] W fun e W' => ∃ (FL' : Nat → Prop) (Af' : Option Addr) (nf' cf' : Nat), e = .returned (.tuple #[]) ∧ (nf' = 0 → Af' = none ∧ cf' = 0) ∧ Hp w0 (blk g #[.int .i64 w, .int .i64 h, .slice AG nG cG, .bool true, .slice none 0 0, .slice (some ⟨gL, 0, none⟩) n cL, .slice Af' nf' cf', .int .i64 (c + cntT w (n : Int) d b a), .int .i64 0] 63 :: row (Kd.int .u8) 5 w0.heap.size (.slice (some ⟨gL, 0, none⟩) n cL) b FL' :: cs) W'
def PutOk (d : Nat) : Prop := ∀ (w0 W : World) (cs : List Chunk) (g gL : Nat) (w h : Int) (n : Nat) (b : List Int) (i : Nat) (j l l2 : Int) (c : Int) (AG : Option Addr) (nG cG cL : Nat) (FL : Nat → Prop) (Af : Option Addr) (nf cf : Nat), 1 ≤ w → w ≤ 30 → 1 ≤ h → h ≤ 30 → w * h = (n : Int) → n ≤ 30 → b.length = n → i < n → rd b (i : Int) = 0 → (-1 ≤ j ∧ j < n ∧ j ≠ i) → ((l = 101 ∧ l2 = 119) ∨ (l = 115 ∧ l2 = 110)) → n < i + 1 + d → 0 ≤ c → c + P2 d ≤ 1099511627776 → (nf = 0 → Af = none ∧ cf = 0) → Hp w0 (blk g #[.int .i64 w, .int .i64 h, .slice AG nG cG, .bool true, .slice none 0 0, .slice (some ⟨gL, 0, none⟩) n cL, .slice Af nf cf, .int .i64 c, .int .i64 0] 63 :: row (Kd.int .u8) 5 w0.heap.size (.slice (some ⟨gL, 0, none⟩) n cL) b FL :: cs) W → Calls Try.prog 65 #[.pointer (some ⟨g, 0, none⟩), .int .i64 (i : Int), .int .i64 j, .int .u8 l] W fun e W' => ∃ (FL' : Nat → Prop) (Af' : Option Addr) (nf' cf' : Nat), e = .returned (.tuple #[]) ∧ (nf' = 0 → Af' = none ∧ cf' = 0) ∧ Hp w0 (blk g #[.int .i64 w, .int .i64 h, .slice AG nG cG, .bool true, .slice none 0 0, .slice (some ⟨gL, 0, none⟩) n cL, .slice Af' nf' cf', .int .i64 (c + putC w (n : Int) d b i j l l2), .int .i64 0] 63 :: row (Kd.int .u8) 5 w0.heap.size (.slice (some ⟨gL, 0, none⟩) n cL) b FL' :: cs) W'
set_option maxRecDepth 100000 in
set_option maxHeartbeats 40000000 in
theorem near_sx {w0 W : World} {cs : List Chunk} (w h : Int) (n i : Nat) (AG : Option Addr) (nG cG : Nat) (hw1 : 1 ≤ w) (hw2 : w ≤ 30) (hh1 : 1 ≤ h) (hh2 : h ≤ 30) (hwh : w * h = (n : Int)) (hn : n ≤ 30) (hi : i < n) (hp : Hp w0 cs W) : Calls Try.prog 64 #[.agg #[.int .i64 w, .int .i64 h, .slice AG nG cG], .int .i64 (i : Int)] W fun e W' => e = .returned (.tuple #[.int .i64 (nearE w (i : Int)), .int .i64 (nearS w n (i : Int))]) ∧ Hp w0 cs W' := by
 refine sx_enter (N := 34) (l := [.agg #[.int .i64 w, .int .i64 h, .slice AG nG cG], .int .i64 (i : Int)]) Try.func64 rfl rfl rfl ?_
 refine wp_seq ?_
 refine sx_region ?_
 refine sx_box 2 hp #[.int .i64 w, .int .i64 h, .slice AG nG cG] 59 (by rfl) (fun W => by kernel_rfl) ?_
 intro g_1 W_2 hp
 refine sx_rd 4 (.int .i64 0) (by rfl) (by kernel_rfl) ?_
 refine sx_rd 5 (.int .i64 0) (by rfl) (by kernel_rfl) ?_
 refine sx_nil ?_
 refine ex_then_n ?_
 refine wp_seq ?_
 refine sx_region ?_
 refine sx_rd 6 (.int .i64 (-1)) (by rfl) (by kernel_rfl) ?_
 refine sx_rd 7 (.int .i64 (-1)) (by rfl) (by kernel_rfl) ?_
 refine sx_nil ?_
 refine ex_then_n ?_
 refine wp_seq ?_
 refine wp_seq ?_
 refine sx_drawT [0, 1, 4] (.rd 2 (.rd 3 (.rd 5 (.rd 6 (.rd 7 (.fin)))))) 8 (C := Hp w0 (blk g_1 #[.int .i64 w, .int .i64 h, .slice AG nG cG] 59 :: cs)) (by kernel_rfl) (by kernel_rfl) (fun d _ _ _ _ h => by cases d <;> exact h) (fun W h => h.drew) hp ?_
 refine preI_read rfl ?_
 refine sxq_val 8 (.int .i64 (i : Int)) (by rfl) (fun W _ => (by kernel_rfl)) ?_
 refine sxq_nil ?_
 refine preI_read rfl ?_
 refine sxq_val 9 (.pointer (some ⟨g_1, 0, none⟩)) (by rfl) (fun W _ => (by kernel_rfl)) ?_
 refine sxq_nil ?_
 refine preI_read rfl ?_
 refine sxq_val 12 (.pointer (some ⟨g_1, 0, none⟩)) (by rfl) (fun W _ => (by kernel_rfl)) ?_
 refine sxq_nil ?_
 refine preI_nil ?_
 intro W_3 hp
 refine treeI_rd rfl ?_
 refine sxq_val 10 (.int .i64 w) (by rfl) (fun W hp => (ld1 (t := 3) (p := (.tmp 9)) (by rfl) (by rfl) (by kernel_rfl) (hp.cell 0 (by rfl) 0 _ (by rfl)))) ?_
 refine sxq_nil ?_
 refine treeI_rd rfl ?_
 refine sxq_val 11 (.int .i64 ((i : Int) % w)) (by rfl) (fun W hp => (rem_run (by rfl) (by rfl) (by rfl) (by omega) (by omega))) ?_
 refine sxq_nil ?_
 refine treeI_rd rfl ?_
 refine sxq_val 13 (.int .i64 w) (by rfl) (fun W hp => (ld1 (t := 3) (p := (.tmp 12)) (by rfl) (by rfl) (by kernel_rfl) (hp.cell 0 (by rfl) 0 _ (by rfl)))) ?_
 refine sxq_nil ?_
 refine treeI_rd rfl ?_
 refine sxq_val 14 (.int .i64 (w - 1)) (by rfl) (fun W hp => (wr_ok (by omega) (by kernel_rfl))) ?_
 refine sxq_nil ?_
 refine treeI_rd rfl ?_
 refine sxq_val 15 (.bool (decide (((i : Int) % w) < (w - 1)))) (by rfl) (fun W hp => (by kernel_rfl)) ?_
 refine sxq_nil ?_
 refine treeI_fin ?_
 refine sx_nil ?_
 refine ex_then_n ?_
 refine sx_cond (decide (((i : Int) % w) < (w - 1))) (by rfl) (fun c_4 => ?_) (fun c_4 => ?_)
 ·
  have c_4p := of_decide_eq_true c_4
  refine sx_region ?_
  refine sx_rd 16 (.int .i64 (i : Int)) (by rfl) (by kernel_rfl) ?_
  refine sx_rd 17 (.int .i64 ((i : Int) + 1)) (by rfl) (wr_ok (by omega) (by kernel_rfl)) ?_
  refine sx_rd 6 (.int .i64 ((i : Int) + 1)) (by rfl) (by kernel_rfl) ?_
  refine sx_nil ?_
  refine ex_then_n ?_
  refine wp_seq ?_
  refine wp_seq ?_
  refine sx_region ?_
  refine sx_rd 18 (.int .i64 (i : Int)) (by rfl) (by kernel_rfl) ?_
  refine sx_rd 19 (.pointer (some ⟨g_1, 0, none⟩)) (by rfl) (by kernel_rfl) ?_
  refine sx_rd 20 (.int .i64 w) (by rfl) (ld1 (t := 3) (p := (.tmp 19)) (by rfl) (by rfl) (by kernel_rfl) (hp.cell 0 (by rfl) 0 _ (by rfl))) ?_
  refine sx_rd 21 (.int .i64 ((i : Int) + w)) (by rfl) (wr_ok (by omega) (by kernel_rfl)) ?_
  refine sx_rd 22 (.pointer (some ⟨g_1, 0, none⟩)) (by rfl) (by kernel_rfl) ?_
  refine sx_rd 23 (.int .i64 w) (by rfl) (ld1 (t := 3) (p := (.tmp 22)) (by rfl) (by rfl) (by kernel_rfl) (hp.cell 0 (by rfl) 0 _ (by rfl))) ?_
  refine sx_rd 24 (.pointer (some ⟨g_1, 1, none⟩)) (by rfl) (by kernel_rfl) ?_
  refine sx_rd 25 (.int .i64 h) (by rfl) (ld1 (t := 3) (p := (.tmp 24)) (by rfl) (by rfl) (by kernel_rfl) (hp.cell 0 (by rfl) 1 _ (by rfl))) ?_
  refine sx_rd 26 (.int .i64 (n : Int)) (by rfl) (mul_run (by rfl) (by rfl) (by rfl) hwh (by omega)) ?_
  refine sx_rd 27 (.bool (decide (((i : Int) + w) < (n : Int)))) (by rfl) (by kernel_rfl) ?_
  refine sx_nil ?_
  refine ex_then_n ?_
  refine sx_cond (decide (((i : Int) + w) < (n : Int))) (by rfl) (fun c_5 => ?_) (fun c_5 => ?_)
  ·
   have c_5p := of_decide_eq_true c_5
   refine sx_region ?_
   refine sx_rd 28 (.int .i64 (i : Int)) (by rfl) (by kernel_rfl) ?_
   refine sx_rd 29 (.pointer (some ⟨g_1, 0, none⟩)) (by rfl) (by kernel_rfl) ?_
   refine sx_rd 30 (.int .i64 w) (by rfl) (ld1 (t := 3) (p := (.tmp 29)) (by rfl) (by rfl) (by kernel_rfl) (hp.cell 0 (by rfl) 0 _ (by rfl))) ?_
   refine sx_rd 31 (.int .i64 ((i : Int) + w)) (by rfl) (wr_ok (by omega) (by kernel_rfl)) ?_
   refine sx_rd 7 (.int .i64 ((i : Int) + w)) (by rfl) (by kernel_rfl) ?_
   refine sx_nil ?_
   refine ex_then_n ?_
   refine wp_seq ?_
   refine sx_region ?_
   refine sx_rd 32 (.int .i64 ((i : Int) + 1)) (by rfl) (by kernel_rfl) ?_
   refine sx_rd 33 (.int .i64 ((i : Int) + w)) (by rfl) (by kernel_rfl) ?_
   refine sx_rd 4 (.int .i64 ((i : Int) + 1)) (by rfl) (by kernel_rfl) ?_
   refine sx_rd 5 (.int .i64 ((i : Int) + w)) (by rfl) (by kernel_rfl) ?_
   refine sx_nil ?_
   refine ex_then_n ?_
   refine wp_ret ?_
   refine sx_end (.tuple #[.int .i64 ((i : Int) + 1), .int .i64 ((i : Int) + w)]) (res2 4 5 (by rfl)) ?_
   have hE : nearE w (i : Int) = ((i : Int) + 1) := by unfold nearE; rw [if_pos (by omega)]
   have hS : nearS w n (i : Int) = ((i : Int) + w) := by unfold nearS; rw [if_pos (by omega)]
   exact ⟨by rw [hE, hS], hp.tail⟩
  ·
   have c_5p := of_decide_eq_false c_5
   refine wp_skip ?_
   refine ex_then_n ?_
   refine wp_seq ?_
   refine sx_region ?_
   refine sx_rd 32 (.int .i64 ((i : Int) + 1)) (by rfl) (by kernel_rfl) ?_
   refine sx_rd 33 (.int .i64 (-1)) (by rfl) (by kernel_rfl) ?_
   refine sx_rd 4 (.int .i64 ((i : Int) + 1)) (by rfl) (by kernel_rfl) ?_
   refine sx_rd 5 (.int .i64 (-1)) (by rfl) (by kernel_rfl) ?_
   refine sx_nil ?_
   refine ex_then_n ?_
   refine wp_ret ?_
   refine sx_end (.tuple #[.int .i64 ((i : Int) + 1), .int .i64 (-1)]) (res2 4 5 (by rfl)) ?_
   have hE : nearE w (i : Int) = ((i : Int) + 1) := by unfold nearE; rw [if_pos (by omega)]
   have hS : nearS w n (i : Int) = (-1) := by unfold nearS; rw [if_neg (by omega)]
   exact ⟨by rw [hE, hS], hp.tail⟩
 ·
  have c_4p := of_decide_eq_false c_4
  refine wp_skip ?_
  refine ex_then_n ?_
  refine wp_seq ?_
  refine wp_seq ?_
  refine sx_region ?_
  refine sx_rd 18 (.int .i64 (i : Int)) (by rfl) (by kernel_rfl) ?_
  refine sx_rd 19 (.pointer (some ⟨g_1, 0, none⟩)) (by rfl) (by kernel_rfl) ?_
  refine sx_rd 20 (.int .i64 w) (by rfl) (ld1 (t := 3) (p := (.tmp 19)) (by rfl) (by rfl) (by kernel_rfl) (hp.cell 0 (by rfl) 0 _ (by rfl))) ?_
  refine sx_rd 21 (.int .i64 ((i : Int) + w)) (by rfl) (wr_ok (by omega) (by kernel_rfl)) ?_
  refine sx_rd 22 (.pointer (some ⟨g_1, 0, none⟩)) (by rfl) (by kernel_rfl) ?_
  refine sx_rd 23 (.int .i64 w) (by rfl) (ld1 (t := 3) (p := (.tmp 22)) (by rfl) (by rfl) (by kernel_rfl) (hp.cell 0 (by rfl) 0 _ (by rfl))) ?_
  refine sx_rd 24 (.pointer (some ⟨g_1, 1, none⟩)) (by rfl) (by kernel_rfl) ?_
  refine sx_rd 25 (.int .i64 h) (by rfl) (ld1 (t := 3) (p := (.tmp 24)) (by rfl) (by rfl) (by kernel_rfl) (hp.cell 0 (by rfl) 1 _ (by rfl))) ?_
  refine sx_rd 26 (.int .i64 (n : Int)) (by rfl) (mul_run (by rfl) (by rfl) (by rfl) hwh (by omega)) ?_
  refine sx_rd 27 (.bool (decide (((i : Int) + w) < (n : Int)))) (by rfl) (by kernel_rfl) ?_
  refine sx_nil ?_
  refine ex_then_n ?_
  refine sx_cond (decide (((i : Int) + w) < (n : Int))) (by rfl) (fun c_6 => ?_) (fun c_6 => ?_)
  ·
   have c_6p := of_decide_eq_true c_6
   refine sx_region ?_
   refine sx_rd 28 (.int .i64 (i : Int)) (by rfl) (by kernel_rfl) ?_
   refine sx_rd 29 (.pointer (some ⟨g_1, 0, none⟩)) (by rfl) (by kernel_rfl) ?_
   refine sx_rd 30 (.int .i64 w) (by rfl) (ld1 (t := 3) (p := (.tmp 29)) (by rfl) (by rfl) (by kernel_rfl) (hp.cell 0 (by rfl) 0 _ (by rfl))) ?_
   refine sx_rd 31 (.int .i64 ((i : Int) + w)) (by rfl) (wr_ok (by omega) (by kernel_rfl)) ?_
   refine sx_rd 7 (.int .i64 ((i : Int) + w)) (by rfl) (by kernel_rfl) ?_
   refine sx_nil ?_
   refine ex_then_n ?_
   refine wp_seq ?_
   refine sx_region ?_
   refine sx_rd 32 (.int .i64 (-1)) (by rfl) (by kernel_rfl) ?_
   refine sx_rd 33 (.int .i64 ((i : Int) + w)) (by rfl) (by kernel_rfl) ?_
   refine sx_rd 4 (.int .i64 (-1)) (by rfl) (by kernel_rfl) ?_
   refine sx_rd 5 (.int .i64 ((i : Int) + w)) (by rfl) (by kernel_rfl) ?_
   refine sx_nil ?_
   refine ex_then_n ?_
   refine wp_ret ?_
   refine sx_end (.tuple #[.int .i64 (-1), .int .i64 ((i : Int) + w)]) (res2 4 5 (by rfl)) ?_
   have hE : nearE w (i : Int) = (-1) := by unfold nearE; rw [if_neg (by omega)]
   have hS : nearS w n (i : Int) = ((i : Int) + w) := by unfold nearS; rw [if_pos (by omega)]
   exact ⟨by rw [hE, hS], hp.tail⟩
  ·
   have c_6p := of_decide_eq_false c_6
   refine wp_skip ?_
   refine ex_then_n ?_
   refine wp_seq ?_
   refine sx_region ?_
   refine sx_rd 32 (.int .i64 (-1)) (by rfl) (by kernel_rfl) ?_
   refine sx_rd 33 (.int .i64 (-1)) (by rfl) (by kernel_rfl) ?_
   refine sx_rd 4 (.int .i64 (-1)) (by rfl) (by kernel_rfl) ?_
   refine sx_rd 5 (.int .i64 (-1)) (by rfl) (by kernel_rfl) ?_
   refine sx_nil ?_
   refine ex_then_n ?_
   refine wp_ret ?_
   refine sx_end (.tuple #[.int .i64 (-1), .int .i64 (-1)]) (res2 4 5 (by rfl)) ?_
   have hE : nearE w (i : Int) = (-1) := by unfold nearE; rw [if_neg (by omega)]
   have hS : nearS w n (i : Int) = (-1) := by unfold nearS; rw [if_neg (by omega)]
   exact ⟨by rw [hE, hS], hp.tail⟩
theorem back_eq {l l2 : Int} (h : (l = 101 ∧ l2 = 119) ∨ (l = 115 ∧ l2 = 110)) : spec_taBack.f l = some l2 := by
 rcases h with ⟨rfl, rfl⟩ | ⟨rfl, rfl⟩ <;> rfl
set_option maxRecDepth 100000 in
set_option maxHeartbeats 40000000 in
theorem put_of (d : Nat) (hIH : LookOk d) : PutOk d := by
 intro w0 W cs g gL w h n b i j l l2 c AG nG cG cL FL Af nf cf hw1 hw2 hh1 hh2 hwh hn hbn hi hbi hj hl hdn hc0 hcb hfd hp
 obtain ⟨hj1, hj2, hj3⟩ := hj
 refine sx_enter (N := 100) (l := [.pointer (some ⟨g, 0, none⟩), .int .i64 (i : Int), .int .i64 j, .int .u8 l]) Try.func65 rfl rfl rfl ?_
 refine wp_seq ?_
 refine wp_seq ?_
 rcases Bool.eq_false_or_eq_true (decide (j < 0)) with c_1 | c_1
 ·
  have c_1p := of_decide_eq_true c_1
  refine sx_region ?_
  refine sx_rd 10 (.int .i64 j) (by rfl) (by kernel_rfl) ?_
  refine sx_rd 11 (.bool true) (by rfl) (bv c_1 (by kernel_rfl)) ?_
  refine sx_rd 12 (.bool true) (by rfl) (by kernel_rfl) ?_
  refine sx_skip 13 (by rfl) (by rfl) (by rfl) ?_
  refine sx_skip 14 (by rfl) (by rfl) (by rfl) ?_
  refine sx_skip 15 (by rfl) (by rfl) (by rfl) ?_
  refine sx_skip 16 (by rfl) (by rfl) (by rfl) ?_
  refine sx_skip 17 (by rfl) (by rfl) (by rfl) ?_
  refine sx_skip 18 (by rfl) (by rfl) (by rfl) ?_
  refine sx_skip 19 (by rfl) (by rfl) (by rfl) ?_
  refine sx_skip 20 (by rfl) (by rfl) (by rfl) ?_
  refine sx_rd 21 (.bool true) (by rfl) (by kernel_rfl) ?_
  refine sx_nil ?_
  refine ex_then_n ?_
  refine sx_then true (by rfl) rfl ?_
  refine wp_ret ?_
  refine ex_then_r ?_
  refine sx_end (.tuple #[]) (res0 (by rfl)) ?_
  have hpc : putC w (n : Int) d b i j l l2 = 0 := by unfold putC; rw [if_neg (fun q => by omega)]
  rw [hpc, Int.add_zero]
  exact ⟨_, _, _, _, rfl, hfd, (hp.take [0, 1] 2 (by decide) (by simp))⟩
 ·
  have c_1p := of_decide_eq_false c_1
  refine sx_region ?_
  refine sx_rd 10 (.int .i64 j) (by rfl) (by kernel_rfl) ?_
  refine sx_rd 11 (.bool false) (by rfl) (bv c_1 (by kernel_rfl)) ?_
  refine sx_rd 12 (.bool false) (by rfl) (by kernel_rfl) ?_
  refine sx_want (by rfl) ?_
  refine sx_rd 13 (.pointer (some ⟨g, 0, none⟩)) (by rfl) (by kernel_rfl) ?_
  refine sx_want (by rfl) ?_
  refine sx_rd 14 (.pointer (some ⟨g, 0, none⟩)) (by rfl) (by kernel_rfl) ?_
  refine sx_want (by rfl) ?_
  refine sx_rd 15 (.pointer (some ⟨g, 5, none⟩)) (by rfl) (by kernel_rfl) ?_
  refine sx_want (by rfl) ?_
  refine sx_rd 16 (.slice (some ⟨gL, 0, none⟩) n cL) (by rfl) (ld1 (t := 60) (p := (.tmp 15)) (by rfl) (by rfl) (by kernel_rfl) (hp.cell 0 (by rfl) 5 _ (by rfl))) ?_
  refine sx_want (by rfl) ?_
  refine sx_rd 17 (.int .i64 j) (by rfl) (by kernel_rfl) ?_
  refine sx_want (by rfl) ?_
  refine sx_rd 18 (.pointer (some (adr (some ⟨gL, 0, none⟩) j 1))) (by rfl) (ix_run (d := (Kd.int .u8)) (row_Cn (hp.at_ 1 _ (by rfl))) (t := 60) (by rfl) (by rfl) (by rfl) Try.underlying60 (by kernel_rfl) (by omega) (by omega)) ?_
  refine sx_want (by rfl) ?_
  refine sx_rd 19 (.int .u8 (rd b j)) (by rfl) (ld1 (t := 5) (p := (.tmp 18)) (by rfl) (by rfl) (by kernel_rfl) (el_cell (d := (Kd.int .u8)) (row_C (hp.at_ 1 _ (by rfl))) 0 j (by omega) (by omega) (cells := [.int .u8 (rd b j)]) (fun cs h => h) 0 _ (by rfl))) ?_
  refine sx_want (by rfl) ?_
  refine sx_rd 20 (.bool ((rd b j) != 0)) (by rfl) (by kernel_rfl) ?_
  refine sx_rd 21 (.bool ((rd b j) != 0)) (by rfl) (by kernel_rfl) ?_
  refine sx_nil ?_
  refine ex_then_n ?_
  refine sx_cond ((rd b j) != 0) (by rfl) (fun c_2 => ?_) (fun c_2 => ?_)
  ·
   have c_2p := ne_of_bne_ c_2
   refine wp_ret ?_
   refine ex_then_r ?_
   refine sx_end (.tuple #[]) (res0 (by rfl)) ?_
   have hpc : putC w (n : Int) d b i j l l2 = 0 := by unfold putC; rw [if_neg (fun q => by have q2 := c_2; simp at q2; exact q2 q.2)]
   rw [hpc, Int.add_zero]
   exact ⟨_, _, _, _, rfl, hfd, (hp.take [0, 1] 2 (by decide) (by simp))⟩
  ·
   have c_2p := eq_of_bne_ c_2
   refine wp_skip ?_
   refine ex_then_n ?_
   refine wp_seq ?_
   refine sx_region ?_
   refine sx_rd 22 (.pointer (some ⟨g, 0, none⟩)) (by rfl) (by kernel_rfl) ?_
   refine sx_rd 23 (.pointer (some ⟨g, 0, none⟩)) (by rfl) (by kernel_rfl) ?_
   refine sx_rd 24 (.pointer (some ⟨g, 4, none⟩)) (by rfl) (by kernel_rfl) ?_
   refine sx_rd 25 (.slice none 0 0) (by rfl) (ld1 (t := 39) (p := (.tmp 24)) (by rfl) (by rfl) (by kernel_rfl) (hp.cell 0 (by rfl) 4 _ (by rfl))) ?_
   refine sx_rd 8 (.slice none 0 0) (by rfl) (by kernel_rfl) ?_
   refine sx_nil ?_
   refine ex_then_n ?_
   refine wp_seq ?_
   refine wp_seq ?_
   refine sx_region ?_
   refine sx_rd 26 (.pointer (some ⟨g, 0, none⟩)) (by rfl) (by kernel_rfl) ?_
   refine sx_rd 27 (.pointer (some ⟨g, 0, none⟩)) (by rfl) (by kernel_rfl) ?_
   refine sx_rd 28 (.pointer (some ⟨g, 3, none⟩)) (by rfl) (by kernel_rfl) ?_
   refine sx_rd 29 (.bool true) (by rfl) (ld1 (t := 4) (p := (.tmp 28)) (by rfl) (by rfl) (by kernel_rfl) (hp.cell 0 (by rfl) 3 _ (by rfl))) ?_
   refine sx_rd 30 (.bool false) (by rfl) (by kernel_rfl) ?_
   refine sx_nil ?_
   refine ex_then_n ?_
   refine sx_else false (by rfl) rfl ?_
   refine wp_skip ?_
   refine ex_then_n ?_
   refine wp_seq ?_
   refine sx_region ?_
   refine sx_rd 65 (.pointer (some ⟨g, 0, none⟩)) (by rfl) (by kernel_rfl) ?_
   refine sx_rd 66 (.pointer (some ⟨g, 0, none⟩)) (by rfl) (by kernel_rfl) ?_
   refine sx_rd 67 (.pointer (some ⟨g, 5, none⟩)) (by rfl) (by kernel_rfl) ?_
   refine sx_rd 68 (.slice (some ⟨gL, 0, none⟩) n cL) (by rfl) (ld1 (t := 60) (p := (.tmp 67)) (by rfl) (by rfl) (by kernel_rfl) (hp.cell 0 (by rfl) 5 _ (by rfl))) ?_
   refine sx_rd 69 (.int .i64 (i : Int)) (by rfl) (by kernel_rfl) ?_
   refine sx_rd 70 (.int .u8 l) (by rfl) (by kernel_rfl) ?_
   refine sx_rd 71 (.pointer (some (adr (some ⟨gL, 0, none⟩) (i : Int) 1))) (by rfl) (ix_run (d := (Kd.int .u8)) (row_Cn (hp.at_ 1 _ (by rfl))) (t := 60) (by rfl) (by rfl) (by rfl) Try.underlying60 (by kernel_rfl) (by omega) (by omega)) ?_
   refine sx_rowstore (t := 5) (p := (.tmp 71)) (x := (.tmp 70)) (by rfl) (by rfl) 1 (Kd.int .u8) (by rfl) (i : Int) l [.int .u8 l] (by rfl) (by rfl) (by kernel_rfl) (by simp [Value.oneCell']) (by rfl) (by omega) (by omega) 0 (fun _ => rfl) hp ?_
   intro F_3 W_4 hp; simp only [List.set_cons_succ, List.set_cons_zero] at hp
   refine sx_nil ?_
   refine ex_then_n ?_
   refine wp_seq ?_
   refine sx_drawT [0, 1, 2, 4, 5] (.rd 3 (.alt 6 (.rd 7 (.fin)) .non)) 8 (C := Hp w0 (blk g #[.int .i64 w, .int .i64 h, .slice AG nG cG, .bool true, .slice none 0 0, .slice (some ⟨gL, 0, none⟩) n cL, .slice Af nf cf, .int .i64 c, .int .i64 0] 63 :: row (Kd.int .u8) 5 w0.heap.size (.slice (some ⟨gL, 0, none⟩) n cL) (b.set ((i : Int)).toNat l) F_3 :: cs)) (by kernel_rfl) (by kernel_rfl) (fun d _ _ _ _ h => by cases d <;> exact h) (fun W h => h.drew) hp ?_
   refine preI_read rfl ?_
   refine sxq_val 72 (.pointer (some ⟨g, 0, none⟩)) (by rfl) (fun W _ => (by kernel_rfl)) ?_
   refine sxq_nil ?_
   refine preI_read rfl ?_
   refine sxq_val 73 (.pointer (some ⟨g, 0, none⟩)) (by rfl) (fun W _ => (by kernel_rfl)) ?_
   refine sxq_nil ?_
   refine preI_read rfl ?_
   refine sxq_val 74 (.pointer (some ⟨g, 5, none⟩)) (by rfl) (fun W _ => (by kernel_rfl)) ?_
   refine sxq_nil ?_
   refine preI_read rfl ?_
   refine sxq_val 76 (.int .i64 j) (by rfl) (fun W _ => (by kernel_rfl)) ?_
   refine sxq_nil ?_
   refine preI_read rfl ?_
   refine sxq_val 77 (.int .u8 l) (by rfl) (fun W _ => (by kernel_rfl)) ?_
   refine sxq_nil ?_
   refine preI_nil ?_
   intro W_5 hp
   refine treeI_rd rfl ?_
   refine sxq_val 75 (.slice (some ⟨gL, 0, none⟩) n cL) (by rfl) (fun W hp => (ld1 (t := 60) (p := (.tmp 74)) (by rfl) (by rfl) (by kernel_rfl) (hp.cell 0 (by rfl) 5 _ (by rfl)))) ?_
   refine sxq_nil ?_
   refine treeI_ev rfl ?_
   refine sx_call 78 (by rfl) (by kernel_rfl) ((spec_taBack.calls l _ _ (back_eq hl)).mono ?_)
   rintro _ W_6 ⟨rfl, hb⟩
   refine ⟨_, rfl, ?_⟩
   replace hp := hp.below hb.below
   clear hb
   refine step_fin hp ?_
   refine treeI_rd rfl ?_
   refine sxq_val 79 (.pointer (some (adr (some ⟨gL, 0, none⟩) j 1))) (by rfl) (fun W hp => (ix_run (d := (Kd.int .u8)) (row_Cn (hp.at_ 1 _ (by rfl))) (t := 60) (by rfl) (by rfl) (by rfl) Try.underlying60 (by kernel_rfl) (by omega) (by omega))) ?_
   refine sxq_nil ?_
   refine treeI_fin ?_
   refine tail_of [8] (by rfl) ?_
   refine tailI_op rfl ?_
   refine sx_rowstore (t := 5) (p := (.tmp 79)) (x := (.tmp 78)) (by rfl) (by rfl) 1 (Kd.int .u8) (by rfl) j l2 [.int .u8 l2] (by rfl) (by rfl) (by kernel_rfl) (by simp [Value.oneCell']) (by rfl) (by omega) (by omega) 0 (fun _ => rfl) hp ?_
   intro F_7 W_8 hp; simp only [List.set_cons_succ, List.set_cons_zero] at hp
   refine tailI_next ?_
   refine tailI_nil ?_
   refine ex_then_n ?_
   refine wp_seq ?_
   refine sx_region ?_
   refine sx_rd 80 (.pointer (some ⟨g, 0, none⟩)) (by rfl) (by kernel_rfl) ?_
   refine sx_rd 81 (.int .i64 (i : Int)) (by rfl) (by kernel_rfl) ?_
   refine sx_rd 82 (.int .i64 ((i : Int) + 1)) (by rfl) (wr_ok (by omega) (by kernel_rfl)) ?_
   refine sx_call 83 (by rfl) (by kernel_rfl) ((hIH w0 _ (cs) g gL w h n ((b.set ((i : Int)).toNat l).set (j).toNat l2) (i + 1) c AG nG cG cL F_7 Af nf cf hw1 hw2 hh1 hh2 hwh hn (by simp; omega) (by omega) (by omega) hc0 hcb hfd (hp.take [0, 1] 2 (by decide) (by simp))).mono ?_)
   rintro _ W_9 ⟨FL2, Af2, nf2, cf2, rfl, hfd2, hp⟩
   refine ⟨_, rfl, ?_⟩
   refine sx_nil ?_
   refine ex_then_n ?_
   refine wp_seq ?_
   refine sx_region ?_
   refine sx_rd 84 (.pointer (some ⟨g, 0, none⟩)) (by rfl) (by kernel_rfl) ?_
   refine sx_rd 85 (.pointer (some ⟨g, 0, none⟩)) (by rfl) (by kernel_rfl) ?_
   refine sx_rd 86 (.pointer (some ⟨g, 5, none⟩)) (by rfl) (by kernel_rfl) ?_
   refine sx_rd 87 (.slice (some ⟨gL, 0, none⟩) n cL) (by rfl) (ld1 (t := 60) (p := (.tmp 86)) (by rfl) (by rfl) (by kernel_rfl) (hp.cell 0 (by rfl) 5 _ (by rfl))) ?_
   refine sx_rd 88 (.int .i64 (i : Int)) (by rfl) (by kernel_rfl) ?_
   refine sx_rd 89 (.pointer (some (adr (some ⟨gL, 0, none⟩) (i : Int) 1))) (by rfl) (ix_run (d := (Kd.int .u8)) (row_Cn (hp.at_ 1 _ (by rfl))) (t := 60) (by rfl) (by rfl) (by rfl) Try.underlying60 (by kernel_rfl) (by omega) (by omega)) ?_
   refine sx_rowstore (t := 5) (p := (.tmp 89)) (x := (.const (Go.Value.int Go.IntKind.u8 0))) (by rfl) (by rfl) 1 (Kd.int .u8) (by rfl) (i : Int) 0 [.int .u8 0] (by rfl) (by rfl) (by kernel_rfl) (by simp [Value.oneCell']) (by rfl) (by omega) (by omega) 0 (fun _ => rfl) hp ?_
   intro F_10 W_11 hp; simp only [List.set_cons_succ, List.set_cons_zero] at hp
   refine sx_nil ?_
   refine ex_then_n ?_
   refine wp_seq ?_
   refine sx_region ?_
   refine sx_rd 90 (.pointer (some ⟨g, 0, none⟩)) (by rfl) (by kernel_rfl) ?_
   refine sx_rd 91 (.pointer (some ⟨g, 0, none⟩)) (by rfl) (by kernel_rfl) ?_
   refine sx_rd 92 (.pointer (some ⟨g, 5, none⟩)) (by rfl) (by kernel_rfl) ?_
   refine sx_rd 93 (.slice (some ⟨gL, 0, none⟩) n cL) (by rfl) (ld1 (t := 60) (p := (.tmp 92)) (by rfl) (by rfl) (by kernel_rfl) (hp.cell 0 (by rfl) 5 _ (by rfl))) ?_
   refine sx_rd 94 (.int .i64 j) (by rfl) (by kernel_rfl) ?_
   refine sx_rd 95 (.pointer (some (adr (some ⟨gL, 0, none⟩) j 1))) (by rfl) (ix_run (d := (Kd.int .u8)) (row_Cn (hp.at_ 1 _ (by rfl))) (t := 60) (by rfl) (by rfl) (by rfl) Try.underlying60 (by kernel_rfl) (by omega) (by omega)) ?_
   refine sx_rowstore (t := 5) (p := (.tmp 95)) (x := (.const (Go.Value.int Go.IntKind.u8 0))) (by rfl) (by rfl) 1 (Kd.int .u8) (by rfl) j 0 [.int .u8 0] (by rfl) (by rfl) (by kernel_rfl) (by simp [Value.oneCell']) (by rfl) (by omega) (by omega) 0 (fun _ => rfl) hp ?_
   intro F_12 W_13 hp; simp only [List.set_cons_succ, List.set_cons_zero] at hp
   refine sx_nil ?_
   refine ex_then_n ?_
   refine sx_region ?_
   refine sx_rd 96 (.pointer (some ⟨g, 0, none⟩)) (by rfl) (by kernel_rfl) ?_
   refine sx_rd 97 (.slice none 0 0) (by rfl) (by kernel_rfl) ?_
   refine sx_rd 98 (.pointer (some ⟨g, 0, none⟩)) (by rfl) (by kernel_rfl) ?_
   refine sx_rd 99 (.pointer (some ⟨g, 4, none⟩)) (by rfl) (by kernel_rfl) ?_
   refine sx_store (t := 39) (p := (.tmp 99)) (x := (.tmp 97)) (by rfl) (by rfl) 0 (by rfl) 4 [.slice none 0 0] (by rfl) (by rfl) (by kernel_rfl) (by simp [Value.oneCell']) (by show 5 ≤ 9; omega) #[.int .i64 w, .int .i64 h, .slice AG nG cG, .bool true, .slice none 0 0, .slice (some ⟨gL, 0, none⟩) n cL, .slice Af2 nf2 cf2, .int .i64 (c + cntT w (n : Int) d ((b.set ((i : Int)).toNat l).set (j).toNat l2) (i + 1)), .int .i64 0] (by rfl) hp ?_
   intro W_14 hp; simp only [List.set_cons_succ, List.set_cons_zero] at hp
   refine sx_nil ?_
   refine sx_end_n (.tuple #[]) (res0 (by rfl)) ?_
   have hit : 0 ≤ j ∧ rd b j = 0 := ⟨by omega, by simpa using c_2⟩
   have hbk : ((((b.set ((i : Int)).toNat l).set (j).toNat l2).set ((i : Int)).toNat 0).set (j).toNat 0) = b := set_back b ((i : Int)).toNat (j).toNat l l2 (by omega) (by omega) (by rw [Int.toNat_natCast]; exact hbi) (by rw [Int.toNat_of_nonneg hit.1]; exact hit.2)
   have hpc : putC w (n : Int) d b i j l l2 = cntT w (n : Int) d ((b.set ((i : Int)).toNat l).set (j).toNat l2) (i + 1) := by unfold putC; rw [if_pos hit]; rfl
   have hq := (hp.take [0, 1] 2 (by decide) (by simp))
   rw [hbk] at hq
   rw [hpc]
   exact ⟨_, _, _, _, rfl, hfd2, hq⟩
set_option maxRecDepth 100000 in
set_option maxHeartbeats 40000000 in
theorem look_of (d : Nat) (hP : PutOk d) : LookOk (d + 1) := by
 intro w0 W cs g gL w h n b a c AG nG cG cL FL Af nf cf hw1 hw2 hh1 hh2 hwh hn hbn han hdn hc0 hcb hfd hp
 simp only [P2] at hcb
 have hP2 := P2_pos d
 refine sx_enter (N := 81) (l := [.pointer (some ⟨g, 0, none⟩), .int .i64 (a : Int)]) Try.func34 rfl rfl rfl ?_
 refine wp_seq ?_
 refine wp_block ?_
 refine wp_loop_ghost (fun n_ a_ W => ∃ (r_ : List (Nat × Value)) (i : Nat) , n_ = n - i ∧ a_ = fr 81 ([(0, .pointer (some ⟨g, 0, none⟩)), (1, .int .i64 (i : Int))] ++ r_) ∧ Hp w0 (blk g #[.int .i64 w, .int .i64 h, .slice AG nG cG, .bool true, .slice none 0 0, .slice (some ⟨gL, 0, none⟩) n cL, .slice Af nf cf, .int .i64 c, .int .i64 0] 63 :: row (Kd.int .u8) 5 w0.heap.size (.slice (some ⟨gL, 0, none⟩) n cL) b FL :: cs) W ∧ (i ≤ n) ∧ (a ≤ i) ∧ (∀ j, a ≤ j → j < i → rd b (j : Int) ≠ 0)) _ ⟨_, a, rfl, fr_front [(0, .pointer (some ⟨g, 0, none⟩)), (1, .int .i64 ((a : Nat) : Int))] ⟨rfl, rfl, trivial⟩, (hp.take [0, 1] 2 (by decide) (by simp)), (by omega), (Nat.le_refl _), (fun j h1 h2 => absurd h1 (by omega))⟩ ?_
 rintro _ _ W_1 ⟨r_, i, rfl, rfl, hp, hi, hai, hsk⟩
 refine wp_seq ?_
 refine wp_seq ?_
 rcases Bool.eq_false_or_eq_true (decide ((i : Int) < (n : Int))) with c_2 | c_2
 ·
  have c_2p := of_decide_eq_true c_2
  refine sx_region ?_
  refine sx_rd 6 (.int .i64 (i : Int)) (by rfl) (by kernel_rfl) ?_
  refine sx_rd 7 (.pointer (some ⟨g, 0, none⟩)) (by rfl) (by kernel_rfl) ?_
  refine sx_rd 8 (.pointer (some ⟨g, 0, none⟩)) (by rfl) (by kernel_rfl) ?_
  refine sx_rd 9 (.pointer (some ⟨g, 5, none⟩)) (by rfl) (by kernel_rfl) ?_
  refine sx_rd 10 (.slice (some ⟨gL, 0, none⟩) n cL) (by rfl) (ld1 (t := 60) (p := (.tmp 9)) (by rfl) (by rfl) (by kernel_rfl) (hp.cell 0 (by rfl) 5 _ (by rfl))) ?_
  refine sx_rd 11 (.int .i64 (n : Int)) (by rfl) (by kernel_rfl) ?_
  refine sx_rd 12 (.bool true) (by rfl) (bv c_2 (by kernel_rfl)) ?_
  refine sx_rd 13 (.bool true) (by rfl) (by kernel_rfl) ?_
  refine sx_want (by rfl) ?_
  refine sx_rd 14 (.pointer (some ⟨g, 0, none⟩)) (by rfl) (by kernel_rfl) ?_
  refine sx_want (by rfl) ?_
  refine sx_rd 15 (.pointer (some ⟨g, 0, none⟩)) (by rfl) (by kernel_rfl) ?_
  refine sx_want (by rfl) ?_
  refine sx_rd 16 (.pointer (some ⟨g, 5, none⟩)) (by rfl) (by kernel_rfl) ?_
  refine sx_want (by rfl) ?_
  refine sx_rd 17 (.slice (some ⟨gL, 0, none⟩) n cL) (by rfl) (ld1 (t := 60) (p := (.tmp 16)) (by rfl) (by rfl) (by kernel_rfl) (hp.cell 0 (by rfl) 5 _ (by rfl))) ?_
  refine sx_want (by rfl) ?_
  refine sx_rd 18 (.int .i64 (i : Int)) (by rfl) (by kernel_rfl) ?_
  refine sx_want (by rfl) ?_
  refine sx_rd 19 (.pointer (some (adr (some ⟨gL, 0, none⟩) (i : Int) 1))) (by rfl) (ix_run (d := (Kd.int .u8)) (row_Cn (hp.at_ 1 _ (by rfl))) (t := 60) (by rfl) (by rfl) (by rfl) Try.underlying60 (by kernel_rfl) (by omega) (by omega)) ?_
  refine sx_want (by rfl) ?_
  refine sx_rd 20 (.int .u8 (rd b (i : Int))) (by rfl) (ld1 (t := 5) (p := (.tmp 19)) (by rfl) (by rfl) (by kernel_rfl) (el_cell (d := (Kd.int .u8)) (row_C (hp.at_ 1 _ (by rfl))) 0 (i : Int) (by omega) (by omega) (cells := [.int .u8 (rd b (i : Int))]) (fun cs h => h) 0 _ (by rfl))) ?_
  refine sx_want (by rfl) ?_
  refine sx_rd 21 (.bool ((rd b (i : Int)) != 0)) (by rfl) (by kernel_rfl) ?_
  refine sx_rd 22 (.bool ((rd b (i : Int)) != 0)) (by rfl) (by kernel_rfl) ?_
  refine sx_nil ?_
  refine ex_then_n ?_
  refine sx_cond ((rd b (i : Int)) != 0) (by rfl) (fun c_3 => ?_) (fun c_3 => ?_)
  ·
   have c_3p := ne_of_bne_ c_3
   refine wp_skip ?_
   refine ex_then_n ?_
   refine wp_block ?_
   refine sx_region ?_
   refine sx_rd 23 (.int .i64 (i : Int)) (by rfl) (by kernel_rfl) ?_
   refine sx_rd 24 (.int .i64 ((i : Int) + 1)) (by rfl) (wr_ok (by omega) (by kernel_rfl)) ?_
   refine sx_rd 1 (.int .i64 ((i : Int) + 1)) (by rfl) (by kernel_rfl) ?_
   refine sx_nil ?_
   refine ex_blk_n ?_
   refine ex_then_n ?_
   exact ⟨_, (by omega), _, (i + 1), rfl, fr_front [(0, .pointer (some ⟨g, 0, none⟩)), (1, .int .i64 ((i + 1 : Nat) : Int))] ⟨rfl, rfl, trivial⟩, (hp.take [0, 1] 2 (by decide) (by simp)), (by omega), (by omega), (fun j h1 h2 => by rcases Nat.lt_succ_iff_lt_or_eq.1 h2 with q | rfl; exact hsk j h1 q; have q := c_3; simpa using q)⟩
  ·
   have c_3p := eq_of_bne_ c_3
   refine wp_exit ?_
   refine ex_then_e (ex_then_e (ex_blk_here ?_))
   refine ex_then_n ?_
   refine wp_seq ?_
   refine wp_seq ?_
   refine sx_region ?_
   refine sx_rd 25 (.int .i64 (i : Int)) (by rfl) (by kernel_rfl) ?_
   refine sx_rd 26 (.pointer (some ⟨g, 0, none⟩)) (by rfl) (by kernel_rfl) ?_
   refine sx_rd 27 (.pointer (some ⟨g, 0, none⟩)) (by rfl) (by kernel_rfl) ?_
   refine sx_rd 28 (.pointer (some ⟨g, 5, none⟩)) (by rfl) (by kernel_rfl) ?_
   refine sx_rd 29 (.slice (some ⟨gL, 0, none⟩) n cL) (by rfl) (ld1 (t := 60) (p := (.tmp 28)) (by rfl) (by rfl) (by kernel_rfl) (hp.cell 0 (by rfl) 5 _ (by rfl))) ?_
   refine sx_rd 30 (.int .i64 (n : Int)) (by rfl) (by kernel_rfl) ?_
   refine sx_rd 31 (.bool ((i : Int) == (n : Int))) (by rfl) (by kernel_rfl) ?_
   refine sx_nil ?_
   refine ex_then_n ?_
   refine sx_cond ((i : Int) == (n : Int)) (by rfl) (fun c_4 => ?_) (fun c_4 => ?_)
   ·
    have c_4p := eq_of_beq_ c_4
    refine wp_seq ?_
    refine sx_region ?_
    refine sx_rd 32 (.pointer (some ⟨g, 0, none⟩)) (by rfl) (by kernel_rfl) ?_
    refine sx_rd 33 (.pointer (some ⟨g, 0, none⟩)) (by rfl) (by kernel_rfl) ?_
    refine sx_rd 34 (.pointer (some ⟨g, 7, none⟩)) (by rfl) (by kernel_rfl) ?_
    refine sx_rd 35 (.int .i64 c) (by rfl) (ld1 (t := 3) (p := (.tmp 34)) (by rfl) (by rfl) (by kernel_rfl) (hp.cell 0 (by rfl) 7 _ (by rfl))) ?_
    refine sx_rd 36 (.int .i64 (c + 1)) (by rfl) (wr_ok (by omega) (by kernel_rfl)) ?_
    refine sx_rd 37 (.pointer (some ⟨g, 0, none⟩)) (by rfl) (by kernel_rfl) ?_
    refine sx_rd 38 (.pointer (some ⟨g, 7, none⟩)) (by rfl) (by kernel_rfl) ?_
    refine sx_store (t := 3) (p := (.tmp 38)) (x := (.tmp 36)) (by rfl) (by rfl) 0 (by rfl) 7 [.int .i64 (c + 1)] (by rfl) (by rfl) (by kernel_rfl) (by simp [Value.oneCell']) (by show 8 ≤ 9; omega) #[.int .i64 w, .int .i64 h, .slice AG nG cG, .bool true, .slice none 0 0, .slice (some ⟨gL, 0, none⟩) n cL, .slice Af nf cf, .int .i64 (c + 1), .int .i64 0] (by rfl) hp ?_
    intro W_5 hp; simp only [List.set_cons_succ, List.set_cons_zero] at hp
    refine sx_nil ?_
    refine ex_then_n ?_
    refine wp_seq ?_
    refine wp_seq ?_
    refine sx_drawT [0, 1, 2, 5, 6, 7] (.rd 3 (.rd 4 (.rd 8 (.rd 9 (.fin))))) 10 (C := Hp w0 (blk g #[.int .i64 w, .int .i64 h, .slice AG nG cG, .bool true, .slice none 0 0, .slice (some ⟨gL, 0, none⟩) n cL, .slice Af nf cf, .int .i64 (c + 1), .int .i64 0] 63 :: row (Kd.int .u8) 5 w0.heap.size (.slice (some ⟨gL, 0, none⟩) n cL) b FL :: cs)) (by kernel_rfl) (by kernel_rfl) (fun d _ _ _ _ h => by cases d <;> exact h) (fun W h => h.drew) hp ?_
    refine preI_read rfl ?_
    refine sxq_val 39 (.pointer (some ⟨g, 0, none⟩)) (by rfl) (fun W _ => (by kernel_rfl)) ?_
    refine sxq_nil ?_
    refine preI_read rfl ?_
    refine sxq_val 40 (.pointer (some ⟨g, 0, none⟩)) (by rfl) (fun W _ => (by kernel_rfl)) ?_
    refine sxq_nil ?_
    refine preI_read rfl ?_
    refine sxq_val 41 (.pointer (some ⟨g, 6, none⟩)) (by rfl) (fun W _ => (by kernel_rfl)) ?_
    refine sxq_nil ?_
    refine preI_read rfl ?_
    refine sxq_val 44 (.pointer (some ⟨g, 0, none⟩)) (by rfl) (fun W _ => (by kernel_rfl)) ?_
    refine sxq_nil ?_
    refine preI_read rfl ?_
    refine sxq_val 45 (.pointer (some ⟨g, 0, none⟩)) (by rfl) (fun W _ => (by kernel_rfl)) ?_
    refine sxq_nil ?_
    refine preI_read rfl ?_
    refine sxq_val 46 (.pointer (some ⟨g, 8, none⟩)) (by rfl) (fun W _ => (by kernel_rfl)) ?_
    refine sxq_nil ?_
    refine preI_nil ?_
    intro W_6 hp
    refine treeI_rd rfl ?_
    refine sxq_val 42 (.slice Af nf cf) (by rfl) (fun W hp => (ld1 (t := 61) (p := (.tmp 41)) (by rfl) (by rfl) (by kernel_rfl) (hp.cell 0 (by rfl) 6 _ (by rfl)))) ?_
    refine sxq_nil ?_
    refine treeI_rd rfl ?_
    refine sxq_val 43 (.int .i64 (nf : Int)) (by rfl) (fun W hp => (by kernel_rfl)) ?_
    refine sxq_nil ?_
    refine treeI_rd rfl ?_
    refine sxq_val 47 (.int .i64 0) (by rfl) (fun W hp => (ld1 (t := 3) (p := (.tmp 46)) (by rfl) (by rfl) (by kernel_rfl) (hp.cell 0 (by rfl) 8 _ (by rfl)))) ?_
    refine sxq_nil ?_
    refine treeI_rd rfl ?_
    refine sxq_val 48 (.bool (decide ((nf : Int) ≤ 0))) (by rfl) (fun W hp => (by kernel_rfl)) ?_
    refine sxq_nil ?_
    refine treeI_fin ?_
    refine sx_nil ?_
    refine ex_then_n ?_
    refine sx_cond (decide ((nf : Int) ≤ 0)) (by rfl) (fun c_7 => ?_) (fun c_7 => ?_)
    ·
     have c_7p := of_decide_eq_true c_7
     obtain rfl : nf = 0 := by omega
     obtain ⟨rfl, rfl⟩ := hfd rfl
     refine sx_drawT [0, 1, 2, 3, 6, 7, 8] (.rd 4 (.rd 9 (.alt 5 (.alt 10 (.alt 11 (.fin) .non) .non) .non))) 12 (C := Hp w0 (blk g #[.int .i64 w, .int .i64 h, .slice AG nG cG, .bool true, .slice none 0 0, .slice (some ⟨gL, 0, none⟩) n cL, .slice none 0 0, .int .i64 (c + 1), .int .i64 0] 63 :: row (Kd.int .u8) 5 w0.heap.size (.slice (some ⟨gL, 0, none⟩) n cL) b FL :: cs)) (by kernel_rfl) (by kernel_rfl) (fun d _ _ _ _ h => by cases d <;> exact h) (fun W h => h.drew) hp ?_
     refine preI_read rfl ?_
     refine sxq_val 49 (.pointer (some ⟨g, 0, none⟩)) (by rfl) (fun W _ => (by kernel_rfl)) ?_
     refine sxq_nil ?_
     refine preI_read rfl ?_
     refine sxq_val 50 (.pointer (some ⟨g, 0, none⟩)) (by rfl) (fun W _ => (by kernel_rfl)) ?_
     refine sxq_nil ?_
     refine preI_read rfl ?_
     refine sxq_val 51 (.pointer (some ⟨g, 0, none⟩)) (by rfl) (fun W _ => (by kernel_rfl)) ?_
     refine sxq_nil ?_
     refine preI_read rfl ?_
     refine sxq_val 52 (.pointer (some ⟨g, 6, none⟩)) (by rfl) (fun W _ => (by kernel_rfl)) ?_
     refine sxq_nil ?_
     refine preI_read rfl ?_
     refine sxq_val 55 (.pointer (some ⟨g, 0, none⟩)) (by rfl) (fun W _ => (by kernel_rfl)) ?_
     refine sxq_nil ?_
     refine preI_read rfl ?_
     refine sxq_val 56 (.pointer (some ⟨g, 0, none⟩)) (by rfl) (fun W _ => (by kernel_rfl)) ?_
     refine sxq_nil ?_
     refine preI_read rfl ?_
     refine sxq_val 57 (.pointer (some ⟨g, 5, none⟩)) (by rfl) (fun W _ => (by kernel_rfl)) ?_
     refine sxq_nil ?_
     refine preI_nil ?_
     intro W_8 hp
     refine treeI_rd rfl ?_
     refine sxq_val 53 (.slice none 0 0) (by rfl) (fun W hp => (ld1 (t := 61) (p := (.tmp 52)) (by rfl) (by rfl) (by kernel_rfl) (hp.cell 0 (by rfl) 6 _ (by rfl)))) ?_
     refine sxq_nil ?_
     refine treeI_rd rfl ?_
     refine sxq_val 58 (.slice (some ⟨gL, 0, none⟩) n cL) (by rfl) (fun W hp => (ld1 (t := 60) (p := (.tmp 57)) (by rfl) (by rfl) (by kernel_rfl) (hp.cell 0 (by rfl) 5 _ (by rfl)))) ?_
     refine sxq_nil ?_
     refine treeI_ev rfl ?_
     refine sx_lit 54 (by rfl) (Kd.int .u8) w0.heap.size 5 ([] : List Int) [] (fun W => by kernel_rfl) (Reps.none _ _) (by simp) hp.size hp ?_
     intro g_9 F_10 W_11 hp hz; clear hz
     refine step_fin hp.tail ?_
     refine treeI_ev rfl ?_
     refine sx_append 59 (by rfl) (Kd.int .u8) 0 (by rfl) (.int .u8 0) 1 (by rfl) Try.underlying60 (by kernel_rfl) rfl (by decide) (by decide) b (by rfl) (by rw [hbn]; rfl) (row_C (hp.at_ 2 _ (by rfl))) (fun x cs h => h) hp.size (by first | omega | (simp; done) | (simp; omega)) hp ?_
     intro A_12 c_13 F_14 W_15 hp hz; clear hz; simp only [List.set_cons_succ, List.set_cons_zero] at hp
     refine step_fin hp.tail ?_
     refine treeI_ev rfl ?_
     refine sx_litb 60 (by rfl) hp #[.slice A_12 b.length c_13] 60 1 (fun W => by kernel_rfl) ?_
     intro g_16 W_17 hp
     refine step_fin hp.tail.tail ?_
     refine treeI_fin ?_
     refine tail_of [12, 13, 14, 15] (by rfl) ?_
     refine tailI_op rfl ?_
     have hp := hp.nilrow hdrK 60 w0.heap.size
     refine sx_append 61 (by rfl) hdrK 0 (by rfl) (.slice none 0 0) 24 (by rfl) Try.underlying61 (by kernel_rfl) rfl (by decide) (by decide) ([(A_12, b.length, c_13)]) (by rfl) (by rfl) (lit_H1 (hp.at_ 1 _ (by rfl))) (fun x cs h => h) hp.size (by first | omega | (simp; done) | (simp; omega)) hp ?_
     intro A_18 c_19 F_20 W_21 hp hz; clear hz; simp only [List.set_cons_succ, List.set_cons_zero] at hp
     refine tailI_next ?_
     refine tailI_op rfl ?_
     refine sx_rd 62 (.pointer (some ⟨g, 0, none⟩)) (by rfl) (by kernel_rfl) ?_
     refine tailI_next ?_
     refine tailI_op rfl ?_
     refine sx_rd 63 (.pointer (some ⟨g, 6, none⟩)) (by rfl) (by kernel_rfl) ?_
     refine tailI_next ?_
     refine tailI_op rfl ?_
     refine sx_store (t := 61) (p := (.tmp 63)) (x := (.tmp 61)) (by rfl) (by rfl) 3 (by rfl) 6 [.slice A_18 ([(A_12, b.length, c_13)].length) c_19] (by rfl) (by rfl) (by kernel_rfl) (by simp [Value.oneCell']) (by show 7 ≤ 9; omega) #[.int .i64 w, .int .i64 h, .slice AG nG cG, .bool true, .slice none 0 0, .slice (some ⟨gL, 0, none⟩) n cL, .slice A_18 ([(A_12, b.length, c_13)].length) c_19, .int .i64 (c + 1), .int .i64 0] (by rfl) hp ?_
     intro W_22 hp; simp only [List.set_cons_succ, List.set_cons_zero] at hp
     refine tailI_next ?_
     refine tailI_nil ?_
     refine ex_then_n ?_
     refine wp_ret ?_
     refine ex_then_r ?_
     refine sx_end (.tuple #[]) (res0 (by rfl)) ?_
     obtain rfl : i = n := by omega
     have hff : ffN b a = b.length := ffN_end (by omega) (fun j h1 h2 => hsk j h1 (by omega))
     rw [cntT_succ, if_pos hff]
     exact ⟨_, _, _, _, rfl, (fun q => absurd q (by simp)), (hp.take [3, 4] 5 (by decide) (by simp))⟩
    ·
     have c_7p := of_decide_eq_false c_7
     refine wp_skip ?_
     refine ex_then_n ?_
     refine wp_ret ?_
     refine ex_then_r ?_
     refine sx_end (.tuple #[]) (res0 (by rfl)) ?_
     obtain rfl : i = n := by omega
     have hff : ffN b a = b.length := ffN_end (by omega) (fun j h1 h2 => hsk j h1 (by omega))
     rw [cntT_succ, if_pos hff]
     exact ⟨_, _, _, _, rfl, hfd, (hp.take [0, 1] 2 (by decide) (by simp))⟩
   ·
    have c_4p := ne_of_beq_ c_4
    have hlt : i < n := by omega
    have hfree : rd b (i : Int) = 0 := by simpa using c_3
    refine wp_skip ?_
    refine ex_then_n ?_
    refine wp_seq ?_
    refine sx_region ?_
    refine sx_rd 65 (.pointer (some ⟨g, 0, none⟩)) (by rfl) (by kernel_rfl) ?_
    refine sx_rd 66 (.pointer (some ⟨g, 0, none⟩)) (by rfl) (by kernel_rfl) ?_
    refine sx_rd 67 (.pointer (some ⟨g, 0, none⟩)) (by rfl) (by kernel_rfl) ?_
    refine sx_rd 68 (.agg #[.int .i64 w, .int .i64 h, .slice AG nG cG]) (by rfl) (ldn (t := 59) (p := (.tmp 67)) (by rfl) (by rfl) (by kernel_rfl) (by kernel_rfl) (by kernel_rfl) (hp.at_ 0 _ (by rfl))) ?_
    refine sx_rd 69 (.int .i64 (i : Int)) (by rfl) (by kernel_rfl) ?_
    refine sx_call 70 (by rfl) (by kernel_rfl) ((near_sx w h n i AG nG cG hw1 hw2 hh1 hh2 hwh hn hlt hp).mono ?_)
    rintro _ W_23 ⟨rfl, hp⟩
    refine ⟨_, rfl, ?_⟩
    refine sx_rd 64 (.tuple #[.int .i64 (nearE w (i : Int)), .int .i64 (nearS w n (i : Int))]) (by rfl) (by kernel_rfl) ?_
    refine sx_rd 71 (.int .i64 (nearE w (i : Int))) (by rfl) (by kernel_rfl) ?_
    refine sx_rd 72 (.int .i64 (nearS w n (i : Int))) (by rfl) (by kernel_rfl) ?_
    refine sx_rd 4 (.int .i64 (nearE w (i : Int))) (by rfl) (by kernel_rfl) ?_
    refine sx_rd 5 (.int .i64 (nearS w n (i : Int))) (by rfl) (by kernel_rfl) ?_
    refine sx_nil ?_
    refine ex_then_n ?_
    refine wp_seq ?_
    refine sx_region ?_
    refine sx_rd 73 (.pointer (some ⟨g, 0, none⟩)) (by rfl) (by kernel_rfl) ?_
    refine sx_rd 74 (.int .i64 (i : Int)) (by rfl) (by kernel_rfl) ?_
    refine sx_rd 75 (.int .i64 (nearE w (i : Int))) (by rfl) (by kernel_rfl) ?_
    have hpb1 := putC_bd w (n : Int) d b i (nearE w (i : Int)) 101 119
    refine sx_call 76 (by rfl) (by kernel_rfl) ((hP w0 _ (cs) g gL w h n b i (nearE w (i : Int)) 101 119 c AG nG cG cL FL Af nf cf hw1 hw2 hh1 hh2 hwh hn hbn hlt hfree (nearE_bd hw1 hwh (by omega) (by omega)) (by decide) (by omega) (by omega) (by omega) hfd (hp.take [0, 1] 2 (by decide) (by simp))).mono ?_)
    rintro _ W_24 ⟨FL1, Af1, nf1, cf1, rfl, hfd1, hp⟩
    refine ⟨_, rfl, ?_⟩
    refine sx_nil ?_
    refine ex_then_n ?_
    refine sx_region ?_
    refine sx_rd 77 (.pointer (some ⟨g, 0, none⟩)) (by rfl) (by kernel_rfl) ?_
    refine sx_rd 78 (.int .i64 (i : Int)) (by rfl) (by kernel_rfl) ?_
    refine sx_rd 79 (.int .i64 (nearS w n (i : Int))) (by rfl) (by kernel_rfl) ?_
    have hpb2 := putC_bd w (n : Int) d b i (nearS w n (i : Int)) 115 110
    refine sx_call 80 (by rfl) (by kernel_rfl) ((hP w0 _ (cs) g gL w h n b i (nearS w n (i : Int)) 115 110 (c + putC w (n : Int) d b i (nearE w (i : Int)) 101 119) AG nG cG cL FL1 Af1 nf1 cf1 hw1 hw2 hh1 hh2 hwh hn hbn hlt hfree (nearS_bd hw1 (by omega) (by omega)) (by decide) (by omega) (by omega) (by omega) hfd1 (hp.take [0, 1] 2 (by decide) (by simp))).mono ?_)
    rintro _ W_25 ⟨FL2, Af2, nf2, cf2, rfl, hfd2, hp⟩
    refine ⟨_, rfl, ?_⟩
    refine sx_nil ?_
    refine sx_end_n (.tuple #[]) (res0 (by rfl)) ?_
    have hff : ffN b a = i := ffN_hit hai (by omega) hsk hfree
    rw [cntT_succ, if_neg (by omega), hff, ← Int.add_assoc]
    exact ⟨_, _, _, _, rfl, hfd2, (hp.take [0, 1] 2 (by decide) (by simp))⟩
 ·
  have c_2p := of_decide_eq_false c_2
  refine sx_region ?_
  refine sx_rd 6 (.int .i64 (i : Int)) (by rfl) (by kernel_rfl) ?_
  refine sx_rd 7 (.pointer (some ⟨g, 0, none⟩)) (by rfl) (by kernel_rfl) ?_
  refine sx_rd 8 (.pointer (some ⟨g, 0, none⟩)) (by rfl) (by kernel_rfl) ?_
  refine sx_rd 9 (.pointer (some ⟨g, 5, none⟩)) (by rfl) (by kernel_rfl) ?_
  refine sx_rd 10 (.slice (some ⟨gL, 0, none⟩) n cL) (by rfl) (ld1 (t := 60) (p := (.tmp 9)) (by rfl) (by rfl) (by kernel_rfl) (hp.cell 0 (by rfl) 5 _ (by rfl))) ?_
  refine sx_rd 11 (.int .i64 (n : Int)) (by rfl) (by kernel_rfl) ?_
  refine sx_rd 12 (.bool false) (by rfl) (bv c_2 (by kernel_rfl)) ?_
  refine sx_rd 13 (.bool false) (by rfl) (by kernel_rfl) ?_
  refine sx_skip 14 (by rfl) (by rfl) (by rfl) ?_
  refine sx_skip 15 (by rfl) (by rfl) (by rfl) ?_
  refine sx_skip 16 (by rfl) (by rfl) (by rfl) ?_
  refine sx_skip 17 (by rfl) (by rfl) (by rfl) ?_
  refine sx_skip 18 (by rfl) (by rfl) (by rfl) ?_
  refine sx_skip 19 (by rfl) (by rfl) (by rfl) ?_
  refine sx_skip 20 (by rfl) (by rfl) (by rfl) ?_
  refine sx_skip 21 (by rfl) (by rfl) (by rfl) ?_
  refine sx_rd 22 (.bool false) (by rfl) (by kernel_rfl) ?_
  refine sx_nil ?_
  refine ex_then_n ?_
  refine sx_else false (by rfl) rfl ?_
  refine wp_exit ?_
  refine ex_then_e (ex_then_e (ex_blk_here ?_))
  refine ex_then_n ?_
  refine wp_seq ?_
  refine wp_seq ?_
  refine sx_region ?_
  refine sx_rd 25 (.int .i64 (i : Int)) (by rfl) (by kernel_rfl) ?_
  refine sx_rd 26 (.pointer (some ⟨g, 0, none⟩)) (by rfl) (by kernel_rfl) ?_
  refine sx_rd 27 (.pointer (some ⟨g, 0, none⟩)) (by rfl) (by kernel_rfl) ?_
  refine sx_rd 28 (.pointer (some ⟨g, 5, none⟩)) (by rfl) (by kernel_rfl) ?_
  refine sx_rd 29 (.slice (some ⟨gL, 0, none⟩) n cL) (by rfl) (ld1 (t := 60) (p := (.tmp 28)) (by rfl) (by rfl) (by kernel_rfl) (hp.cell 0 (by rfl) 5 _ (by rfl))) ?_
  refine sx_rd 30 (.int .i64 (n : Int)) (by rfl) (by kernel_rfl) ?_
  refine sx_rd 31 (.bool ((i : Int) == (n : Int))) (by rfl) (by kernel_rfl) ?_
  refine sx_nil ?_
  refine ex_then_n ?_
  refine sx_cond ((i : Int) == (n : Int)) (by rfl) (fun c_26 => ?_) (fun c_26 => ?_)
  ·
   have c_26p := eq_of_beq_ c_26
   refine wp_seq ?_
   refine sx_region ?_
   refine sx_rd 32 (.pointer (some ⟨g, 0, none⟩)) (by rfl) (by kernel_rfl) ?_
   refine sx_rd 33 (.pointer (some ⟨g, 0, none⟩)) (by rfl) (by kernel_rfl) ?_
   refine sx_rd 34 (.pointer (some ⟨g, 7, none⟩)) (by rfl) (by kernel_rfl) ?_
   refine sx_rd 35 (.int .i64 c) (by rfl) (ld1 (t := 3) (p := (.tmp 34)) (by rfl) (by rfl) (by kernel_rfl) (hp.cell 0 (by rfl) 7 _ (by rfl))) ?_
   refine sx_rd 36 (.int .i64 (c + 1)) (by rfl) (wr_ok (by omega) (by kernel_rfl)) ?_
   refine sx_rd 37 (.pointer (some ⟨g, 0, none⟩)) (by rfl) (by kernel_rfl) ?_
   refine sx_rd 38 (.pointer (some ⟨g, 7, none⟩)) (by rfl) (by kernel_rfl) ?_
   refine sx_store (t := 3) (p := (.tmp 38)) (x := (.tmp 36)) (by rfl) (by rfl) 0 (by rfl) 7 [.int .i64 (c + 1)] (by rfl) (by rfl) (by kernel_rfl) (by simp [Value.oneCell']) (by show 8 ≤ 9; omega) #[.int .i64 w, .int .i64 h, .slice AG nG cG, .bool true, .slice none 0 0, .slice (some ⟨gL, 0, none⟩) n cL, .slice Af nf cf, .int .i64 (c + 1), .int .i64 0] (by rfl) hp ?_
   intro W_27 hp; simp only [List.set_cons_succ, List.set_cons_zero] at hp
   refine sx_nil ?_
   refine ex_then_n ?_
   refine wp_seq ?_
   refine wp_seq ?_
   refine sx_drawT [0, 1, 2, 5, 6, 7] (.rd 3 (.rd 4 (.rd 8 (.rd 9 (.fin))))) 10 (C := Hp w0 (blk g #[.int .i64 w, .int .i64 h, .slice AG nG cG, .bool true, .slice none 0 0, .slice (some ⟨gL, 0, none⟩) n cL, .slice Af nf cf, .int .i64 (c + 1), .int .i64 0] 63 :: row (Kd.int .u8) 5 w0.heap.size (.slice (some ⟨gL, 0, none⟩) n cL) b FL :: cs)) (by kernel_rfl) (by kernel_rfl) (fun d _ _ _ _ h => by cases d <;> exact h) (fun W h => h.drew) hp ?_
   refine preI_read rfl ?_
   refine sxq_val 39 (.pointer (some ⟨g, 0, none⟩)) (by rfl) (fun W _ => (by kernel_rfl)) ?_
   refine sxq_nil ?_
   refine preI_read rfl ?_
   refine sxq_val 40 (.pointer (some ⟨g, 0, none⟩)) (by rfl) (fun W _ => (by kernel_rfl)) ?_
   refine sxq_nil ?_
   refine preI_read rfl ?_
   refine sxq_val 41 (.pointer (some ⟨g, 6, none⟩)) (by rfl) (fun W _ => (by kernel_rfl)) ?_
   refine sxq_nil ?_
   refine preI_read rfl ?_
   refine sxq_val 44 (.pointer (some ⟨g, 0, none⟩)) (by rfl) (fun W _ => (by kernel_rfl)) ?_
   refine sxq_nil ?_
   refine preI_read rfl ?_
   refine sxq_val 45 (.pointer (some ⟨g, 0, none⟩)) (by rfl) (fun W _ => (by kernel_rfl)) ?_
   refine sxq_nil ?_
   refine preI_read rfl ?_
   refine sxq_val 46 (.pointer (some ⟨g, 8, none⟩)) (by rfl) (fun W _ => (by kernel_rfl)) ?_
   refine sxq_nil ?_
   refine preI_nil ?_
   intro W_28 hp
   refine treeI_rd rfl ?_
   refine sxq_val 42 (.slice Af nf cf) (by rfl) (fun W hp => (ld1 (t := 61) (p := (.tmp 41)) (by rfl) (by rfl) (by kernel_rfl) (hp.cell 0 (by rfl) 6 _ (by rfl)))) ?_
   refine sxq_nil ?_
   refine treeI_rd rfl ?_
   refine sxq_val 43 (.int .i64 (nf : Int)) (by rfl) (fun W hp => (by kernel_rfl)) ?_
   refine sxq_nil ?_
   refine treeI_rd rfl ?_
   refine sxq_val 47 (.int .i64 0) (by rfl) (fun W hp => (ld1 (t := 3) (p := (.tmp 46)) (by rfl) (by rfl) (by kernel_rfl) (hp.cell 0 (by rfl) 8 _ (by rfl)))) ?_
   refine sxq_nil ?_
   refine treeI_rd rfl ?_
   refine sxq_val 48 (.bool (decide ((nf : Int) ≤ 0))) (by rfl) (fun W hp => (by kernel_rfl)) ?_
   refine sxq_nil ?_
   refine treeI_fin ?_
   refine sx_nil ?_
   refine ex_then_n ?_
   refine sx_cond (decide ((nf : Int) ≤ 0)) (by rfl) (fun c_29 => ?_) (fun c_29 => ?_)
   ·
    have c_29p := of_decide_eq_true c_29
    obtain rfl : nf = 0 := by omega
    obtain ⟨rfl, rfl⟩ := hfd rfl
    refine sx_drawT [0, 1, 2, 3, 6, 7, 8] (.rd 4 (.rd 9 (.alt 5 (.alt 10 (.alt 11 (.fin) .non) .non) .non))) 12 (C := Hp w0 (blk g #[.int .i64 w, .int .i64 h, .slice AG nG cG, .bool true, .slice none 0 0, .slice (some ⟨gL, 0, none⟩) n cL, .slice none 0 0, .int .i64 (c + 1), .int .i64 0] 63 :: row (Kd.int .u8) 5 w0.heap.size (.slice (some ⟨gL, 0, none⟩) n cL) b FL :: cs)) (by kernel_rfl) (by kernel_rfl) (fun d _ _ _ _ h => by cases d <;> exact h) (fun W h => h.drew) hp ?_
    refine preI_read rfl ?_
    refine sxq_val 49 (.pointer (some ⟨g, 0, none⟩)) (by rfl) (fun W _ => (by kernel_rfl)) ?_
    refine sxq_nil ?_
    refine preI_read rfl ?_
    refine sxq_val 50 (.pointer (some ⟨g, 0, none⟩)) (by rfl) (fun W _ => (by kernel_rfl)) ?_
    refine sxq_nil ?_
    refine preI_read rfl ?_
    refine sxq_val 51 (.pointer (some ⟨g, 0, none⟩)) (by rfl) (fun W _ => (by kernel_rfl)) ?_
    refine sxq_nil ?_
    refine preI_read rfl ?_
    refine sxq_val 52 (.pointer (some ⟨g, 6, none⟩)) (by rfl) (fun W _ => (by kernel_rfl)) ?_
    refine sxq_nil ?_
    refine preI_read rfl ?_
    refine sxq_val 55 (.pointer (some ⟨g, 0, none⟩)) (by rfl) (fun W _ => (by kernel_rfl)) ?_
    refine sxq_nil ?_
    refine preI_read rfl ?_
    refine sxq_val 56 (.pointer (some ⟨g, 0, none⟩)) (by rfl) (fun W _ => (by kernel_rfl)) ?_
    refine sxq_nil ?_
    refine preI_read rfl ?_
    refine sxq_val 57 (.pointer (some ⟨g, 5, none⟩)) (by rfl) (fun W _ => (by kernel_rfl)) ?_
    refine sxq_nil ?_
    refine preI_nil ?_
    intro W_30 hp
    refine treeI_rd rfl ?_
    refine sxq_val 53 (.slice none 0 0) (by rfl) (fun W hp => (ld1 (t := 61) (p := (.tmp 52)) (by rfl) (by rfl) (by kernel_rfl) (hp.cell 0 (by rfl) 6 _ (by rfl)))) ?_
    refine sxq_nil ?_
    refine treeI_rd rfl ?_
    refine sxq_val 58 (.slice (some ⟨gL, 0, none⟩) n cL) (by rfl) (fun W hp => (ld1 (t := 60) (p := (.tmp 57)) (by rfl) (by rfl) (by kernel_rfl) (hp.cell 0 (by rfl) 5 _ (by rfl)))) ?_
    refine sxq_nil ?_
    refine treeI_ev rfl ?_
    refine sx_lit 54 (by rfl) (Kd.int .u8) w0.heap.size 5 ([] : List Int) [] (fun W => by kernel_rfl) (Reps.none _ _) (by simp) hp.size hp ?_
    intro g_31 F_32 W_33 hp hz; clear hz
    refine step_fin hp.tail ?_
    refine treeI_ev rfl ?_
    refine sx_append 59 (by rfl) (Kd.int .u8) 0 (by rfl) (.int .u8 0) 1 (by rfl) Try.underlying60 (by kernel_rfl) rfl (by decide) (by decide) b (by rfl) (by rw [hbn]; rfl) (row_C (hp.at_ 2 _ (by rfl))) (fun x cs h => h) hp.size (by first | omega | (simp; done) | (simp; omega)) hp ?_
    intro A_34 c_35 F_36 W_37 hp hz; clear hz; simp only [List.set_cons_succ, List.set_cons_zero] at hp
    refine step_fin hp.tail ?_
    refine treeI_ev rfl ?_
    refine sx_litb 60 (by rfl) hp #[.slice A_34 b.length c_35] 60 1 (fun W => by kernel_rfl) ?_
    intro g_38 W_39 hp
    refine step_fin hp.tail.tail ?_
    refine treeI_fin ?_
    refine tail_of [12, 13, 14, 15] (by rfl) ?_
    refine tailI_op rfl ?_
    have hp := hp.nilrow hdrK 60 w0.heap.size
    refine sx_append 61 (by rfl) hdrK 0 (by rfl) (.slice none 0 0) 24 (by rfl) Try.underlying61 (by kernel_rfl) rfl (by decide) (by decide) ([(A_34, b.length, c_35)]) (by rfl) (by rfl) (lit_H1 (hp.at_ 1 _ (by rfl))) (fun x cs h => h) hp.size (by first | omega | (simp; done) | (simp; omega)) hp ?_
    intro A_40 c_41 F_42 W_43 hp hz; clear hz; simp only [List.set_cons_succ, List.set_cons_zero] at hp
    refine tailI_next ?_
    refine tailI_op rfl ?_
    refine sx_rd 62 (.pointer (some ⟨g, 0, none⟩)) (by rfl) (by kernel_rfl) ?_
    refine tailI_next ?_
    refine tailI_op rfl ?_
    refine sx_rd 63 (.pointer (some ⟨g, 6, none⟩)) (by rfl) (by kernel_rfl) ?_
    refine tailI_next ?_
    refine tailI_op rfl ?_
    refine sx_store (t := 61) (p := (.tmp 63)) (x := (.tmp 61)) (by rfl) (by rfl) 3 (by rfl) 6 [.slice A_40 ([(A_34, b.length, c_35)].length) c_41] (by rfl) (by rfl) (by kernel_rfl) (by simp [Value.oneCell']) (by show 7 ≤ 9; omega) #[.int .i64 w, .int .i64 h, .slice AG nG cG, .bool true, .slice none 0 0, .slice (some ⟨gL, 0, none⟩) n cL, .slice A_40 ([(A_34, b.length, c_35)].length) c_41, .int .i64 (c + 1), .int .i64 0] (by rfl) hp ?_
    intro W_44 hp; simp only [List.set_cons_succ, List.set_cons_zero] at hp
    refine tailI_next ?_
    refine tailI_nil ?_
    refine ex_then_n ?_
    refine wp_ret ?_
    refine ex_then_r ?_
    refine sx_end (.tuple #[]) (res0 (by rfl)) ?_
    obtain rfl : i = n := by omega
    have hff : ffN b a = b.length := ffN_end (by omega) (fun j h1 h2 => hsk j h1 (by omega))
    rw [cntT_succ, if_pos hff]
    exact ⟨_, _, _, _, rfl, (fun q => absurd q (by simp)), (hp.take [3, 4] 5 (by decide) (by simp))⟩
   ·
    have c_29p := of_decide_eq_false c_29
    refine wp_skip ?_
    refine ex_then_n ?_
    refine wp_ret ?_
    refine ex_then_r ?_
    refine sx_end (.tuple #[]) (res0 (by rfl)) ?_
    obtain rfl : i = n := by omega
    have hff : ffN b a = b.length := ffN_end (by omega) (fun j h1 h2 => hsk j h1 (by omega))
    rw [cntT_succ, if_pos hff]
    exact ⟨_, _, _, _, rfl, hfd, (hp.take [0, 1] 2 (by decide) (by simp))⟩
  ·
   have c_26p := ne_of_beq_ c_26
   have hlt : i < n := by omega
   have hfree : rd b (i : Int) = 0 := by exact absurd c_26p (by omega)
   refine wp_skip ?_
   refine ex_then_n ?_
   refine wp_seq ?_
   refine sx_region ?_
   refine sx_rd 65 (.pointer (some ⟨g, 0, none⟩)) (by rfl) (by kernel_rfl) ?_
   refine sx_rd 66 (.pointer (some ⟨g, 0, none⟩)) (by rfl) (by kernel_rfl) ?_
   refine sx_rd 67 (.pointer (some ⟨g, 0, none⟩)) (by rfl) (by kernel_rfl) ?_
   refine sx_rd 68 (.agg #[.int .i64 w, .int .i64 h, .slice AG nG cG]) (by rfl) (ldn (t := 59) (p := (.tmp 67)) (by rfl) (by rfl) (by kernel_rfl) (by kernel_rfl) (by kernel_rfl) (hp.at_ 0 _ (by rfl))) ?_
   refine sx_rd 69 (.int .i64 (i : Int)) (by rfl) (by kernel_rfl) ?_
   refine sx_call 70 (by rfl) (by kernel_rfl) ((near_sx w h n i AG nG cG hw1 hw2 hh1 hh2 hwh hn hlt hp).mono ?_)
   rintro _ W_45 ⟨rfl, hp⟩
   refine ⟨_, rfl, ?_⟩
   refine sx_rd 64 (.tuple #[.int .i64 (nearE w (i : Int)), .int .i64 (nearS w n (i : Int))]) (by rfl) (by kernel_rfl) ?_
   refine sx_rd 71 (.int .i64 (nearE w (i : Int))) (by rfl) (by kernel_rfl) ?_
   refine sx_rd 72 (.int .i64 (nearS w n (i : Int))) (by rfl) (by kernel_rfl) ?_
   refine sx_rd 4 (.int .i64 (nearE w (i : Int))) (by rfl) (by kernel_rfl) ?_
   refine sx_rd 5 (.int .i64 (nearS w n (i : Int))) (by rfl) (by kernel_rfl) ?_
   refine sx_nil ?_
   refine ex_then_n ?_
   refine wp_seq ?_
   refine sx_region ?_
   refine sx_rd 73 (.pointer (some ⟨g, 0, none⟩)) (by rfl) (by kernel_rfl) ?_
   refine sx_rd 74 (.int .i64 (i : Int)) (by rfl) (by kernel_rfl) ?_
   refine sx_rd 75 (.int .i64 (nearE w (i : Int))) (by rfl) (by kernel_rfl) ?_
   have hpb1 := putC_bd w (n : Int) d b i (nearE w (i : Int)) 101 119
   refine sx_call 76 (by rfl) (by kernel_rfl) ((hP w0 _ (cs) g gL w h n b i (nearE w (i : Int)) 101 119 c AG nG cG cL FL Af nf cf hw1 hw2 hh1 hh2 hwh hn hbn hlt hfree (nearE_bd hw1 hwh (by omega) (by omega)) (by decide) (by omega) (by omega) (by omega) hfd (hp.take [0, 1] 2 (by decide) (by simp))).mono ?_)
   rintro _ W_46 ⟨FL1, Af1, nf1, cf1, rfl, hfd1, hp⟩
   refine ⟨_, rfl, ?_⟩
   refine sx_nil ?_
   refine ex_then_n ?_
   refine sx_region ?_
   refine sx_rd 77 (.pointer (some ⟨g, 0, none⟩)) (by rfl) (by kernel_rfl) ?_
   refine sx_rd 78 (.int .i64 (i : Int)) (by rfl) (by kernel_rfl) ?_
   refine sx_rd 79 (.int .i64 (nearS w n (i : Int))) (by rfl) (by kernel_rfl) ?_
   have hpb2 := putC_bd w (n : Int) d b i (nearS w n (i : Int)) 115 110
   refine sx_call 80 (by rfl) (by kernel_rfl) ((hP w0 _ (cs) g gL w h n b i (nearS w n (i : Int)) 115 110 (c + putC w (n : Int) d b i (nearE w (i : Int)) 101 119) AG nG cG cL FL1 Af1 nf1 cf1 hw1 hw2 hh1 hh2 hwh hn hbn hlt hfree (nearS_bd hw1 (by omega) (by omega)) (by decide) (by omega) (by omega) (by omega) hfd1 (hp.take [0, 1] 2 (by decide) (by simp))).mono ?_)
   rintro _ W_47 ⟨FL2, Af2, nf2, cf2, rfl, hfd2, hp⟩
   refine ⟨_, rfl, ?_⟩
   refine sx_nil ?_
   refine sx_end_n (.tuple #[]) (res0 (by rfl)) ?_
   have hff : ffN b a = i := ffN_hit hai (by omega) hsk hfree
   rw [cntT_succ, if_neg (by omega), hff, ← Int.add_assoc]
   exact ⟨_, _, _, _, rfl, hfd2, (hp.take [0, 1] 2 (by decide) (by simp))⟩
theorem look_all : ∀ d, LookOk d := by
 intro d
 induction d with
 | zero => intro w0 W cs g gL w h n b a c AG nG cG cL FL Af nf cf hw1 hw2 hh1 hh2 hwh hn hbn han hdn; omega
 | succ d ih => exact look_of d (put_of d ih)
end Go.Proofs.Ytkjaahmlnbgnjaa.Hd
