/- impl.layouts with its closures, by hand. -/
import Derived.Test.YtkjaahmlnbgnjaaPTilA
import Derived.Test.YtkjaahmlnbgnjaaMSxM
namespace Go.Proofs.Ytkjaahmlnbgnjaa.Hd
open Go.RowKit Go.Proofs.Ytkjaahmlnbgnjaa.Pure Go.Proofs.YtkjaahmlnbgnjaaW.PrintWords Go.Proofs.YtkjaahmlnbgnjaaW.PrintLast Go.Proofs.YtkjaahmlnbgnjaaW.PrintMore
set_option linter.unusedVariables false
set_option linter.unusedSimpArgs false
theorem P2_31 : P2 31 = 2147483648 := rfl
def LayOk (d : Nat) : Prop := ∀ (w0 W : World) (cs : List Chunk) (gL gc ge gt gl gb gw gm : Nat) (w h : Int) (n : Nat) (b : List Int) (a : Nat) (c : Int) (cL : Nat) (FL : Nat → Prop), 1 ≤ w → w ≤ 30 → w * h = (n : Int) → n ≤ 30 → b.length = n → a ≤ n → n < a + d → 0 ≤ c → c + P2 d ≤ 1099511627776 → (∀ k : Nat, (a : Int) + w ≤ (k : Int) → k < n → rd b (k : Int) = 0) → Hp w0 (blk gc #[.slice (some ⟨gL, 0, none⟩) n cL] 60 :: row (Kd.int .u8) 5 w0.heap.size (.slice (some ⟨gL, 0, none⟩) n cL) b FL :: blk ge #[.func (.func 39) #[] #[.pointer (some ⟨gm, 0, none⟩)]] 67 :: blk gt #[.func (.func 37) #[] #[]] 24 :: blk gl #[.func (.func 66) #[] #[.pointer (some ⟨gc, 0, none⟩), .pointer (some ⟨ge, 0, none⟩), .pointer (some ⟨gt, 0, none⟩), .pointer (some ⟨gl, 0, none⟩), .pointer (some ⟨gb, 0, none⟩), .pointer (some ⟨gw, 0, none⟩)]] 101 :: blk gb #[.func (.func 38) #[] #[]] 66 :: blk gw #[.int .i64 w] 3 :: blk gm #[.int .i64 c] 3 :: cs) W → Calls Try.prog 66 #[.int .i64 (a : Int), .pointer (some ⟨gc, 0, none⟩), .pointer (some ⟨ge, 0, none⟩), .pointer (some ⟨gt, 0, none⟩), .pointer (some ⟨gl, 0, none⟩), .pointer (some ⟨gb, 0, none⟩), .pointer (some ⟨gw, 0, none⟩)] W fun e W' => ∃ FL' : Nat → Prop, e = .returned (.bool true) ∧ Hp w0 (blk gc #[.slice (some ⟨gL, 0, none⟩) n cL] 60 :: row (Kd.int .u8) 5 w0.heap.size (.slice (some ⟨gL, 0, none⟩) n cL) b FL' :: blk ge #[.func (.func 39) #[] #[.pointer (some ⟨gm, 0, none⟩)]] 67 :: blk gt #[.func (.func 37) #[] #[]] 24 :: blk gl #[.func (.func 66) #[] #[.pointer (some ⟨gc, 0, none⟩), .pointer (some ⟨ge, 0, none⟩), .pointer (some ⟨gt, 0, none⟩), .pointer (some ⟨gl, 0, none⟩), .pointer (some ⟨gb, 0, none⟩), .pointer (some ⟨gw, 0, none⟩)]] 101 :: blk gb #[.func (.func 38) #[] #[]] 66 :: blk gw #[.int .i64 w] 3 :: blk gm #[.int .i64 (c + cntT w (n : Int) d b a)] 3 :: cs) W'
def TryOk (d : Nat) : Prop := ∀ (w0 W : World) (cs : List Chunk) (gL gc ge gt gl gb gw gm : Nat) (w h : Int) (n : Nat) (b : List Int) (ga i j : Nat) (l l2 : Int) (c : Int) (cL : Nat) (FL : Nat → Prop), 1 ≤ w → w ≤ 30 → w * h = (n : Int) → n ≤ 30 → b.length = n → i < n → rd b (i : Int) = 0 → j < n → j ≠ i → rd b (j : Int) = 0 → (j : Int) ≤ (i : Int) + w → n < i + 1 + d → 0 ≤ c → c + P2 d ≤ 1099511627776 → (∀ k : Nat, (i : Int) + w ≤ (k : Int) → k < n → rd b (k : Int) = 0) → Hp w0 (blk ga #[.int .i64 (i : Int)] 3 :: blk gc #[.slice (some ⟨gL, 0, none⟩) n cL] 60 :: row (Kd.int .u8) 5 w0.heap.size (.slice (some ⟨gL, 0, none⟩) n cL) b FL :: blk ge #[.func (.func 39) #[] #[.pointer (some ⟨gm, 0, none⟩)]] 67 :: blk gt #[.func (.func 37) #[] #[]] 24 :: blk gl #[.func (.func 66) #[] #[.pointer (some ⟨gc, 0, none⟩), .pointer (some ⟨ge, 0, none⟩), .pointer (some ⟨gt, 0, none⟩), .pointer (some ⟨gl, 0, none⟩), .pointer (some ⟨gb, 0, none⟩), .pointer (some ⟨gw, 0, none⟩)]] 101 :: blk gb #[.func (.func 38) #[] #[]] 66 :: blk gw #[.int .i64 w] 3 :: blk gm #[.int .i64 c] 3 :: cs) W → Calls Try.prog 67 #[.int .i64 (j : Int), .int .u8 l, .int .u8 l2, .pointer (some ⟨gt, 0, none⟩), .pointer (some ⟨ga, 0, none⟩), .pointer (some ⟨gc, 0, none⟩), .pointer (some ⟨gl, 0, none⟩), .pointer (some ⟨gb, 0, none⟩)] W fun e W' => ∃ FL' : Nat → Prop, e = .returned (.bool true) ∧ Hp w0 (blk ga #[.int .i64 (i : Int)] 3 :: blk gc #[.slice (some ⟨gL, 0, none⟩) n cL] 60 :: row (Kd.int .u8) 5 w0.heap.size (.slice (some ⟨gL, 0, none⟩) n cL) b FL' :: blk ge #[.func (.func 39) #[] #[.pointer (some ⟨gm, 0, none⟩)]] 67 :: blk gt #[.func (.func 37) #[] #[]] 24 :: blk gl #[.func (.func 66) #[] #[.pointer (some ⟨gc, 0, none⟩), .pointer (some ⟨ge, 0, none⟩), .pointer (some ⟨gt, 0, none⟩), .pointer (some ⟨gl, 0, none⟩), .pointer (some ⟨gb, 0, none⟩), .pointer (some ⟨gw, 0, none⟩)]] 101 :: blk gb #[.func (.func 38) #[] #[]] 66 :: blk gw #[.int .i64 w] 3 :: blk gm #[.int .i64 (c + putC w (n : Int) d b i (j : Int) l l2)] 3 :: cs) W'
set_option maxRecDepth 100000 in
set_option maxHeartbeats 40000000 in
theorem any_sx {w0 W : World} {cs : List Chunk} (x y : Int) (hp : Hp w0 cs W) : Calls Try.prog 37 #[.int .i64 x, .int .i64 y] W fun e W' => e = .returned (.bool true) ∧ Hp w0 cs W' := by
  refine sx_enter (N := 5) (l := [.int .i64 x, .int .i64 y]) Try.func37 rfl rfl rfl ?_
  refine wp_seq ?_
  refine sx_region ?_
  refine sx_rd 4 (.bool false) (by rfl) (by kernel_rfl) ?_
  refine sx_nil ?_
  refine ex_then_n ?_
  refine wp_seq ?_
  refine sx_region ?_
  refine sx_rd 4 (.bool true) (by rfl) (by kernel_rfl) ?_
  refine sx_nil ?_
  refine ex_then_n ?_
  refine wp_ret ?_
  refine sx_end (.bool true) (res1 4 (by rfl)) ?_
  exact ⟨rfl, hp⟩
set_option maxRecDepth 100000 in
set_option maxHeartbeats 40000000 in
theorem no_sx {w0 W : World} {cs : List Chunk} (x y : Int) (hp : Hp w0 cs W) : Calls Try.prog 38 #[.int .i64 x, .int .i64 y] W fun e W' => e = .returned (.tuple #[]) ∧ Hp w0 cs W' := by
  refine sx_enter (N := 4) (l := [.int .i64 x, .int .i64 y]) Try.func38 rfl rfl rfl ?_
  refine wp_skip ?_
  refine sx_end_n (.tuple #[]) (res0 (by rfl)) ?_
  exact ⟨rfl, hp⟩
set_option maxRecDepth 100000 in
set_option maxHeartbeats 40000000 in
theorem each_sx {w0 W : World} {cs : List Chunk} (gm : Nat) (c : Int) (AS : Option Addr) (nS cS : Nat) (hc0 : 0 ≤ c) (hcb : c ≤ 1099511627776) (hp : Hp w0 (blk gm #[.int .i64 c] 3 :: cs) W) : Calls Try.prog 39 #[.slice AS nS cS, .pointer (some ⟨gm, 0, none⟩)] W fun e W' => e = .returned (.bool true) ∧ Hp w0 (blk gm #[.int .i64 (c + 1)] 3 :: cs) W' := by
 refine sx_enter (N := 6) (l := [.slice AS nS cS, .pointer (some ⟨gm, 0, none⟩)]) Try.func39 rfl rfl rfl ?_
 refine wp_seq ?_
 refine sx_region ?_
 refine sx_rd 3 (.bool false) (by rfl) (by kernel_rfl) ?_
 refine sx_nil ?_
 refine ex_then_n ?_
 refine wp_seq ?_
 refine sx_region ?_
 refine sx_rd 4 (.int .i64 c) (by rfl) (ld1 (t := 3) (p := (.tmp 1)) (by rfl) (by rfl) (by kernel_rfl) (hp.cell 0 (by rfl) 0 _ (by rfl))) ?_
 refine sx_rd 5 (.int .i64 (c + 1)) (by rfl) (wr_ok (by omega) (by kernel_rfl)) ?_
 refine sx_store (t := 3) (p := (.tmp 1)) (x := (.tmp 5)) (by rfl) (by rfl) 0 (by rfl) 0 [.int .i64 (c + 1)] (by rfl) (by rfl) (by kernel_rfl) (by simp [Value.oneCell']) (by show 1 ≤ 1; omega) #[.int .i64 (c + 1)] (by rfl) hp ?_
 intro W_1 hp; simp only [List.set_cons_succ, List.set_cons_zero] at hp
 refine sx_nil ?_
 refine ex_then_n ?_
 refine wp_seq ?_
 refine sx_region ?_
 refine sx_rd 3 (.bool true) (by rfl) (by kernel_rfl) ?_
 refine sx_nil ?_
 refine ex_then_n ?_
 refine wp_ret ?_
 refine sx_end (.bool true) (res1 3 (by rfl)) ?_
 exact ⟨rfl, hp⟩
theorem til_inv {b : List Int} {n i j : Nat} {w l l2 : Int} (hw1 : 1 ≤ w) (hbn : b.length = n) (hjw : (j : Int) ≤ (i : Int) + w) (hinv : ∀ k : Nat, (i : Int) + w ≤ (k : Int) → k < n → rd b (k : Int) = 0) : ∀ k : Nat, ((i + 1 : Nat) : Int) + w ≤ (k : Int) → k < n → rd ((b.set ((i : Int)).toNat l).set ((j : Int)).toNat l2) (k : Int) = 0 := by
  intro k h1 h2
  have h3 := hinv k (by omega) h2
  rw [rd_at (by simp; omega), List.getElem_set_ne (by omega), ]
  by_cases e : ((i : Int)).toNat = k
  · omega
  · rw [List.getElem_set_ne e, ← rd_at (by omega)]; exact h3
set_option maxRecDepth 100000 in
set_option maxHeartbeats 40000000 in
theorem try_of (d : Nat) (hIH : LayOk d) : TryOk d := by
 intro w0 W cs gL gc ge gt gl gb gw gm w h n b ga i j l l2 c cL FL hw1 hw2 hwh hn hbn hi hbi hj hji hbj hjw hdn hc0 hcb hinv hp
 refine sx_enter (N := 41) (l := [.int .i64 (j : Int), .int .u8 l, .int .u8 l2, .pointer (some ⟨gt, 0, none⟩), .pointer (some ⟨ga, 0, none⟩), .pointer (some ⟨gc, 0, none⟩), .pointer (some ⟨gl, 0, none⟩), .pointer (some ⟨gb, 0, none⟩)]) Try.func67 rfl rfl rfl ?_
 refine wp_seq ?_
 refine sx_region ?_
 refine sx_rd 11 (.bool false) (by rfl) (by kernel_rfl) ?_
 refine sx_nil ?_
 refine ex_then_n ?_
 refine wp_seq ?_
 refine wp_seq ?_
 refine sx_region ?_
 refine sx_rd 13 (.func (.func 37) #[] #[]) (by rfl) (ld1 (t := 24) (p := (.tmp 3)) (by rfl) (by rfl) (by kernel_rfl) (hp.cell 4 (by rfl) 0 _ (by rfl))) ?_
 refine sx_rd 14 (.int .i64 (i : Int)) (by rfl) (ld1 (t := 3) (p := (.tmp 4)) (by rfl) (by rfl) (by kernel_rfl) (hp.cell 0 (by rfl) 0 _ (by rfl))) ?_
 refine sx_rd 15 (.int .i64 (j : Int)) (by rfl) (by kernel_rfl) ?_
 refine sx_call 16 (by rfl) (by kernel_rfl) ((any_sx (i : Int) (j : Int) hp).mono ?_)
 rintro _ W_1 ⟨rfl, hp⟩
 refine ⟨_, rfl, ?_⟩
 refine sx_rd 17 (.bool false) (by rfl) (by kernel_rfl) ?_
 refine sx_nil ?_
 refine ex_then_n ?_
 refine sx_else false (by rfl) rfl ?_
 refine wp_skip ?_
 refine ex_then_n ?_
 refine wp_seq ?_
 refine sx_drawT2 [3, 4, 5] (.rd 0 (.rd 1 (.rd 2 (.rd 6 (.alt 7 (.rd 8 (.alt 9 (.fin) .non)) .non))))) 10 (C := Hp w0 (blk ga #[.int .i64 (i : Int)] 3 :: blk gc #[.slice (some ⟨gL, 0, none⟩) n cL] 60 :: blk ge #[.func (.func 39) #[] #[.pointer (some ⟨gm, 0, none⟩)]] 67 :: blk gt #[.func (.func 37) #[] #[]] 24 :: blk gl #[.func (.func 66) #[] #[.pointer (some ⟨gc, 0, none⟩), .pointer (some ⟨ge, 0, none⟩), .pointer (some ⟨gt, 0, none⟩), .pointer (some ⟨gl, 0, none⟩), .pointer (some ⟨gb, 0, none⟩), .pointer (some ⟨gw, 0, none⟩)]] 101 :: blk gb #[.func (.func 38) #[] #[]] 66 :: blk gw #[.int .i64 w] 3 :: blk gm #[.int .i64 c] 3 :: cs)) (Hp w0 (blk ga #[.int .i64 (i : Int)] 3 :: blk gc #[.slice (some ⟨gL, 0, none⟩) n cL] 60 :: row (Kd.int .u8) 5 w0.heap.size (.slice (some ⟨gL, 0, none⟩) n cL) b FL :: blk ge #[.func (.func 39) #[] #[.pointer (some ⟨gm, 0, none⟩)]] 67 :: blk gt #[.func (.func 37) #[] #[]] 24 :: blk gl #[.func (.func 66) #[] #[.pointer (some ⟨gc, 0, none⟩), .pointer (some ⟨ge, 0, none⟩), .pointer (some ⟨gt, 0, none⟩), .pointer (some ⟨gl, 0, none⟩), .pointer (some ⟨gb, 0, none⟩), .pointer (some ⟨gw, 0, none⟩)]] 101 :: blk gb #[.func (.func 38) #[] #[]] 66 :: blk gw #[.int .i64 w] 3 :: blk gm #[.int .i64 c] 3 :: cs)) (fun W h => h.take [0, 1, 3, 4, 5, 6, 7, 8] 9 (by decide) (by simp)) (by kernel_rfl) (by kernel_rfl) (fun d _ _ _ _ h => by cases d <;> exact h) (fun W h => h.drew) hp ?_
 refine preI_read rfl ?_
 refine sxq_val 21 (.int .i64 (j : Int)) (by rfl) (fun W _ => (by kernel_rfl)) ?_
 refine sxq_nil ?_
 refine preI_read rfl ?_
 refine sxq_val 22 (.int .u8 l) (by rfl) (fun W _ => (by kernel_rfl)) ?_
 refine sxq_nil ?_
 refine preI_read rfl ?_
 refine sxq_val 23 (.int .u8 l2) (by rfl) (fun W _ => (by kernel_rfl)) ?_
 refine sxq_nil ?_
 refine preI_nil ?_
 intro W_2 hp
 refine treeI_rd rfl ?_
 refine sxq_val 18 (.slice (some ⟨gL, 0, none⟩) n cL) (by rfl) (fun W hp => (ld1 (t := 60) (p := (.tmp 5)) (by rfl) (by rfl) (by kernel_rfl) (hp.cell 1 (by rfl) 0 _ (by rfl)))) ?_
 refine sxq_nil ?_
 refine treeI_rd rfl ?_
 refine sxq_val 19 (.int .i64 (i : Int)) (by rfl) (fun W hp => (ld1 (t := 3) (p := (.tmp 4)) (by rfl) (by rfl) (by kernel_rfl) (hp.cell 0 (by rfl) 0 _ (by rfl)))) ?_
 refine sxq_nil ?_
 refine treeI_rd rfl ?_
 refine sxq_val 20 (.slice (some ⟨gL, 0, none⟩) n cL) (by rfl) (fun W hp => (ld1 (t := 60) (p := (.tmp 5)) (by rfl) (by rfl) (by kernel_rfl) (hp.cell 1 (by rfl) 0 _ (by rfl)))) ?_
 refine sxq_nil ?_
 refine treeI_rd rfl ?_
 refine sxq_val 24 (.pointer (some (adr (some ⟨gL, 0, none⟩) (i : Int) 1))) (by rfl) (fun W hp => (ix_some (t := 60) (sz := 1) (by rfl) (by rfl) (by rfl) Try.underlying60 (by kernel_rfl) (by omega) (by omega))) ?_
 refine sxq_nil ?_
 refine treeI_ev rfl ?_
 refine sx_rowstore (t := 5) (p := (.tmp 24)) (x := (.tmp 22)) (by rfl) (by rfl) 2 (Kd.int .u8) (by rfl) (i : Int) l [.int .u8 l] (by rfl) (by rfl) (by kernel_rfl) (by simp [Value.oneCell']) (by rfl) (by omega) (by omega) 0 (fun _ => rfl) hp ?_
 intro F_3 W_4 hp; simp only [List.set_cons_succ, List.set_cons_zero] at hp
 refine step_fin (hp.take [0, 1, 3, 4, 5, 6, 7, 8] 9 (by decide) (by simp)) ?_
 refine treeI_rd rfl ?_
 refine sxq_val 25 (.pointer (some (adr (some ⟨gL, 0, none⟩) (j : Int) 1))) (by rfl) (fun W hp => (ix_some (t := 60) (sz := 1) (by rfl) (by rfl) (by rfl) Try.underlying60 (by kernel_rfl) (by omega) (by omega))) ?_
 refine sxq_nil ?_
 refine treeI_ev rfl ?_
 refine sx_rowstore (t := 5) (p := (.tmp 25)) (x := (.tmp 23)) (by rfl) (by rfl) 2 (Kd.int .u8) (by rfl) (j : Int) l2 [.int .u8 l2] (by rfl) (by rfl) (by kernel_rfl) (by simp [Value.oneCell']) (by rfl) (by omega) (by omega) 0 (fun _ => rfl) hp ?_
 intro F_5 W_6 hp; simp only [List.set_cons_succ, List.set_cons_zero] at hp
 refine step_fin (hp.take [0, 1, 3, 4, 5, 6, 7, 8] 9 (by decide) (by simp)) ?_
 refine treeI_fin ?_
 refine sx_nil ?_
 refine ex_then_n ?_
 refine wp_seq ?_
 refine sx_region ?_
 refine sx_rd 26 (.func (.func 66) #[] #[.pointer (some ⟨gc, 0, none⟩), .pointer (some ⟨ge, 0, none⟩), .pointer (some ⟨gt, 0, none⟩), .pointer (some ⟨gl, 0, none⟩), .pointer (some ⟨gb, 0, none⟩), .pointer (some ⟨gw, 0, none⟩)]) (by rfl) (ld1 (t := 101) (p := (.tmp 6)) (by rfl) (by rfl) (by kernel_rfl) (hp.cell 5 (by rfl) 0 _ (by rfl))) ?_
 refine sx_rd 27 (.int .i64 (i : Int)) (by rfl) (ld1 (t := 3) (p := (.tmp 4)) (by rfl) (by rfl) (by kernel_rfl) (hp.cell 0 (by rfl) 0 _ (by rfl))) ?_
 refine sx_rd 28 (.int .i64 ((i : Int) + 1)) (by rfl) (wr_ok (by omega) (by kernel_rfl)) ?_
 refine sx_call 29 (by rfl) (by kernel_rfl) ((hIH w0 _ (blk ga #[.int .i64 (i : Int)] 3 :: cs) gL gc ge gt gl gb gw gm w h n ((b.set ((i : Int)).toNat l).set ((j : Int)).toNat l2) (i + 1) c cL F_5 hw1 hw2 hwh hn (by simp; omega) (by omega) (by omega) hc0 hcb (til_inv hw1 hbn hjw hinv) (hp.take [1, 2, 3, 4, 5, 6, 7, 8, 0] 9 (by decide) (by simp))).mono ?_)
 rintro _ W_7 ⟨FL2, rfl, hp⟩
 refine ⟨_, rfl, ?_⟩
 refine sx_rd 12 (.bool true) (by rfl) (by kernel_rfl) ?_
 refine sx_nil ?_
 refine ex_then_n ?_
 refine wp_seq ?_
 refine sx_drawT2 [3] (.rd 0 (.rd 1 (.rd 2 (.rd 4 (.alt 5 (.rd 6 (.alt 7 (.fin) .non)) .non))))) 8 (C := Hp w0 (blk gc #[.slice (some ⟨gL, 0, none⟩) n cL] 60 :: blk ge #[.func (.func 39) #[] #[.pointer (some ⟨gm, 0, none⟩)]] 67 :: blk gt #[.func (.func 37) #[] #[]] 24 :: blk gl #[.func (.func 66) #[] #[.pointer (some ⟨gc, 0, none⟩), .pointer (some ⟨ge, 0, none⟩), .pointer (some ⟨gt, 0, none⟩), .pointer (some ⟨gl, 0, none⟩), .pointer (some ⟨gb, 0, none⟩), .pointer (some ⟨gw, 0, none⟩)]] 101 :: blk gb #[.func (.func 38) #[] #[]] 66 :: blk gw #[.int .i64 w] 3 :: blk gm #[.int .i64 (c + cntT w (n : Int) d ((b.set ((i : Int)).toNat l).set ((j : Int)).toNat l2) (i + 1))] 3 :: blk ga #[.int .i64 (i : Int)] 3 :: cs)) (Hp w0 (blk gc #[.slice (some ⟨gL, 0, none⟩) n cL] 60 :: row (Kd.int .u8) 5 w0.heap.size (.slice (some ⟨gL, 0, none⟩) n cL) ((b.set ((i : Int)).toNat l).set ((j : Int)).toNat l2) FL2 :: blk ge #[.func (.func 39) #[] #[.pointer (some ⟨gm, 0, none⟩)]] 67 :: blk gt #[.func (.func 37) #[] #[]] 24 :: blk gl #[.func (.func 66) #[] #[.pointer (some ⟨gc, 0, none⟩), .pointer (some ⟨ge, 0, none⟩), .pointer (some ⟨gt, 0, none⟩), .pointer (some ⟨gl, 0, none⟩), .pointer (some ⟨gb, 0, none⟩), .pointer (some ⟨gw, 0, none⟩)]] 101 :: blk gb #[.func (.func 38) #[] #[]] 66 :: blk gw #[.int .i64 w] 3 :: blk gm #[.int .i64 (c + cntT w (n : Int) d ((b.set ((i : Int)).toNat l).set ((j : Int)).toNat l2) (i + 1))] 3 :: blk ga #[.int .i64 (i : Int)] 3 :: cs)) (fun W h => h.take [0, 2, 3, 4, 5, 6, 7, 8] 9 (by decide) (by simp)) (by kernel_rfl) (by kernel_rfl) (fun d _ _ _ _ h => by cases d <;> exact h) (fun W h => h.drew) hp ?_
 refine preI_read rfl ?_
 refine sxq_val 33 (.int .i64 (j : Int)) (by rfl) (fun W _ => (by kernel_rfl)) ?_
 refine sxq_nil ?_
 refine preI_nil ?_
 intro W_8 hp
 refine treeI_rd rfl ?_
 refine sxq_val 30 (.slice (some ⟨gL, 0, none⟩) n cL) (by rfl) (fun W hp => (ld1 (t := 60) (p := (.tmp 5)) (by rfl) (by rfl) (by kernel_rfl) (hp.cell 0 (by rfl) 0 _ (by rfl)))) ?_
 refine sxq_nil ?_
 refine treeI_rd rfl ?_
 refine sxq_val 31 (.int .i64 (i : Int)) (by rfl) (fun W hp => (ld1 (t := 3) (p := (.tmp 4)) (by rfl) (by rfl) (by kernel_rfl) (hp.cell 7 (by rfl) 0 _ (by rfl)))) ?_
 refine sxq_nil ?_
 refine treeI_rd rfl ?_
 refine sxq_val 32 (.slice (some ⟨gL, 0, none⟩) n cL) (by rfl) (fun W hp => (ld1 (t := 60) (p := (.tmp 5)) (by rfl) (by rfl) (by kernel_rfl) (hp.cell 0 (by rfl) 0 _ (by rfl)))) ?_
 refine sxq_nil ?_
 refine treeI_rd rfl ?_
 refine sxq_val 34 (.pointer (some (adr (some ⟨gL, 0, none⟩) (i : Int) 1))) (by rfl) (fun W hp => (ix_some (t := 60) (sz := 1) (by rfl) (by rfl) (by rfl) Try.underlying60 (by kernel_rfl) (by omega) (by omega))) ?_
 refine sxq_nil ?_
 refine treeI_ev rfl ?_
 refine sx_rowstore (t := 5) (p := (.tmp 34)) (x := (.const (Go.Value.int Go.IntKind.u8 0))) (by rfl) (by rfl) 1 (Kd.int .u8) (by rfl) (i : Int) 0 [.int .u8 0] (by rfl) (by rfl) (by kernel_rfl) (by simp [Value.oneCell']) (by rfl) (by omega) (by omega) 0 (fun _ => rfl) hp ?_
 intro F_9 W_10 hp; simp only [List.set_cons_succ, List.set_cons_zero] at hp
 refine step_fin (hp.take [0, 2, 3, 4, 5, 6, 7, 8] 9 (by decide) (by simp)) ?_
 refine treeI_rd rfl ?_
 refine sxq_val 35 (.pointer (some (adr (some ⟨gL, 0, none⟩) (j : Int) 1))) (by rfl) (fun W hp => (ix_some (t := 60) (sz := 1) (by rfl) (by rfl) (by rfl) Try.underlying60 (by kernel_rfl) (by omega) (by omega))) ?_
 refine sxq_nil ?_
 refine treeI_ev rfl ?_
 refine sx_rowstore (t := 5) (p := (.tmp 35)) (x := (.const (Go.Value.int Go.IntKind.u8 0))) (by rfl) (by rfl) 1 (Kd.int .u8) (by rfl) (j : Int) 0 [.int .u8 0] (by rfl) (by rfl) (by kernel_rfl) (by simp [Value.oneCell']) (by rfl) (by omega) (by omega) 0 (fun _ => rfl) hp ?_
 intro F_11 W_12 hp; simp only [List.set_cons_succ, List.set_cons_zero] at hp
 refine step_fin (hp.take [0, 2, 3, 4, 5, 6, 7, 8] 9 (by decide) (by simp)) ?_
 refine treeI_fin ?_
 refine sx_nil ?_
 refine ex_then_n ?_
 refine wp_seq ?_
 refine sx_region ?_
 refine sx_rd 36 (.func (.func 38) #[] #[]) (by rfl) (ld1 (t := 66) (p := (.tmp 7)) (by rfl) (by rfl) (by kernel_rfl) (hp.cell 5 (by rfl) 0 _ (by rfl))) ?_
 refine sx_rd 37 (.int .i64 (i : Int)) (by rfl) (ld1 (t := 3) (p := (.tmp 4)) (by rfl) (by rfl) (by kernel_rfl) (hp.cell 8 (by rfl) 0 _ (by rfl))) ?_
 refine sx_rd 38 (.int .i64 (j : Int)) (by rfl) (by kernel_rfl) ?_
 refine sx_call 39 (by rfl) (by kernel_rfl) ((no_sx (i : Int) (j : Int) hp).mono ?_)
 rintro _ W_13 ⟨rfl, hp⟩
 refine ⟨_, rfl, ?_⟩
 refine sx_nil ?_
 refine ex_then_n ?_
 refine wp_seq ?_
 refine sx_region ?_
 refine sx_rd 40 (.bool true) (by rfl) (by kernel_rfl) ?_
 refine sx_rd 11 (.bool true) (by rfl) (by kernel_rfl) ?_
 refine sx_nil ?_
 refine ex_then_n ?_
 refine wp_ret ?_
 refine sx_end (.bool true) (res1 11 (by rfl)) ?_
 have hbk : ((((b.set ((i : Int)).toNat l).set ((j : Int)).toNat l2).set ((i : Int)).toNat 0).set ((j : Int)).toNat 0) = b := set_back b ((i : Int)).toNat ((j : Int)).toNat l l2 (by omega) (by omega) (by rw [Int.toNat_natCast]; exact hbi) (by rw [Int.toNat_natCast]; exact hbj)
 have hpc : putC w (n : Int) d b i (j : Int) l l2 = cntT w (n : Int) d ((b.set ((i : Int)).toNat l).set ((j : Int)).toNat l2) (i + 1) := by unfold putC; rw [if_pos ⟨by omega, hbj⟩]; rfl
 have hq := (hp.take [8, 0, 1, 2, 3, 4, 5, 6, 7] 9 (by decide) (by simp))
 rw [hbk] at hq
 rw [hpc]
 exact ⟨_, rfl, hq⟩
theorem east_0 {w n : Int} {d : Nat} {b : List Int} {i : Nat} {l l2 : Int} (h : ¬ ((i : Int) % w < w - 1)) : putC w n d b i (nearE w (i : Int)) l l2 = 0 := by unfold nearE putC; rw [if_neg h, if_neg (fun q => by omega)]
theorem east_t {w n : Int} {d : Nat} {b : List Int} {i : Nat} {l l2 : Int} (h : (i : Int) % w < w - 1) : putC w n d b i (nearE w (i : Int)) l l2 = putC w n d b i (((i + 1) : Nat) : Int) l l2 := by unfold nearE; rw [if_pos h]; rfl
theorem east_z {w n : Int} {d : Nat} {b : List Int} {i : Nat} {l l2 : Int} (h : (i : Int) % w < w - 1) (hz : ¬ rd b ((i : Int) + 1) = 0) : putC w n d b i (nearE w (i : Int)) l l2 = 0 := by unfold nearE putC; rw [if_pos h, if_neg (fun q => hz q.2)]
theorem south_0 {w n : Int} {d : Nat} {b : List Int} {i : Nat} {l l2 : Int} (h : ¬ ((i : Int) + w < n)) : putC w n d b i (nearS w n (i : Int)) l l2 = 0 := by unfold nearS putC; rw [if_neg h, if_neg (fun q => by omega)]
theorem south_t {w n : Int} {d : Nat} {b : List Int} {i : Nat} {l l2 : Int} (h : (i : Int) + w < n) : putC w n d b i (nearS w n (i : Int)) l l2 = putC w n d b i ((i : Int) + w) l l2 := by unfold nearS; rw [if_pos h]
set_option maxRecDepth 100000 in
set_option maxHeartbeats 40000000 in
theorem lay_of (d : Nat) (hT : TryOk d) : LayOk (d + 1) := by
  intro w0 W cs gL gc ge gt gl gb gw gm w h n b a c cL FL hw1 hw2 hwh hn hbn han hdn hc0 hcb hinv hp
  simp only [P2] at hcb
  have hP2 := P2_pos d
  refine sx_enter (N := 66) (l := [.int .i64 (a : Int), .pointer (some ⟨gc, 0, none⟩), .pointer (some ⟨ge, 0, none⟩), .pointer (some ⟨gt, 0, none⟩), .pointer (some ⟨gl, 0, none⟩), .pointer (some ⟨gb, 0, none⟩), .pointer (some ⟨gw, 0, none⟩)]) Try.func66 rfl rfl rfl ?_
  refine wp_seq ?_
  refine sx_region ?_
  refine sx_box 7 hp #[.int .i64 (a : Int)] 3 (by rfl) (fun W => by kernel_rfl) ?_
  intro g_1 W_2 hp
  refine sx_rd 8 (.bool false) (by rfl) (by kernel_rfl) ?_
  refine sx_nil ?_
  refine ex_then_n ?_
  refine wp_seq ?_
  refine wp_block ?_
  refine wp_loop_ghost (fun n_ a_ W => ∃ (r_ : List (Nat × Value)) (i : Nat) , n_ = n - i ∧ a_ = fr 66 ([(1, .pointer (some ⟨gc, 0, none⟩)), (2, .pointer (some ⟨ge, 0, none⟩)), (3, .pointer (some ⟨gt, 0, none⟩)), (4, .pointer (some ⟨gl, 0, none⟩)), (5, .pointer (some ⟨gb, 0, none⟩)), (6, .pointer (some ⟨gw, 0, none⟩)), (7, .pointer (some ⟨g_1, 0, none⟩))] ++ r_) ∧ Hp w0 (blk g_1 #[.int .i64 (i : Int)] 3 :: blk gc #[.slice (some ⟨gL, 0, none⟩) n cL] 60 :: row (Kd.int .u8) 5 w0.heap.size (.slice (some ⟨gL, 0, none⟩) n cL) b FL :: blk ge #[.func (.func 39) #[] #[.pointer (some ⟨gm, 0, none⟩)]] 67 :: blk gt #[.func (.func 37) #[] #[]] 24 :: blk gl #[.func (.func 66) #[] #[.pointer (some ⟨gc, 0, none⟩), .pointer (some ⟨ge, 0, none⟩), .pointer (some ⟨gt, 0, none⟩), .pointer (some ⟨gl, 0, none⟩), .pointer (some ⟨gb, 0, none⟩), .pointer (some ⟨gw, 0, none⟩)]] 101 :: blk gb #[.func (.func 38) #[] #[]] 66 :: blk gw #[.int .i64 w] 3 :: blk gm #[.int .i64 c] 3 :: cs) W ∧ (i ≤ n) ∧ (a ≤ i) ∧ (∀ j, a ≤ j → j < i → rd b (j : Int) ≠ 0)) _ ⟨_, a, rfl, fr_front [(1, .pointer (some ⟨gc, 0, none⟩)), (2, .pointer (some ⟨ge, 0, none⟩)), (3, .pointer (some ⟨gt, 0, none⟩)), (4, .pointer (some ⟨gl, 0, none⟩)), (5, .pointer (some ⟨gb, 0, none⟩)), (6, .pointer (some ⟨gw, 0, none⟩)), (7, .pointer (some ⟨g_1, 0, none⟩))] ⟨rfl, rfl, rfl, rfl, rfl, rfl, rfl, trivial⟩, (hp.take [0, 1, 2, 3, 4, 5, 6, 7, 8] 9 (by decide) (by simp)), (by omega), (Nat.le_refl _), (fun j h1 h2 => absurd h1 (by omega))⟩ ?_
  rintro _ _ W_3 ⟨r_, i, rfl, rfl, hp, hi, hai, hsk⟩
  refine wp_seq ?_
  refine wp_seq ?_
  rcases Bool.eq_false_or_eq_true (decide ((i : Int) < (n : Int))) with c_4 | c_4
  ·
    have c_4p := of_decide_eq_true c_4
    refine sx_region ?_
    refine sx_rd 11 (.int .i64 (i : Int)) (by rfl) (ld1 (t := 3) (p := (.tmp 7)) (by rfl) (by rfl) (by kernel_rfl) (hp.cell 0 (by rfl) 0 _ (by rfl))) ?_
    refine sx_rd 12 (.slice (some ⟨gL, 0, none⟩) n cL) (by rfl) (ld1 (t := 60) (p := (.tmp 1)) (by rfl) (by rfl) (by kernel_rfl) (hp.cell 1 (by rfl) 0 _ (by rfl))) ?_
    refine sx_rd 13 (.int .i64 (n : Int)) (by rfl) (by kernel_rfl) ?_
    refine sx_rd 14 (.bool true) (by rfl) (bv c_4 (by kernel_rfl)) ?_
    refine sx_rd 15 (.bool true) (by rfl) (by kernel_rfl) ?_
    refine sx_want (by rfl) ?_
    refine sx_rd 16 (.slice (some ⟨gL, 0, none⟩) n cL) (by rfl) (ld1 (t := 60) (p := (.tmp 1)) (by rfl) (by rfl) (by kernel_rfl) (hp.cell 1 (by rfl) 0 _ (by rfl))) ?_
    refine sx_want (by rfl) ?_
    refine sx_rd 17 (.int .i64 (i : Int)) (by rfl) (ld1 (t := 3) (p := (.tmp 7)) (by rfl) (by rfl) (by kernel_rfl) (hp.cell 0 (by rfl) 0 _ (by rfl))) ?_
    refine sx_want (by rfl) ?_
    refine sx_rd 18 (.pointer (some (adr (some ⟨gL, 0, none⟩) (i : Int) 1))) (by rfl) (ix_run (d := (Kd.int .u8)) (row_Cn (hp.at_ 2 _ (by rfl))) (t := 60) (by rfl) (by rfl) (by rfl) Try.underlying60 (by kernel_rfl) (by omega) (by omega)) ?_
    refine sx_want (by rfl) ?_
    refine sx_rd 19 (.int .u8 (rd b (i : Int))) (by rfl) (ld1 (t := 5) (p := (.tmp 18)) (by rfl) (by rfl) (by kernel_rfl) (el_cell (d := (Kd.int .u8)) (row_C (hp.at_ 2 _ (by rfl))) 0 (i : Int) (by omega) (by omega) (cells := [.int .u8 (rd b (i : Int))]) (fun cs h => h) 0 _ (by rfl))) ?_
    refine sx_want (by rfl) ?_
    refine sx_rd 20 (.bool ((rd b (i : Int)) != 0)) (by rfl) (by kernel_rfl) ?_
    refine sx_rd 21 (.bool ((rd b (i : Int)) != 0)) (by rfl) (by kernel_rfl) ?_
    refine sx_nil ?_
    refine ex_then_n ?_
    refine sx_cond ((rd b (i : Int)) != 0) (by rfl) (fun c_5 => ?_) (fun c_5 => ?_)
    ·
      have c_5p := ne_of_bne_ c_5
      refine wp_skip ?_
      refine ex_then_n ?_
      refine wp_block ?_
      refine sx_region ?_
      refine sx_rd 22 (.int .i64 (i : Int)) (by rfl) (ld1 (t := 3) (p := (.tmp 7)) (by rfl) (by rfl) (by kernel_rfl) (hp.cell 0 (by rfl) 0 _ (by rfl))) ?_
      refine sx_rd 23 (.int .i64 ((i : Int) + 1)) (by rfl) (wr_ok (by omega) (by kernel_rfl)) ?_
      refine sx_store (t := 3) (p := (.tmp 7)) (x := (.tmp 23)) (by rfl) (by rfl) 0 (by rfl) 0 [.int .i64 ((i : Int) + 1)] (by rfl) (by rfl) (by kernel_rfl) (by simp [Value.oneCell']) (by show 1 ≤ 1; omega) #[.int .i64 ((i : Int) + 1)] (by rfl) hp ?_
      intro W_6 hp; simp only [List.set_cons_succ, List.set_cons_zero] at hp
      refine sx_nil ?_
      refine ex_blk_n ?_
      refine ex_then_n ?_
      have hq_7 : ((i : Int) + 1) = ((i + 1) : Int) := rfl
      rw [hq_7] at hp
      exact ⟨_, (by omega), _, (i + 1), rfl, fr_front [(1, .pointer (some ⟨gc, 0, none⟩)), (2, .pointer (some ⟨ge, 0, none⟩)), (3, .pointer (some ⟨gt, 0, none⟩)), (4, .pointer (some ⟨gl, 0, none⟩)), (5, .pointer (some ⟨gb, 0, none⟩)), (6, .pointer (some ⟨gw, 0, none⟩)), (7, .pointer (some ⟨g_1, 0, none⟩))] ⟨rfl, rfl, rfl, rfl, rfl, rfl, rfl, trivial⟩, (hp.take [0, 1, 2, 3, 4, 5, 6, 7, 8] 9 (by decide) (by simp)), (by omega), (by omega), (fun j h1 h2 => by rcases Nat.lt_succ_iff_lt_or_eq.1 h2 with q | rfl; exact hsk j h1 q; have q := c_5; simpa using q)⟩
    ·
      have c_5p := eq_of_bne_ c_5
      refine wp_exit ?_
      refine ex_then_e (ex_then_e (ex_blk_here ?_))
      refine ex_then_n ?_
      refine wp_seq ?_
      refine wp_seq ?_
      refine sx_region ?_
      refine sx_rd 24 (.int .i64 (i : Int)) (by rfl) (ld1 (t := 3) (p := (.tmp 7)) (by rfl) (by rfl) (by kernel_rfl) (hp.cell 0 (by rfl) 0 _ (by rfl))) ?_
      refine sx_rd 25 (.slice (some ⟨gL, 0, none⟩) n cL) (by rfl) (ld1 (t := 60) (p := (.tmp 1)) (by rfl) (by rfl) (by kernel_rfl) (hp.cell 1 (by rfl) 0 _ (by rfl))) ?_
      refine sx_rd 26 (.int .i64 (n : Int)) (by rfl) (by kernel_rfl) ?_
      refine sx_rd 27 (.bool ((i : Int) == (n : Int))) (by rfl) (by kernel_rfl) ?_
      refine sx_nil ?_
      refine ex_then_n ?_
      refine sx_cond ((i : Int) == (n : Int)) (by rfl) (fun c_8 => ?_) (fun c_8 => ?_)
      ·
        have c_8p := eq_of_beq_ c_8
        refine wp_seq ?_
        refine sx_region ?_
        refine sx_rd 28 (.func (.func 39) #[] #[.pointer (some ⟨gm, 0, none⟩)]) (by rfl) (ld1 (t := 67) (p := (.tmp 2)) (by rfl) (by rfl) (by kernel_rfl) (hp.cell 3 (by rfl) 0 _ (by rfl))) ?_
        refine sx_rd 29 (.slice (some ⟨gL, 0, none⟩) n cL) (by rfl) (ld1 (t := 60) (p := (.tmp 1)) (by rfl) (by rfl) (by kernel_rfl) (hp.cell 1 (by rfl) 0 _ (by rfl))) ?_
        refine sx_call 30 (by rfl) (by kernel_rfl) ((each_sx gm c (some ⟨gL, 0, none⟩) n cL hc0 (by omega) (hp.take [8, 0, 1, 2, 3, 4, 5, 6, 7] 9 (by decide) (by simp))).mono ?_)
        rintro _ W_9 ⟨rfl, hp⟩
        refine ⟨_, rfl, ?_⟩
        refine sx_rd 8 (.bool true) (by rfl) (by kernel_rfl) ?_
        refine sx_nil ?_
        refine ex_then_n ?_
        refine wp_ret ?_
        refine ex_then_r ?_
        refine sx_end (.bool true) (res1 8 (by rfl)) ?_
        obtain rfl : i = n := by omega
        have hff : ffN b a = b.length := ffN_end (by omega) (fun j h1 h2 => hsk j h1 (by omega))
        rw [cntT_succ, if_pos hff]
        exact ⟨_, rfl, (hp.take [2, 3, 4, 5, 6, 7, 8, 0] 9 (by decide) (by simp))⟩
      ·
        have c_8p := ne_of_beq_ c_8
        have hlt : i < n := by omega
        have hfree : rd b (i : Int) = 0 := by simpa using c_5
        have hinv2 : ∀ k : Nat, (i : Int) + w ≤ (k : Int) → k < n → rd b (k : Int) = 0 := fun k h1 h2 => hinv k (by omega) h2
        refine wp_skip ?_
        refine ex_then_n ?_
        refine wp_seq ?_
        refine sx_region ?_
        refine sx_rd 31 (.func (.func 67) #[] #[.pointer (some ⟨gt, 0, none⟩), .pointer (some ⟨g_1, 0, none⟩), .pointer (some ⟨gc, 0, none⟩), .pointer (some ⟨gl, 0, none⟩), .pointer (some ⟨gb, 0, none⟩)]) (by rfl) (by kernel_rfl) ?_
        refine sx_rd 9 (.func (.func 67) #[] #[.pointer (some ⟨gt, 0, none⟩), .pointer (some ⟨g_1, 0, none⟩), .pointer (some ⟨gc, 0, none⟩), .pointer (some ⟨gl, 0, none⟩), .pointer (some ⟨gb, 0, none⟩)]) (by rfl) (by kernel_rfl) ?_
        refine sx_nil ?_
        refine ex_then_n ?_
        refine wp_seq ?_
        refine wp_seq ?_
        rcases Bool.eq_false_or_eq_true (decide (((i : Int) % w) < (w - 1))) with c_10 | c_10
        ·
          have c_10p := of_decide_eq_true c_10
          have hE1 : (i : Int) + 1 < n := by have q := nearE_bd (i := (i : Int)) hw1 hwh (by omega) (by omega); unfold nearE at q; rw [if_pos (by omega)] at q; omega
          rcases Bool.eq_false_or_eq_true ((rd b ((i : Int) + 1)) == 0) with c_11 | c_11
          ·
            have c_11p := eq_of_beq_ c_11
            refine sx_drawT [] (.rd 0 (.rd 1 (.rd 2 (.rd 3 (.rd 4 (.rd 5 (.rd 6 (.rd 7 (.rd 8 (.rd 9 (.rd 10 (.rd 11 (.rd 12 (.rd 13 (.rd 14 (.rd 15 (.rd 16 (.rd 17 (.fin))))))))))))))))))) 18 (C := Hp w0 (blk g_1 #[.int .i64 (i : Int)] 3 :: blk gc #[.slice (some ⟨gL, 0, none⟩) n cL] 60 :: row (Kd.int .u8) 5 w0.heap.size (.slice (some ⟨gL, 0, none⟩) n cL) b FL :: blk ge #[.func (.func 39) #[] #[.pointer (some ⟨gm, 0, none⟩)]] 67 :: blk gt #[.func (.func 37) #[] #[]] 24 :: blk gl #[.func (.func 66) #[] #[.pointer (some ⟨gc, 0, none⟩), .pointer (some ⟨ge, 0, none⟩), .pointer (some ⟨gt, 0, none⟩), .pointer (some ⟨gl, 0, none⟩), .pointer (some ⟨gb, 0, none⟩), .pointer (some ⟨gw, 0, none⟩)]] 101 :: blk gb #[.func (.func 38) #[] #[]] 66 :: blk gw #[.int .i64 w] 3 :: blk gm #[.int .i64 c] 3 :: cs)) (by kernel_rfl) (by kernel_rfl) (fun d _ _ _ _ h => by cases d <;> exact h) (fun W h => h.drew) hp ?_
            refine preI_nil ?_
            intro W_12 hp
            refine treeI_rd rfl ?_
            refine sxq_val 32 (.int .i64 (i : Int)) (by rfl) (fun W hp => (ld1 (t := 3) (p := (.tmp 7)) (by rfl) (by rfl) (by kernel_rfl) (hp.cell 0 (by rfl) 0 _ (by rfl)))) ?_
            refine sxq_nil ?_
            refine treeI_rd rfl ?_
            refine sxq_val 33 (.int .i64 w) (by rfl) (fun W hp => (ld1 (t := 3) (p := (.tmp 6)) (by rfl) (by rfl) (by kernel_rfl) (hp.cell 7 (by rfl) 0 _ (by rfl)))) ?_
            refine sxq_nil ?_
            refine treeI_rd rfl ?_
            refine sxq_val 34 (.int .i64 ((i : Int) % w)) (by rfl) (fun W hp => (rem_run (by rfl) (by rfl) (by rfl) (by omega) (by omega))) ?_
            refine sxq_nil ?_
            refine treeI_rd rfl ?_
            refine sxq_val 35 (.int .i64 w) (by rfl) (fun W hp => (ld1 (t := 3) (p := (.tmp 6)) (by rfl) (by rfl) (by kernel_rfl) (hp.cell 7 (by rfl) 0 _ (by rfl)))) ?_
            refine sxq_nil ?_
            refine treeI_rd rfl ?_
            refine sxq_val 36 (.int .i64 (w - 1)) (by rfl) (fun W hp => (wr_ok (by omega) (by kernel_rfl))) ?_
            refine sxq_nil ?_
            refine treeI_rd rfl ?_
            refine sxq_val 37 (.bool true) (by rfl) (fun W hp => (bv c_10 (by kernel_rfl))) ?_
            refine sxq_nil ?_
            refine treeI_rd rfl ?_
            refine sxq_val 38 (.bool true) (by rfl) (fun W hp => (by kernel_rfl)) ?_
            refine sxq_nil ?_
            refine treeI_rd rfl ?_
            refine sxq_want (by rfl) ?_
            refine sxq_val 39 (.slice (some ⟨gL, 0, none⟩) n cL) (by rfl) (fun W hp => (ld1 (t := 60) (p := (.tmp 1)) (by rfl) (by rfl) (by kernel_rfl) (hp.cell 1 (by rfl) 0 _ (by rfl)))) ?_
            refine sxq_nil ?_
            refine treeI_rd rfl ?_
            refine sxq_want (by rfl) ?_
            refine sxq_val 40 (.int .i64 (i : Int)) (by rfl) (fun W hp => (ld1 (t := 3) (p := (.tmp 7)) (by rfl) (by rfl) (by kernel_rfl) (hp.cell 0 (by rfl) 0 _ (by rfl)))) ?_
            refine sxq_nil ?_
            refine treeI_rd rfl ?_
            refine sxq_want (by rfl) ?_
            refine sxq_val 41 (.int .i64 ((i : Int) + 1)) (by rfl) (fun W hp => (wr_ok (by omega) (by kernel_rfl))) ?_
            refine sxq_nil ?_
            refine treeI_rd rfl ?_
            refine sxq_want (by rfl) ?_
            refine sxq_val 42 (.pointer (some (adr (some ⟨gL, 0, none⟩) ((i : Int) + 1) 1))) (by rfl) (fun W hp => (ix_run (d := (Kd.int .u8)) (row_Cn (hp.at_ 2 _ (by rfl))) (t := 60) (by rfl) (by rfl) (by rfl) Try.underlying60 (by kernel_rfl) (by omega) (by omega))) ?_
            refine sxq_nil ?_
            refine treeI_rd rfl ?_
            refine sxq_want (by rfl) ?_
            refine sxq_val 43 (.int .u8 (rd b ((i : Int) + 1))) (by rfl) (fun W hp => (ld1 (t := 5) (p := (.tmp 42)) (by rfl) (by rfl) (by kernel_rfl) (el_cell (d := (Kd.int .u8)) (row_C (hp.at_ 2 _ (by rfl))) 0 ((i : Int) + 1) (by omega) (by omega) (cells := [.int .u8 (rd b ((i : Int) + 1))]) (fun cs h => h) 0 _ (by rfl)))) ?_
            refine sxq_nil ?_
            refine treeI_rd rfl ?_
            refine sxq_want (by rfl) ?_
            refine sxq_val 44 (.bool true) (by rfl) (fun W hp => (bv c_11 (by kernel_rfl))) ?_
            refine sxq_nil ?_
            refine treeI_rd rfl ?_
            refine sxq_val 45 (.bool true) (by rfl) (fun W hp => (by kernel_rfl)) ?_
            refine sxq_nil ?_
            refine treeI_rd rfl ?_
            refine sxq_val 46 (.bool true) (by rfl) (fun W hp => (by kernel_rfl)) ?_
            refine sxq_nil ?_
            refine treeI_rd rfl ?_
            refine sxq_want (by rfl) ?_
            refine sxq_val 47 (.func (.func 67) #[] #[.pointer (some ⟨gt, 0, none⟩), .pointer (some ⟨g_1, 0, none⟩), .pointer (some ⟨gc, 0, none⟩), .pointer (some ⟨gl, 0, none⟩), .pointer (some ⟨gb, 0, none⟩)]) (by rfl) (fun W hp => (by kernel_rfl)) ?_
            refine sxq_nil ?_
            refine treeI_rd rfl ?_
            refine sxq_want (by rfl) ?_
            refine sxq_val 48 (.int .i64 (i : Int)) (by rfl) (fun W hp => (ld1 (t := 3) (p := (.tmp 7)) (by rfl) (by rfl) (by kernel_rfl) (hp.cell 0 (by rfl) 0 _ (by rfl)))) ?_
            refine sxq_nil ?_
            refine treeI_rd rfl ?_
            refine sxq_want (by rfl) ?_
            refine sxq_val 49 (.int .i64 ((i : Int) + 1)) (by rfl) (fun W hp => (wr_ok (by omega) (by kernel_rfl))) ?_
            refine sxq_nil ?_
            refine treeI_fin ?_
            refine tail_of [18, 19, 20] (by rfl) ?_
            refine tailI_op rfl ?_
            refine sx_want (by rfl) ?_
            have hpb_101 := putC_bd w (n : Int) d b i (((i + 1) : Nat) : Int) 101 119
            refine sx_call 50 (by rfl) (by kernel_rfl) (((hT w0 _ (cs) gL gc ge gt gl gb gw gm w h n b g_1 i (i + 1) 101 119 c cL FL hw1 hw2 hwh hn hbn (by omega) hfree (by omega) (by omega) (by simpa using c_11) (by omega) (by omega) (by omega) (by omega) hinv2 (hp.take [0, 1, 2, 3, 4, 5, 6, 7, 8] 9 (by decide) (by simp)))).mono ?_)
            rintro _ W_14 ⟨FT_13, rfl, hp⟩
            refine ⟨_, rfl, ?_⟩
            refine tailI_next ?_
            refine tailI_op rfl ?_
            refine sx_want (by rfl) ?_
            refine sx_rd 51 (.bool false) (by rfl) (by kernel_rfl) ?_
            refine tailI_next ?_
            refine tailI_op rfl ?_
            refine sx_rd 52 (.bool false) (by rfl) (by kernel_rfl) ?_
            refine tailI_next ?_
            refine tailI_nil ?_
            refine ex_then_n ?_
            refine sx_else false (by rfl) rfl ?_
            refine wp_skip ?_
            refine ex_then_n ?_
            refine wp_seq ?_
            refine wp_seq ?_
            refine sx_region ?_
            refine sx_rd 53 (.int .i64 (i : Int)) (by rfl) (ld1 (t := 3) (p := (.tmp 7)) (by rfl) (by rfl) (by kernel_rfl) (hp.cell 0 (by rfl) 0 _ (by rfl))) ?_
            refine sx_rd 54 (.int .i64 w) (by rfl) (ld1 (t := 3) (p := (.tmp 6)) (by rfl) (by rfl) (by kernel_rfl) (hp.cell 7 (by rfl) 0 _ (by rfl))) ?_
            refine sx_rd 55 (.int .i64 ((i : Int) + w)) (by rfl) (wr_ok (by omega) (by kernel_rfl)) ?_
            refine sx_rd 10 (.int .i64 ((i : Int) + w)) (by rfl) (by kernel_rfl) ?_
            refine sx_nil ?_
            refine ex_then_n ?_
            refine wp_seq ?_
            rcases Bool.eq_false_or_eq_true (decide (((i : Int) + w) < (n : Int))) with c_15 | c_15
            ·
              have c_15p := of_decide_eq_true c_15
              refine sx_region ?_
              refine sx_rd 56 (.int .i64 ((i : Int) + w)) (by rfl) (by kernel_rfl) ?_
              refine sx_rd 57 (.slice (some ⟨gL, 0, none⟩) n cL) (by rfl) (ld1 (t := 60) (p := (.tmp 1)) (by rfl) (by rfl) (by kernel_rfl) (hp.cell 1 (by rfl) 0 _ (by rfl))) ?_
              refine sx_rd 58 (.int .i64 (n : Int)) (by rfl) (by kernel_rfl) ?_
              refine sx_rd 59 (.bool true) (by rfl) (bv c_15 (by kernel_rfl)) ?_
              refine sx_rd 60 (.bool true) (by rfl) (by kernel_rfl) ?_
              refine sx_want (by rfl) ?_
              refine sx_rd 61 (.func (.func 67) #[] #[.pointer (some ⟨gt, 0, none⟩), .pointer (some ⟨g_1, 0, none⟩), .pointer (some ⟨gc, 0, none⟩), .pointer (some ⟨gl, 0, none⟩), .pointer (some ⟨gb, 0, none⟩)]) (by rfl) (by kernel_rfl) ?_
              refine sx_want (by rfl) ?_
              refine sx_rd 62 (.int .i64 ((i : Int) + w)) (by rfl) (by kernel_rfl) ?_
              refine sx_want (by rfl) ?_
              have hpb_115 := putC_bd w (n : Int) d b i ((((i : Int) + w).toNat : Nat) : Int) 115 110
              have hJ : ((((i : Int) + w).toNat : Nat) : Int) = (i : Int) + w := Int.toNat_of_nonneg (by omega)
              have hq_16 := (hT w0 _ (cs) gL gc ge gt gl gb gw gm w h n b g_1 i ((i : Int) + w).toNat 115 110 (c + putC w (n : Int) d b i (((i + 1) : Nat) : Int) 101 119) cL FT_13 hw1 hw2 hwh hn hbn (by omega) hfree (by omega) (by omega) (by rw [hJ]; have q := hinv2 ((i : Int) + w).toNat (by omega) (by omega); rw [hJ] at q; exact q) (by omega) (by omega) (by omega) (by omega) hinv2 (hp.take [0, 1, 2, 3, 4, 5, 6, 7, 8] 9 (by decide) (by simp)))
              rw [hJ] at hq_16
              refine sx_call 63 (by rfl) (by kernel_rfl) ((hq_16).mono ?_)
              rintro _ W_18 ⟨FT_17, rfl, hp⟩
              refine ⟨_, rfl, ?_⟩
              refine sx_want (by rfl) ?_
              refine sx_rd 64 (.bool false) (by rfl) (by kernel_rfl) ?_
              refine sx_rd 65 (.bool false) (by rfl) (by kernel_rfl) ?_
              refine sx_nil ?_
              refine ex_then_n ?_
              refine sx_else false (by rfl) rfl ?_
              refine wp_skip ?_
              refine ex_then_n ?_
              refine wp_seq ?_
              refine sx_region ?_
              refine sx_rd 8 (.bool true) (by rfl) (by kernel_rfl) ?_
              refine sx_nil ?_
              refine ex_then_n ?_
              refine wp_ret ?_
              refine sx_end (.bool true) (res1 8 (by rfl)) ?_
              have hff : ffN b a = i := ffN_hit hai (by omega) hsk hfree
              rw [cntT_succ, if_neg (by omega), hff, ← Int.add_assoc]
              rw [east_t (by omega), south_t (by omega)]
              exact ⟨_, rfl, (hp.take [1, 2, 3, 4, 5, 6, 7, 8] 9 (by decide) (by simp))⟩
            ·
              have c_15p := of_decide_eq_false c_15
              refine sx_region ?_
              refine sx_rd 56 (.int .i64 ((i : Int) + w)) (by rfl) (by kernel_rfl) ?_
              refine sx_rd 57 (.slice (some ⟨gL, 0, none⟩) n cL) (by rfl) (ld1 (t := 60) (p := (.tmp 1)) (by rfl) (by rfl) (by kernel_rfl) (hp.cell 1 (by rfl) 0 _ (by rfl))) ?_
              refine sx_rd 58 (.int .i64 (n : Int)) (by rfl) (by kernel_rfl) ?_
              refine sx_rd 59 (.bool false) (by rfl) (bv c_15 (by kernel_rfl)) ?_
              refine sx_rd 60 (.bool false) (by rfl) (by kernel_rfl) ?_
              refine sx_skip 61 (by rfl) (by rfl) (by rfl) ?_
              refine sx_skip 62 (by rfl) (by rfl) (by rfl) ?_
              refine sx_skip 63 (by rfl) (by rfl) (by rfl) ?_
              refine sx_skip 64 (by rfl) (by rfl) (by rfl) ?_
              refine sx_rd 65 (.bool false) (by rfl) (by kernel_rfl) ?_
              refine sx_nil ?_
              refine ex_then_n ?_
              refine sx_else false (by rfl) rfl ?_
              refine wp_skip ?_
              refine ex_then_n ?_
              refine wp_seq ?_
              refine sx_region ?_
              refine sx_rd 8 (.bool true) (by rfl) (by kernel_rfl) ?_
              refine sx_nil ?_
              refine ex_then_n ?_
              refine wp_ret ?_
              refine sx_end (.bool true) (res1 8 (by rfl)) ?_
              have hff : ffN b a = i := ffN_hit hai (by omega) hsk hfree
              rw [cntT_succ, if_neg (by omega), hff, ← Int.add_assoc]
              rw [east_t (by omega), south_0 (by omega), Int.add_zero]
              exact ⟨_, rfl, (hp.take [1, 2, 3, 4, 5, 6, 7, 8] 9 (by decide) (by simp))⟩
          ·
            have c_11p := ne_of_beq_ c_11
            refine sx_drawT [] (.rd 0 (.rd 1 (.rd 2 (.rd 3 (.rd 4 (.rd 5 (.rd 6 (.rd 7 (.rd 8 (.rd 9 (.rd 10 (.rd 11 (.rd 12 (.rd 13 (.rd 14 (.rd 15 (.rd 16 (.rd 17 (.alt 18 (.rd 19 (.rd 20 (.fin))) .non))))))))))))))))))) 21 (C := Hp w0 (blk g_1 #[.int .i64 (i : Int)] 3 :: blk gc #[.slice (some ⟨gL, 0, none⟩) n cL] 60 :: row (Kd.int .u8) 5 w0.heap.size (.slice (some ⟨gL, 0, none⟩) n cL) b FL :: blk ge #[.func (.func 39) #[] #[.pointer (some ⟨gm, 0, none⟩)]] 67 :: blk gt #[.func (.func 37) #[] #[]] 24 :: blk gl #[.func (.func 66) #[] #[.pointer (some ⟨gc, 0, none⟩), .pointer (some ⟨ge, 0, none⟩), .pointer (some ⟨gt, 0, none⟩), .pointer (some ⟨gl, 0, none⟩), .pointer (some ⟨gb, 0, none⟩), .pointer (some ⟨gw, 0, none⟩)]] 101 :: blk gb #[.func (.func 38) #[] #[]] 66 :: blk gw #[.int .i64 w] 3 :: blk gm #[.int .i64 c] 3 :: cs)) (by kernel_rfl) (by kernel_rfl) (fun d _ _ _ _ h => by cases d <;> exact h) (fun W h => h.drew) hp ?_
            refine preI_nil ?_
            intro W_19 hp
            refine treeI_rd rfl ?_
            refine sxq_val 32 (.int .i64 (i : Int)) (by rfl) (fun W hp => (ld1 (t := 3) (p := (.tmp 7)) (by rfl) (by rfl) (by kernel_rfl) (hp.cell 0 (by rfl) 0 _ (by rfl)))) ?_
            refine sxq_nil ?_
            refine treeI_rd rfl ?_
            refine sxq_val 33 (.int .i64 w) (by rfl) (fun W hp => (ld1 (t := 3) (p := (.tmp 6)) (by rfl) (by rfl) (by kernel_rfl) (hp.cell 7 (by rfl) 0 _ (by rfl)))) ?_
            refine sxq_nil ?_
            refine treeI_rd rfl ?_
            refine sxq_val 34 (.int .i64 ((i : Int) % w)) (by rfl) (fun W hp => (rem_run (by rfl) (by rfl) (by rfl) (by omega) (by omega))) ?_
            refine sxq_nil ?_
            refine treeI_rd rfl ?_
            refine sxq_val 35 (.int .i64 w) (by rfl) (fun W hp => (ld1 (t := 3) (p := (.tmp 6)) (by rfl) (by rfl) (by kernel_rfl) (hp.cell 7 (by rfl) 0 _ (by rfl)))) ?_
            refine sxq_nil ?_
            refine treeI_rd rfl ?_
            refine sxq_val 36 (.int .i64 (w - 1)) (by rfl) (fun W hp => (wr_ok (by omega) (by kernel_rfl))) ?_
            refine sxq_nil ?_
            refine treeI_rd rfl ?_
            refine sxq_val 37 (.bool true) (by rfl) (fun W hp => (bv c_10 (by kernel_rfl))) ?_
            refine sxq_nil ?_
            refine treeI_rd rfl ?_
            refine sxq_val 38 (.bool true) (by rfl) (fun W hp => (by kernel_rfl)) ?_
            refine sxq_nil ?_
            refine treeI_rd rfl ?_
            refine sxq_want (by rfl) ?_
            refine sxq_val 39 (.slice (some ⟨gL, 0, none⟩) n cL) (by rfl) (fun W hp => (ld1 (t := 60) (p := (.tmp 1)) (by rfl) (by rfl) (by kernel_rfl) (hp.cell 1 (by rfl) 0 _ (by rfl)))) ?_
            refine sxq_nil ?_
            refine treeI_rd rfl ?_
            refine sxq_want (by rfl) ?_
            refine sxq_val 40 (.int .i64 (i : Int)) (by rfl) (fun W hp => (ld1 (t := 3) (p := (.tmp 7)) (by rfl) (by rfl) (by kernel_rfl) (hp.cell 0 (by rfl) 0 _ (by rfl)))) ?_
            refine sxq_nil ?_
            refine treeI_rd rfl ?_
            refine sxq_want (by rfl) ?_
            refine sxq_val 41 (.int .i64 ((i : Int) + 1)) (by rfl) (fun W hp => (wr_ok (by omega) (by kernel_rfl))) ?_
            refine sxq_nil ?_
            refine treeI_rd rfl ?_
            refine sxq_want (by rfl) ?_
            refine sxq_val 42 (.pointer (some (adr (some ⟨gL, 0, none⟩) ((i : Int) + 1) 1))) (by rfl) (fun W hp => (ix_run (d := (Kd.int .u8)) (row_Cn (hp.at_ 2 _ (by rfl))) (t := 60) (by rfl) (by rfl) (by rfl) Try.underlying60 (by kernel_rfl) (by omega) (by omega))) ?_
            refine sxq_nil ?_
            refine treeI_rd rfl ?_
            refine sxq_want (by rfl) ?_
            refine sxq_val 43 (.int .u8 (rd b ((i : Int) + 1))) (by rfl) (fun W hp => (ld1 (t := 5) (p := (.tmp 42)) (by rfl) (by rfl) (by kernel_rfl) (el_cell (d := (Kd.int .u8)) (row_C (hp.at_ 2 _ (by rfl))) 0 ((i : Int) + 1) (by omega) (by omega) (cells := [.int .u8 (rd b ((i : Int) + 1))]) (fun cs h => h) 0 _ (by rfl)))) ?_
            refine sxq_nil ?_
            refine treeI_rd rfl ?_
            refine sxq_want (by rfl) ?_
            refine sxq_val 44 (.bool false) (by rfl) (fun W hp => (bv c_11 (by kernel_rfl))) ?_
            refine sxq_nil ?_
            refine treeI_rd rfl ?_
            refine sxq_val 45 (.bool false) (by rfl) (fun W hp => (by kernel_rfl)) ?_
            refine sxq_nil ?_
            refine treeI_rd rfl ?_
            refine sxq_val 46 (.bool false) (by rfl) (fun W hp => (by kernel_rfl)) ?_
            refine sxq_nil ?_
            refine treeI_rd rfl ?_
            refine sxq_skip 47 (by rfl) (by rfl) (by rfl) ?_
            refine sxq_nil ?_
            refine treeI_rd rfl ?_
            refine sxq_skip 48 (by rfl) (by rfl) (by rfl) ?_
            refine sxq_nil ?_
            refine treeI_rd rfl ?_
            refine sxq_skip 49 (by rfl) (by rfl) (by rfl) ?_
            refine sxq_nil ?_
            refine treeI_ev rfl ?_
            refine sx_skip 50 (by rfl) (by rfl) (by rfl) ?_
            refine step_fin hp ?_
            refine treeI_rd rfl ?_
            refine sxq_skip 51 (by rfl) (by rfl) (by rfl) ?_
            refine sxq_nil ?_
            refine treeI_rd rfl ?_
            refine sxq_val 52 (.bool false) (by rfl) (fun W hp => (by kernel_rfl)) ?_
            refine sxq_nil ?_
            refine treeI_fin ?_
            refine sx_nil ?_
            refine ex_then_n ?_
            refine sx_else false (by rfl) rfl ?_
            refine wp_skip ?_
            refine ex_then_n ?_
            refine wp_seq ?_
            refine wp_seq ?_
            refine sx_region ?_
            refine sx_rd 53 (.int .i64 (i : Int)) (by rfl) (ld1 (t := 3) (p := (.tmp 7)) (by rfl) (by rfl) (by kernel_rfl) (hp.cell 0 (by rfl) 0 _ (by rfl))) ?_
            refine sx_rd 54 (.int .i64 w) (by rfl) (ld1 (t := 3) (p := (.tmp 6)) (by rfl) (by rfl) (by kernel_rfl) (hp.cell 7 (by rfl) 0 _ (by rfl))) ?_
            refine sx_rd 55 (.int .i64 ((i : Int) + w)) (by rfl) (wr_ok (by omega) (by kernel_rfl)) ?_
            refine sx_rd 10 (.int .i64 ((i : Int) + w)) (by rfl) (by kernel_rfl) ?_
            refine sx_nil ?_
            refine ex_then_n ?_
            refine wp_seq ?_
            rcases Bool.eq_false_or_eq_true (decide (((i : Int) + w) < (n : Int))) with c_20 | c_20
            ·
              have c_20p := of_decide_eq_true c_20
              refine sx_region ?_
              refine sx_rd 56 (.int .i64 ((i : Int) + w)) (by rfl) (by kernel_rfl) ?_
              refine sx_rd 57 (.slice (some ⟨gL, 0, none⟩) n cL) (by rfl) (ld1 (t := 60) (p := (.tmp 1)) (by rfl) (by rfl) (by kernel_rfl) (hp.cell 1 (by rfl) 0 _ (by rfl))) ?_
              refine sx_rd 58 (.int .i64 (n : Int)) (by rfl) (by kernel_rfl) ?_
              refine sx_rd 59 (.bool true) (by rfl) (bv c_20 (by kernel_rfl)) ?_
              refine sx_rd 60 (.bool true) (by rfl) (by kernel_rfl) ?_
              refine sx_want (by rfl) ?_
              refine sx_rd 61 (.func (.func 67) #[] #[.pointer (some ⟨gt, 0, none⟩), .pointer (some ⟨g_1, 0, none⟩), .pointer (some ⟨gc, 0, none⟩), .pointer (some ⟨gl, 0, none⟩), .pointer (some ⟨gb, 0, none⟩)]) (by rfl) (by kernel_rfl) ?_
              refine sx_want (by rfl) ?_
              refine sx_rd 62 (.int .i64 ((i : Int) + w)) (by rfl) (by kernel_rfl) ?_
              refine sx_want (by rfl) ?_
              have hpb_115 := putC_bd w (n : Int) d b i ((((i : Int) + w).toNat : Nat) : Int) 115 110
              have hJ : ((((i : Int) + w).toNat : Nat) : Int) = (i : Int) + w := Int.toNat_of_nonneg (by omega)
              have hq_21 := (hT w0 _ (cs) gL gc ge gt gl gb gw gm w h n b g_1 i ((i : Int) + w).toNat 115 110 c cL FL hw1 hw2 hwh hn hbn (by omega) hfree (by omega) (by omega) (by rw [hJ]; have q := hinv2 ((i : Int) + w).toNat (by omega) (by omega); rw [hJ] at q; exact q) (by omega) (by omega) (by omega) (by omega) hinv2 (hp.take [0, 1, 2, 3, 4, 5, 6, 7, 8] 9 (by decide) (by simp)))
              rw [hJ] at hq_21
              refine sx_call 63 (by rfl) (by kernel_rfl) ((hq_21).mono ?_)
              rintro _ W_23 ⟨FT_22, rfl, hp⟩
              refine ⟨_, rfl, ?_⟩
              refine sx_want (by rfl) ?_
              refine sx_rd 64 (.bool false) (by rfl) (by kernel_rfl) ?_
              refine sx_rd 65 (.bool false) (by rfl) (by kernel_rfl) ?_
              refine sx_nil ?_
              refine ex_then_n ?_
              refine sx_else false (by rfl) rfl ?_
              refine wp_skip ?_
              refine ex_then_n ?_
              refine wp_seq ?_
              refine sx_region ?_
              refine sx_rd 8 (.bool true) (by rfl) (by kernel_rfl) ?_
              refine sx_nil ?_
              refine ex_then_n ?_
              refine wp_ret ?_
              refine sx_end (.bool true) (res1 8 (by rfl)) ?_
              have hff : ffN b a = i := ffN_hit hai (by omega) hsk hfree
              rw [cntT_succ, if_neg (by omega), hff, ← Int.add_assoc]
              rw [east_z (by omega) (by have q := c_11; simpa using q), south_t (by omega), Int.add_zero]
              exact ⟨_, rfl, (hp.take [1, 2, 3, 4, 5, 6, 7, 8] 9 (by decide) (by simp))⟩
            ·
              have c_20p := of_decide_eq_false c_20
              refine sx_region ?_
              refine sx_rd 56 (.int .i64 ((i : Int) + w)) (by rfl) (by kernel_rfl) ?_
              refine sx_rd 57 (.slice (some ⟨gL, 0, none⟩) n cL) (by rfl) (ld1 (t := 60) (p := (.tmp 1)) (by rfl) (by rfl) (by kernel_rfl) (hp.cell 1 (by rfl) 0 _ (by rfl))) ?_
              refine sx_rd 58 (.int .i64 (n : Int)) (by rfl) (by kernel_rfl) ?_
              refine sx_rd 59 (.bool false) (by rfl) (bv c_20 (by kernel_rfl)) ?_
              refine sx_rd 60 (.bool false) (by rfl) (by kernel_rfl) ?_
              refine sx_skip 61 (by rfl) (by rfl) (by rfl) ?_
              refine sx_skip 62 (by rfl) (by rfl) (by rfl) ?_
              refine sx_skip 63 (by rfl) (by rfl) (by rfl) ?_
              refine sx_skip 64 (by rfl) (by rfl) (by rfl) ?_
              refine sx_rd 65 (.bool false) (by rfl) (by kernel_rfl) ?_
              refine sx_nil ?_
              refine ex_then_n ?_
              refine sx_else false (by rfl) rfl ?_
              refine wp_skip ?_
              refine ex_then_n ?_
              refine wp_seq ?_
              refine sx_region ?_
              refine sx_rd 8 (.bool true) (by rfl) (by kernel_rfl) ?_
              refine sx_nil ?_
              refine ex_then_n ?_
              refine wp_ret ?_
              refine sx_end (.bool true) (res1 8 (by rfl)) ?_
              have hff : ffN b a = i := ffN_hit hai (by omega) hsk hfree
              rw [cntT_succ, if_neg (by omega), hff, ← Int.add_assoc]
              rw [east_z (by omega) (by have q := c_11; simpa using q), south_0 (by omega), Int.add_zero, Int.add_zero]
              exact ⟨_, rfl, (hp.take [1, 2, 3, 4, 5, 6, 7, 8] 9 (by decide) (by simp))⟩
        ·
          have c_10p := of_decide_eq_false c_10
          refine sx_drawT [] (.rd 0 (.rd 1 (.rd 2 (.rd 3 (.rd 4 (.rd 5 (.rd 6 (.rd 7 (.rd 8 (.rd 9 (.rd 10 (.rd 11 (.rd 12 (.rd 13 (.rd 14 (.rd 15 (.rd 16 (.rd 17 (.alt 18 (.rd 19 (.rd 20 (.fin))) .non))))))))))))))))))) 21 (C := Hp w0 (blk g_1 #[.int .i64 (i : Int)] 3 :: blk gc #[.slice (some ⟨gL, 0, none⟩) n cL] 60 :: row (Kd.int .u8) 5 w0.heap.size (.slice (some ⟨gL, 0, none⟩) n cL) b FL :: blk ge #[.func (.func 39) #[] #[.pointer (some ⟨gm, 0, none⟩)]] 67 :: blk gt #[.func (.func 37) #[] #[]] 24 :: blk gl #[.func (.func 66) #[] #[.pointer (some ⟨gc, 0, none⟩), .pointer (some ⟨ge, 0, none⟩), .pointer (some ⟨gt, 0, none⟩), .pointer (some ⟨gl, 0, none⟩), .pointer (some ⟨gb, 0, none⟩), .pointer (some ⟨gw, 0, none⟩)]] 101 :: blk gb #[.func (.func 38) #[] #[]] 66 :: blk gw #[.int .i64 w] 3 :: blk gm #[.int .i64 c] 3 :: cs)) (by kernel_rfl) (by kernel_rfl) (fun d _ _ _ _ h => by cases d <;> exact h) (fun W h => h.drew) hp ?_
          refine preI_nil ?_
          intro W_24 hp
          refine treeI_rd rfl ?_
          refine sxq_val 32 (.int .i64 (i : Int)) (by rfl) (fun W hp => (ld1 (t := 3) (p := (.tmp 7)) (by rfl) (by rfl) (by kernel_rfl) (hp.cell 0 (by rfl) 0 _ (by rfl)))) ?_
          refine sxq_nil ?_
          refine treeI_rd rfl ?_
          refine sxq_val 33 (.int .i64 w) (by rfl) (fun W hp => (ld1 (t := 3) (p := (.tmp 6)) (by rfl) (by rfl) (by kernel_rfl) (hp.cell 7 (by rfl) 0 _ (by rfl)))) ?_
          refine sxq_nil ?_
          refine treeI_rd rfl ?_
          refine sxq_val 34 (.int .i64 ((i : Int) % w)) (by rfl) (fun W hp => (rem_run (by rfl) (by rfl) (by rfl) (by omega) (by omega))) ?_
          refine sxq_nil ?_
          refine treeI_rd rfl ?_
          refine sxq_val 35 (.int .i64 w) (by rfl) (fun W hp => (ld1 (t := 3) (p := (.tmp 6)) (by rfl) (by rfl) (by kernel_rfl) (hp.cell 7 (by rfl) 0 _ (by rfl)))) ?_
          refine sxq_nil ?_
          refine treeI_rd rfl ?_
          refine sxq_val 36 (.int .i64 (w - 1)) (by rfl) (fun W hp => (wr_ok (by omega) (by kernel_rfl))) ?_
          refine sxq_nil ?_
          refine treeI_rd rfl ?_
          refine sxq_val 37 (.bool false) (by rfl) (fun W hp => (bv c_10 (by kernel_rfl))) ?_
          refine sxq_nil ?_
          refine treeI_rd rfl ?_
          refine sxq_val 38 (.bool false) (by rfl) (fun W hp => (by kernel_rfl)) ?_
          refine sxq_nil ?_
          refine treeI_rd rfl ?_
          refine sxq_skip 39 (by rfl) (by rfl) (by rfl) ?_
          refine sxq_nil ?_
          refine treeI_rd rfl ?_
          refine sxq_skip 40 (by rfl) (by rfl) (by rfl) ?_
          refine sxq_nil ?_
          refine treeI_rd rfl ?_
          refine sxq_skip 41 (by rfl) (by rfl) (by rfl) ?_
          refine sxq_nil ?_
          refine treeI_rd rfl ?_
          refine sxq_skip 42 (by rfl) (by rfl) (by rfl) ?_
          refine sxq_nil ?_
          refine treeI_rd rfl ?_
          refine sxq_skip 43 (by rfl) (by rfl) (by rfl) ?_
          refine sxq_nil ?_
          refine treeI_rd rfl ?_
          refine sxq_skip 44 (by rfl) (by rfl) (by rfl) ?_
          refine sxq_nil ?_
          refine treeI_rd rfl ?_
          refine sxq_val 45 (.bool false) (by rfl) (fun W hp => (by kernel_rfl)) ?_
          refine sxq_nil ?_
          refine treeI_rd rfl ?_
          refine sxq_val 46 (.bool false) (by rfl) (fun W hp => (by kernel_rfl)) ?_
          refine sxq_nil ?_
          refine treeI_rd rfl ?_
          refine sxq_skip 47 (by rfl) (by rfl) (by rfl) ?_
          refine sxq_nil ?_
          refine treeI_rd rfl ?_
          refine sxq_skip 48 (by rfl) (by rfl) (by rfl) ?_
          refine sxq_nil ?_
          refine treeI_rd rfl ?_
          refine sxq_skip 49 (by rfl) (by rfl) (by rfl) ?_
          refine sxq_nil ?_
          refine treeI_ev rfl ?_
          refine sx_skip 50 (by rfl) (by rfl) (by rfl) ?_
          refine step_fin hp ?_
          refine treeI_rd rfl ?_
          refine sxq_skip 51 (by rfl) (by rfl) (by rfl) ?_
          refine sxq_nil ?_
          refine treeI_rd rfl ?_
          refine sxq_val 52 (.bool false) (by rfl) (fun W hp => (by kernel_rfl)) ?_
          refine sxq_nil ?_
          refine treeI_fin ?_
          refine sx_nil ?_
          refine ex_then_n ?_
          refine sx_else false (by rfl) rfl ?_
          refine wp_skip ?_
          refine ex_then_n ?_
          refine wp_seq ?_
          refine wp_seq ?_
          refine sx_region ?_
          refine sx_rd 53 (.int .i64 (i : Int)) (by rfl) (ld1 (t := 3) (p := (.tmp 7)) (by rfl) (by rfl) (by kernel_rfl) (hp.cell 0 (by rfl) 0 _ (by rfl))) ?_
          refine sx_rd 54 (.int .i64 w) (by rfl) (ld1 (t := 3) (p := (.tmp 6)) (by rfl) (by rfl) (by kernel_rfl) (hp.cell 7 (by rfl) 0 _ (by rfl))) ?_
          refine sx_rd 55 (.int .i64 ((i : Int) + w)) (by rfl) (wr_ok (by omega) (by kernel_rfl)) ?_
          refine sx_rd 10 (.int .i64 ((i : Int) + w)) (by rfl) (by kernel_rfl) ?_
          refine sx_nil ?_
          refine ex_then_n ?_
          refine wp_seq ?_
          rcases Bool.eq_false_or_eq_true (decide (((i : Int) + w) < (n : Int))) with c_25 | c_25
          ·
            have c_25p := of_decide_eq_true c_25
            refine sx_region ?_
            refine sx_rd 56 (.int .i64 ((i : Int) + w)) (by rfl) (by kernel_rfl) ?_
            refine sx_rd 57 (.slice (some ⟨gL, 0, none⟩) n cL) (by rfl) (ld1 (t := 60) (p := (.tmp 1)) (by rfl) (by rfl) (by kernel_rfl) (hp.cell 1 (by rfl) 0 _ (by rfl))) ?_
            refine sx_rd 58 (.int .i64 (n : Int)) (by rfl) (by kernel_rfl) ?_
            refine sx_rd 59 (.bool true) (by rfl) (bv c_25 (by kernel_rfl)) ?_
            refine sx_rd 60 (.bool true) (by rfl) (by kernel_rfl) ?_
            refine sx_want (by rfl) ?_
            refine sx_rd 61 (.func (.func 67) #[] #[.pointer (some ⟨gt, 0, none⟩), .pointer (some ⟨g_1, 0, none⟩), .pointer (some ⟨gc, 0, none⟩), .pointer (some ⟨gl, 0, none⟩), .pointer (some ⟨gb, 0, none⟩)]) (by rfl) (by kernel_rfl) ?_
            refine sx_want (by rfl) ?_
            refine sx_rd 62 (.int .i64 ((i : Int) + w)) (by rfl) (by kernel_rfl) ?_
            refine sx_want (by rfl) ?_
            have hpb_115 := putC_bd w (n : Int) d b i ((((i : Int) + w).toNat : Nat) : Int) 115 110
            have hJ : ((((i : Int) + w).toNat : Nat) : Int) = (i : Int) + w := Int.toNat_of_nonneg (by omega)
            have hq_26 := (hT w0 _ (cs) gL gc ge gt gl gb gw gm w h n b g_1 i ((i : Int) + w).toNat 115 110 c cL FL hw1 hw2 hwh hn hbn (by omega) hfree (by omega) (by omega) (by rw [hJ]; have q := hinv2 ((i : Int) + w).toNat (by omega) (by omega); rw [hJ] at q; exact q) (by omega) (by omega) (by omega) (by omega) hinv2 (hp.take [0, 1, 2, 3, 4, 5, 6, 7, 8] 9 (by decide) (by simp)))
            rw [hJ] at hq_26
            refine sx_call 63 (by rfl) (by kernel_rfl) ((hq_26).mono ?_)
            rintro _ W_28 ⟨FT_27, rfl, hp⟩
            refine ⟨_, rfl, ?_⟩
            refine sx_want (by rfl) ?_
            refine sx_rd 64 (.bool false) (by rfl) (by kernel_rfl) ?_
            refine sx_rd 65 (.bool false) (by rfl) (by kernel_rfl) ?_
            refine sx_nil ?_
            refine ex_then_n ?_
            refine sx_else false (by rfl) rfl ?_
            refine wp_skip ?_
            refine ex_then_n ?_
            refine wp_seq ?_
            refine sx_region ?_
            refine sx_rd 8 (.bool true) (by rfl) (by kernel_rfl) ?_
            refine sx_nil ?_
            refine ex_then_n ?_
            refine wp_ret ?_
            refine sx_end (.bool true) (res1 8 (by rfl)) ?_
            have hff : ffN b a = i := ffN_hit hai (by omega) hsk hfree
            rw [cntT_succ, if_neg (by omega), hff, ← Int.add_assoc]
            rw [east_0 (by omega), south_t (by omega), Int.add_zero]
            exact ⟨_, rfl, (hp.take [1, 2, 3, 4, 5, 6, 7, 8] 9 (by decide) (by simp))⟩
          ·
            have c_25p := of_decide_eq_false c_25
            refine sx_region ?_
            refine sx_rd 56 (.int .i64 ((i : Int) + w)) (by rfl) (by kernel_rfl) ?_
            refine sx_rd 57 (.slice (some ⟨gL, 0, none⟩) n cL) (by rfl) (ld1 (t := 60) (p := (.tmp 1)) (by rfl) (by rfl) (by kernel_rfl) (hp.cell 1 (by rfl) 0 _ (by rfl))) ?_
            refine sx_rd 58 (.int .i64 (n : Int)) (by rfl) (by kernel_rfl) ?_
            refine sx_rd 59 (.bool false) (by rfl) (bv c_25 (by kernel_rfl)) ?_
            refine sx_rd 60 (.bool false) (by rfl) (by kernel_rfl) ?_
            refine sx_skip 61 (by rfl) (by rfl) (by rfl) ?_
            refine sx_skip 62 (by rfl) (by rfl) (by rfl) ?_
            refine sx_skip 63 (by rfl) (by rfl) (by rfl) ?_
            refine sx_skip 64 (by rfl) (by rfl) (by rfl) ?_
            refine sx_rd 65 (.bool false) (by rfl) (by kernel_rfl) ?_
            refine sx_nil ?_
            refine ex_then_n ?_
            refine sx_else false (by rfl) rfl ?_
            refine wp_skip ?_
            refine ex_then_n ?_
            refine wp_seq ?_
            refine sx_region ?_
            refine sx_rd 8 (.bool true) (by rfl) (by kernel_rfl) ?_
            refine sx_nil ?_
            refine ex_then_n ?_
            refine wp_ret ?_
            refine sx_end (.bool true) (res1 8 (by rfl)) ?_
            have hff : ffN b a = i := ffN_hit hai (by omega) hsk hfree
            rw [cntT_succ, if_neg (by omega), hff, ← Int.add_assoc]
            rw [east_0 (by omega), south_0 (by omega), Int.add_zero, Int.add_zero]
            exact ⟨_, rfl, (hp.take [1, 2, 3, 4, 5, 6, 7, 8] 9 (by decide) (by simp))⟩
  ·
    have c_4p := of_decide_eq_false c_4
    refine sx_region ?_
    refine sx_rd 11 (.int .i64 (i : Int)) (by rfl) (ld1 (t := 3) (p := (.tmp 7)) (by rfl) (by rfl) (by kernel_rfl) (hp.cell 0 (by rfl) 0 _ (by rfl))) ?_
    refine sx_rd 12 (.slice (some ⟨gL, 0, none⟩) n cL) (by rfl) (ld1 (t := 60) (p := (.tmp 1)) (by rfl) (by rfl) (by kernel_rfl) (hp.cell 1 (by rfl) 0 _ (by rfl))) ?_
    refine sx_rd 13 (.int .i64 (n : Int)) (by rfl) (by kernel_rfl) ?_
    refine sx_rd 14 (.bool false) (by rfl) (bv c_4 (by kernel_rfl)) ?_
    refine sx_rd 15 (.bool false) (by rfl) (by kernel_rfl) ?_
    refine sx_skip 16 (by rfl) (by rfl) (by rfl) ?_
    refine sx_skip 17 (by rfl) (by rfl) (by rfl) ?_
    refine sx_skip 18 (by rfl) (by rfl) (by rfl) ?_
    refine sx_skip 19 (by rfl) (by rfl) (by rfl) ?_
    refine sx_skip 20 (by rfl) (by rfl) (by rfl) ?_
    refine sx_rd 21 (.bool false) (by rfl) (by kernel_rfl) ?_
    refine sx_nil ?_
    refine ex_then_n ?_
    refine sx_else false (by rfl) rfl ?_
    refine wp_exit ?_
    refine ex_then_e (ex_then_e (ex_blk_here ?_))
    refine ex_then_n ?_
    refine wp_seq ?_
    refine wp_seq ?_
    refine sx_region ?_
    refine sx_rd 24 (.int .i64 (i : Int)) (by rfl) (ld1 (t := 3) (p := (.tmp 7)) (by rfl) (by rfl) (by kernel_rfl) (hp.cell 0 (by rfl) 0 _ (by rfl))) ?_
    refine sx_rd 25 (.slice (some ⟨gL, 0, none⟩) n cL) (by rfl) (ld1 (t := 60) (p := (.tmp 1)) (by rfl) (by rfl) (by kernel_rfl) (hp.cell 1 (by rfl) 0 _ (by rfl))) ?_
    refine sx_rd 26 (.int .i64 (n : Int)) (by rfl) (by kernel_rfl) ?_
    refine sx_rd 27 (.bool ((i : Int) == (n : Int))) (by rfl) (by kernel_rfl) ?_
    refine sx_nil ?_
    refine ex_then_n ?_
    refine sx_cond ((i : Int) == (n : Int)) (by rfl) (fun c_29 => ?_) (fun c_29 => ?_)
    ·
      have c_29p := eq_of_beq_ c_29
      refine wp_seq ?_
      refine sx_region ?_
      refine sx_rd 28 (.func (.func 39) #[] #[.pointer (some ⟨gm, 0, none⟩)]) (by rfl) (ld1 (t := 67) (p := (.tmp 2)) (by rfl) (by rfl) (by kernel_rfl) (hp.cell 3 (by rfl) 0 _ (by rfl))) ?_
      refine sx_rd 29 (.slice (some ⟨gL, 0, none⟩) n cL) (by rfl) (ld1 (t := 60) (p := (.tmp 1)) (by rfl) (by rfl) (by kernel_rfl) (hp.cell 1 (by rfl) 0 _ (by rfl))) ?_
      refine sx_call 30 (by rfl) (by kernel_rfl) ((each_sx gm c (some ⟨gL, 0, none⟩) n cL hc0 (by omega) (hp.take [8, 0, 1, 2, 3, 4, 5, 6, 7] 9 (by decide) (by simp))).mono ?_)
      rintro _ W_30 ⟨rfl, hp⟩
      refine ⟨_, rfl, ?_⟩
      refine sx_rd 8 (.bool true) (by rfl) (by kernel_rfl) ?_
      refine sx_nil ?_
      refine ex_then_n ?_
      refine wp_ret ?_
      refine ex_then_r ?_
      refine sx_end (.bool true) (res1 8 (by rfl)) ?_
      obtain rfl : i = n := by omega
      have hff : ffN b a = b.length := ffN_end (by omega) (fun j h1 h2 => hsk j h1 (by omega))
      rw [cntT_succ, if_pos hff]
      exact ⟨_, rfl, (hp.take [2, 3, 4, 5, 6, 7, 8, 0] 9 (by decide) (by simp))⟩
    ·
      have c_29p := ne_of_beq_ c_29
      have hlt : i < n := by omega
      have hfree : rd b (i : Int) = 0 := by exact absurd c_29p (by omega)
      have hinv2 : ∀ k : Nat, (i : Int) + w ≤ (k : Int) → k < n → rd b (k : Int) = 0 := fun k h1 h2 => hinv k (by omega) h2
      refine wp_skip ?_
      refine ex_then_n ?_
      refine wp_seq ?_
      refine sx_region ?_
      refine sx_rd 31 (.func (.func 67) #[] #[.pointer (some ⟨gt, 0, none⟩), .pointer (some ⟨g_1, 0, none⟩), .pointer (some ⟨gc, 0, none⟩), .pointer (some ⟨gl, 0, none⟩), .pointer (some ⟨gb, 0, none⟩)]) (by rfl) (by kernel_rfl) ?_
      refine sx_rd 9 (.func (.func 67) #[] #[.pointer (some ⟨gt, 0, none⟩), .pointer (some ⟨g_1, 0, none⟩), .pointer (some ⟨gc, 0, none⟩), .pointer (some ⟨gl, 0, none⟩), .pointer (some ⟨gb, 0, none⟩)]) (by rfl) (by kernel_rfl) ?_
      refine sx_nil ?_
      refine ex_then_n ?_
      refine wp_seq ?_
      refine wp_seq ?_
      rcases Bool.eq_false_or_eq_true (decide (((i : Int) % w) < (w - 1))) with c_31 | c_31
      ·
        have c_31p := of_decide_eq_true c_31
        have hE1 : (i : Int) + 1 < n := by have q := nearE_bd (i := (i : Int)) hw1 hwh (by omega) (by omega); unfold nearE at q; rw [if_pos (by omega)] at q; omega
        rcases Bool.eq_false_or_eq_true ((rd b ((i : Int) + 1)) == 0) with c_32 | c_32
        ·
          have c_32p := eq_of_beq_ c_32
          refine sx_drawT [] (.rd 0 (.rd 1 (.rd 2 (.rd 3 (.rd 4 (.rd 5 (.rd 6 (.rd 7 (.rd 8 (.rd 9 (.rd 10 (.rd 11 (.rd 12 (.rd 13 (.rd 14 (.rd 15 (.rd 16 (.rd 17 (.fin))))))))))))))))))) 18 (C := Hp w0 (blk g_1 #[.int .i64 (i : Int)] 3 :: blk gc #[.slice (some ⟨gL, 0, none⟩) n cL] 60 :: row (Kd.int .u8) 5 w0.heap.size (.slice (some ⟨gL, 0, none⟩) n cL) b FL :: blk ge #[.func (.func 39) #[] #[.pointer (some ⟨gm, 0, none⟩)]] 67 :: blk gt #[.func (.func 37) #[] #[]] 24 :: blk gl #[.func (.func 66) #[] #[.pointer (some ⟨gc, 0, none⟩), .pointer (some ⟨ge, 0, none⟩), .pointer (some ⟨gt, 0, none⟩), .pointer (some ⟨gl, 0, none⟩), .pointer (some ⟨gb, 0, none⟩), .pointer (some ⟨gw, 0, none⟩)]] 101 :: blk gb #[.func (.func 38) #[] #[]] 66 :: blk gw #[.int .i64 w] 3 :: blk gm #[.int .i64 c] 3 :: cs)) (by kernel_rfl) (by kernel_rfl) (fun d _ _ _ _ h => by cases d <;> exact h) (fun W h => h.drew) hp ?_
          refine preI_nil ?_
          intro W_33 hp
          refine treeI_rd rfl ?_
          refine sxq_val 32 (.int .i64 (i : Int)) (by rfl) (fun W hp => (ld1 (t := 3) (p := (.tmp 7)) (by rfl) (by rfl) (by kernel_rfl) (hp.cell 0 (by rfl) 0 _ (by rfl)))) ?_
          refine sxq_nil ?_
          refine treeI_rd rfl ?_
          refine sxq_val 33 (.int .i64 w) (by rfl) (fun W hp => (ld1 (t := 3) (p := (.tmp 6)) (by rfl) (by rfl) (by kernel_rfl) (hp.cell 7 (by rfl) 0 _ (by rfl)))) ?_
          refine sxq_nil ?_
          refine treeI_rd rfl ?_
          refine sxq_val 34 (.int .i64 ((i : Int) % w)) (by rfl) (fun W hp => (rem_run (by rfl) (by rfl) (by rfl) (by omega) (by omega))) ?_
          refine sxq_nil ?_
          refine treeI_rd rfl ?_
          refine sxq_val 35 (.int .i64 w) (by rfl) (fun W hp => (ld1 (t := 3) (p := (.tmp 6)) (by rfl) (by rfl) (by kernel_rfl) (hp.cell 7 (by rfl) 0 _ (by rfl)))) ?_
          refine sxq_nil ?_
          refine treeI_rd rfl ?_
          refine sxq_val 36 (.int .i64 (w - 1)) (by rfl) (fun W hp => (wr_ok (by omega) (by kernel_rfl))) ?_
          refine sxq_nil ?_
          refine treeI_rd rfl ?_
          refine sxq_val 37 (.bool true) (by rfl) (fun W hp => (bv c_31 (by kernel_rfl))) ?_
          refine sxq_nil ?_
          refine treeI_rd rfl ?_
          refine sxq_val 38 (.bool true) (by rfl) (fun W hp => (by kernel_rfl)) ?_
          refine sxq_nil ?_
          refine treeI_rd rfl ?_
          refine sxq_want (by rfl) ?_
          refine sxq_val 39 (.slice (some ⟨gL, 0, none⟩) n cL) (by rfl) (fun W hp => (ld1 (t := 60) (p := (.tmp 1)) (by rfl) (by rfl) (by kernel_rfl) (hp.cell 1 (by rfl) 0 _ (by rfl)))) ?_
          refine sxq_nil ?_
          refine treeI_rd rfl ?_
          refine sxq_want (by rfl) ?_
          refine sxq_val 40 (.int .i64 (i : Int)) (by rfl) (fun W hp => (ld1 (t := 3) (p := (.tmp 7)) (by rfl) (by rfl) (by kernel_rfl) (hp.cell 0 (by rfl) 0 _ (by rfl)))) ?_
          refine sxq_nil ?_
          refine treeI_rd rfl ?_
          refine sxq_want (by rfl) ?_
          refine sxq_val 41 (.int .i64 ((i : Int) + 1)) (by rfl) (fun W hp => (wr_ok (by omega) (by kernel_rfl))) ?_
          refine sxq_nil ?_
          refine treeI_rd rfl ?_
          refine sxq_want (by rfl) ?_
          refine sxq_val 42 (.pointer (some (adr (some ⟨gL, 0, none⟩) ((i : Int) + 1) 1))) (by rfl) (fun W hp => (ix_run (d := (Kd.int .u8)) (row_Cn (hp.at_ 2 _ (by rfl))) (t := 60) (by rfl) (by rfl) (by rfl) Try.underlying60 (by kernel_rfl) (by omega) (by omega))) ?_
          refine sxq_nil ?_
          refine treeI_rd rfl ?_
          refine sxq_want (by rfl) ?_
          refine sxq_val 43 (.int .u8 (rd b ((i : Int) + 1))) (by rfl) (fun W hp => (ld1 (t := 5) (p := (.tmp 42)) (by rfl) (by rfl) (by kernel_rfl) (el_cell (d := (Kd.int .u8)) (row_C (hp.at_ 2 _ (by rfl))) 0 ((i : Int) + 1) (by omega) (by omega) (cells := [.int .u8 (rd b ((i : Int) + 1))]) (fun cs h => h) 0 _ (by rfl)))) ?_
          refine sxq_nil ?_
          refine treeI_rd rfl ?_
          refine sxq_want (by rfl) ?_
          refine sxq_val 44 (.bool true) (by rfl) (fun W hp => (bv c_32 (by kernel_rfl))) ?_
          refine sxq_nil ?_
          refine treeI_rd rfl ?_
          refine sxq_val 45 (.bool true) (by rfl) (fun W hp => (by kernel_rfl)) ?_
          refine sxq_nil ?_
          refine treeI_rd rfl ?_
          refine sxq_val 46 (.bool true) (by rfl) (fun W hp => (by kernel_rfl)) ?_
          refine sxq_nil ?_
          refine treeI_rd rfl ?_
          refine sxq_want (by rfl) ?_
          refine sxq_val 47 (.func (.func 67) #[] #[.pointer (some ⟨gt, 0, none⟩), .pointer (some ⟨g_1, 0, none⟩), .pointer (some ⟨gc, 0, none⟩), .pointer (some ⟨gl, 0, none⟩), .pointer (some ⟨gb, 0, none⟩)]) (by rfl) (fun W hp => (by kernel_rfl)) ?_
          refine sxq_nil ?_
          refine treeI_rd rfl ?_
          refine sxq_want (by rfl) ?_
          refine sxq_val 48 (.int .i64 (i : Int)) (by rfl) (fun W hp => (ld1 (t := 3) (p := (.tmp 7)) (by rfl) (by rfl) (by kernel_rfl) (hp.cell 0 (by rfl) 0 _ (by rfl)))) ?_
          refine sxq_nil ?_
          refine treeI_rd rfl ?_
          refine sxq_want (by rfl) ?_
          refine sxq_val 49 (.int .i64 ((i : Int) + 1)) (by rfl) (fun W hp => (wr_ok (by omega) (by kernel_rfl))) ?_
          refine sxq_nil ?_
          refine treeI_fin ?_
          refine tail_of [18, 19, 20] (by rfl) ?_
          refine tailI_op rfl ?_
          refine sx_want (by rfl) ?_
          have hpb_101 := putC_bd w (n : Int) d b i (((i + 1) : Nat) : Int) 101 119
          refine sx_call 50 (by rfl) (by kernel_rfl) (((hT w0 _ (cs) gL gc ge gt gl gb gw gm w h n b g_1 i (i + 1) 101 119 c cL FL hw1 hw2 hwh hn hbn (by omega) hfree (by omega) (by omega) (by simpa using c_32) (by omega) (by omega) (by omega) (by omega) hinv2 (hp.take [0, 1, 2, 3, 4, 5, 6, 7, 8] 9 (by decide) (by simp)))).mono ?_)
          rintro _ W_35 ⟨FT_34, rfl, hp⟩
          refine ⟨_, rfl, ?_⟩
          refine tailI_next ?_
          refine tailI_op rfl ?_
          refine sx_want (by rfl) ?_
          refine sx_rd 51 (.bool false) (by rfl) (by kernel_rfl) ?_
          refine tailI_next ?_
          refine tailI_op rfl ?_
          refine sx_rd 52 (.bool false) (by rfl) (by kernel_rfl) ?_
          refine tailI_next ?_
          refine tailI_nil ?_
          refine ex_then_n ?_
          refine sx_else false (by rfl) rfl ?_
          refine wp_skip ?_
          refine ex_then_n ?_
          refine wp_seq ?_
          refine wp_seq ?_
          refine sx_region ?_
          refine sx_rd 53 (.int .i64 (i : Int)) (by rfl) (ld1 (t := 3) (p := (.tmp 7)) (by rfl) (by rfl) (by kernel_rfl) (hp.cell 0 (by rfl) 0 _ (by rfl))) ?_
          refine sx_rd 54 (.int .i64 w) (by rfl) (ld1 (t := 3) (p := (.tmp 6)) (by rfl) (by rfl) (by kernel_rfl) (hp.cell 7 (by rfl) 0 _ (by rfl))) ?_
          refine sx_rd 55 (.int .i64 ((i : Int) + w)) (by rfl) (wr_ok (by omega) (by kernel_rfl)) ?_
          refine sx_rd 10 (.int .i64 ((i : Int) + w)) (by rfl) (by kernel_rfl) ?_
          refine sx_nil ?_
          refine ex_then_n ?_
          refine wp_seq ?_
          rcases Bool.eq_false_or_eq_true (decide (((i : Int) + w) < (n : Int))) with c_36 | c_36
          ·
            have c_36p := of_decide_eq_true c_36
            refine sx_region ?_
            refine sx_rd 56 (.int .i64 ((i : Int) + w)) (by rfl) (by kernel_rfl) ?_
            refine sx_rd 57 (.slice (some ⟨gL, 0, none⟩) n cL) (by rfl) (ld1 (t := 60) (p := (.tmp 1)) (by rfl) (by rfl) (by kernel_rfl) (hp.cell 1 (by rfl) 0 _ (by rfl))) ?_
            refine sx_rd 58 (.int .i64 (n : Int)) (by rfl) (by kernel_rfl) ?_
            refine sx_rd 59 (.bool true) (by rfl) (bv c_36 (by kernel_rfl)) ?_
            refine sx_rd 60 (.bool true) (by rfl) (by kernel_rfl) ?_
            refine sx_want (by rfl) ?_
            refine sx_rd 61 (.func (.func 67) #[] #[.pointer (some ⟨gt, 0, none⟩), .pointer (some ⟨g_1, 0, none⟩), .pointer (some ⟨gc, 0, none⟩), .pointer (some ⟨gl, 0, none⟩), .pointer (some ⟨gb, 0, none⟩)]) (by rfl) (by kernel_rfl) ?_
            refine sx_want (by rfl) ?_
            refine sx_rd 62 (.int .i64 ((i : Int) + w)) (by rfl) (by kernel_rfl) ?_
            refine sx_want (by rfl) ?_
            have hpb_115 := putC_bd w (n : Int) d b i ((((i : Int) + w).toNat : Nat) : Int) 115 110
            have hJ : ((((i : Int) + w).toNat : Nat) : Int) = (i : Int) + w := Int.toNat_of_nonneg (by omega)
            have hq_37 := (hT w0 _ (cs) gL gc ge gt gl gb gw gm w h n b g_1 i ((i : Int) + w).toNat 115 110 (c + putC w (n : Int) d b i (((i + 1) : Nat) : Int) 101 119) cL FT_34 hw1 hw2 hwh hn hbn (by omega) hfree (by omega) (by omega) (by rw [hJ]; have q := hinv2 ((i : Int) + w).toNat (by omega) (by omega); rw [hJ] at q; exact q) (by omega) (by omega) (by omega) (by omega) hinv2 (hp.take [0, 1, 2, 3, 4, 5, 6, 7, 8] 9 (by decide) (by simp)))
            rw [hJ] at hq_37
            refine sx_call 63 (by rfl) (by kernel_rfl) ((hq_37).mono ?_)
            rintro _ W_39 ⟨FT_38, rfl, hp⟩
            refine ⟨_, rfl, ?_⟩
            refine sx_want (by rfl) ?_
            refine sx_rd 64 (.bool false) (by rfl) (by kernel_rfl) ?_
            refine sx_rd 65 (.bool false) (by rfl) (by kernel_rfl) ?_
            refine sx_nil ?_
            refine ex_then_n ?_
            refine sx_else false (by rfl) rfl ?_
            refine wp_skip ?_
            refine ex_then_n ?_
            refine wp_seq ?_
            refine sx_region ?_
            refine sx_rd 8 (.bool true) (by rfl) (by kernel_rfl) ?_
            refine sx_nil ?_
            refine ex_then_n ?_
            refine wp_ret ?_
            refine sx_end (.bool true) (res1 8 (by rfl)) ?_
            have hff : ffN b a = i := ffN_hit hai (by omega) hsk hfree
            rw [cntT_succ, if_neg (by omega), hff, ← Int.add_assoc]
            rw [east_t (by omega), south_t (by omega)]
            exact ⟨_, rfl, (hp.take [1, 2, 3, 4, 5, 6, 7, 8] 9 (by decide) (by simp))⟩
          ·
            have c_36p := of_decide_eq_false c_36
            refine sx_region ?_
            refine sx_rd 56 (.int .i64 ((i : Int) + w)) (by rfl) (by kernel_rfl) ?_
            refine sx_rd 57 (.slice (some ⟨gL, 0, none⟩) n cL) (by rfl) (ld1 (t := 60) (p := (.tmp 1)) (by rfl) (by rfl) (by kernel_rfl) (hp.cell 1 (by rfl) 0 _ (by rfl))) ?_
            refine sx_rd 58 (.int .i64 (n : Int)) (by rfl) (by kernel_rfl) ?_
            refine sx_rd 59 (.bool false) (by rfl) (bv c_36 (by kernel_rfl)) ?_
            refine sx_rd 60 (.bool false) (by rfl) (by kernel_rfl) ?_
            refine sx_skip 61 (by rfl) (by rfl) (by rfl) ?_
            refine sx_skip 62 (by rfl) (by rfl) (by rfl) ?_
            refine sx_skip 63 (by rfl) (by rfl) (by rfl) ?_
            refine sx_skip 64 (by rfl) (by rfl) (by rfl) ?_
            refine sx_rd 65 (.bool false) (by rfl) (by kernel_rfl) ?_
            refine sx_nil ?_
            refine ex_then_n ?_
            refine sx_else false (by rfl) rfl ?_
            refine wp_skip ?_
            refine ex_then_n ?_
            refine wp_seq ?_
            refine sx_region ?_
            refine sx_rd 8 (.bool true) (by rfl) (by kernel_rfl) ?_
            refine sx_nil ?_
            refine ex_then_n ?_
            refine wp_ret ?_
            refine sx_end (.bool true) (res1 8 (by rfl)) ?_
            have hff : ffN b a = i := ffN_hit hai (by omega) hsk hfree
            rw [cntT_succ, if_neg (by omega), hff, ← Int.add_assoc]
            rw [east_t (by omega), south_0 (by omega), Int.add_zero]
            exact ⟨_, rfl, (hp.take [1, 2, 3, 4, 5, 6, 7, 8] 9 (by decide) (by simp))⟩
        ·
          have c_32p := ne_of_beq_ c_32
          refine sx_drawT [] (.rd 0 (.rd 1 (.rd 2 (.rd 3 (.rd 4 (.rd 5 (.rd 6 (.rd 7 (.rd 8 (.rd 9 (.rd 10 (.rd 11 (.rd 12 (.rd 13 (.rd 14 (.rd 15 (.rd 16 (.rd 17 (.alt 18 (.rd 19 (.rd 20 (.fin))) .non))))))))))))))))))) 21 (C := Hp w0 (blk g_1 #[.int .i64 (i : Int)] 3 :: blk gc #[.slice (some ⟨gL, 0, none⟩) n cL] 60 :: row (Kd.int .u8) 5 w0.heap.size (.slice (some ⟨gL, 0, none⟩) n cL) b FL :: blk ge #[.func (.func 39) #[] #[.pointer (some ⟨gm, 0, none⟩)]] 67 :: blk gt #[.func (.func 37) #[] #[]] 24 :: blk gl #[.func (.func 66) #[] #[.pointer (some ⟨gc, 0, none⟩), .pointer (some ⟨ge, 0, none⟩), .pointer (some ⟨gt, 0, none⟩), .pointer (some ⟨gl, 0, none⟩), .pointer (some ⟨gb, 0, none⟩), .pointer (some ⟨gw, 0, none⟩)]] 101 :: blk gb #[.func (.func 38) #[] #[]] 66 :: blk gw #[.int .i64 w] 3 :: blk gm #[.int .i64 c] 3 :: cs)) (by kernel_rfl) (by kernel_rfl) (fun d _ _ _ _ h => by cases d <;> exact h) (fun W h => h.drew) hp ?_
          refine preI_nil ?_
          intro W_40 hp
          refine treeI_rd rfl ?_
          refine sxq_val 32 (.int .i64 (i : Int)) (by rfl) (fun W hp => (ld1 (t := 3) (p := (.tmp 7)) (by rfl) (by rfl) (by kernel_rfl) (hp.cell 0 (by rfl) 0 _ (by rfl)))) ?_
          refine sxq_nil ?_
          refine treeI_rd rfl ?_
          refine sxq_val 33 (.int .i64 w) (by rfl) (fun W hp => (ld1 (t := 3) (p := (.tmp 6)) (by rfl) (by rfl) (by kernel_rfl) (hp.cell 7 (by rfl) 0 _ (by rfl)))) ?_
          refine sxq_nil ?_
          refine treeI_rd rfl ?_
          refine sxq_val 34 (.int .i64 ((i : Int) % w)) (by rfl) (fun W hp => (rem_run (by rfl) (by rfl) (by rfl) (by omega) (by omega))) ?_
          refine sxq_nil ?_
          refine treeI_rd rfl ?_
          refine sxq_val 35 (.int .i64 w) (by rfl) (fun W hp => (ld1 (t := 3) (p := (.tmp 6)) (by rfl) (by rfl) (by kernel_rfl) (hp.cell 7 (by rfl) 0 _ (by rfl)))) ?_
          refine sxq_nil ?_
          refine treeI_rd rfl ?_
          refine sxq_val 36 (.int .i64 (w - 1)) (by rfl) (fun W hp => (wr_ok (by omega) (by kernel_rfl))) ?_
          refine sxq_nil ?_
          refine treeI_rd rfl ?_
          refine sxq_val 37 (.bool true) (by rfl) (fun W hp => (bv c_31 (by kernel_rfl))) ?_
          refine sxq_nil ?_
          refine treeI_rd rfl ?_
          refine sxq_val 38 (.bool true) (by rfl) (fun W hp => (by kernel_rfl)) ?_
          refine sxq_nil ?_
          refine treeI_rd rfl ?_
          refine sxq_want (by rfl) ?_
          refine sxq_val 39 (.slice (some ⟨gL, 0, none⟩) n cL) (by rfl) (fun W hp => (ld1 (t := 60) (p := (.tmp 1)) (by rfl) (by rfl) (by kernel_rfl) (hp.cell 1 (by rfl) 0 _ (by rfl)))) ?_
          refine sxq_nil ?_
          refine treeI_rd rfl ?_
          refine sxq_want (by rfl) ?_
          refine sxq_val 40 (.int .i64 (i : Int)) (by rfl) (fun W hp => (ld1 (t := 3) (p := (.tmp 7)) (by rfl) (by rfl) (by kernel_rfl) (hp.cell 0 (by rfl) 0 _ (by rfl)))) ?_
          refine sxq_nil ?_
          refine treeI_rd rfl ?_
          refine sxq_want (by rfl) ?_
          refine sxq_val 41 (.int .i64 ((i : Int) + 1)) (by rfl) (fun W hp => (wr_ok (by omega) (by kernel_rfl))) ?_
          refine sxq_nil ?_
          refine treeI_rd rfl ?_
          refine sxq_want (by rfl) ?_
          refine sxq_val 42 (.pointer (some (adr (some ⟨gL, 0, none⟩) ((i : Int) + 1) 1))) (by rfl) (fun W hp => (ix_run (d := (Kd.int .u8)) (row_Cn (hp.at_ 2 _ (by rfl))) (t := 60) (by rfl) (by rfl) (by rfl) Try.underlying60 (by kernel_rfl) (by omega) (by omega))) ?_
          refine sxq_nil ?_
          refine treeI_rd rfl ?_
          refine sxq_want (by rfl) ?_
          refine sxq_val 43 (.int .u8 (rd b ((i : Int) + 1))) (by rfl) (fun W hp => (ld1 (t := 5) (p := (.tmp 42)) (by rfl) (by rfl) (by kernel_rfl) (el_cell (d := (Kd.int .u8)) (row_C (hp.at_ 2 _ (by rfl))) 0 ((i : Int) + 1) (by omega) (by omega) (cells := [.int .u8 (rd b ((i : Int) + 1))]) (fun cs h => h) 0 _ (by rfl)))) ?_
          refine sxq_nil ?_
          refine treeI_rd rfl ?_
          refine sxq_want (by rfl) ?_
          refine sxq_val 44 (.bool false) (by rfl) (fun W hp => (bv c_32 (by kernel_rfl))) ?_
          refine sxq_nil ?_
          refine treeI_rd rfl ?_
          refine sxq_val 45 (.bool false) (by rfl) (fun W hp => (by kernel_rfl)) ?_
          refine sxq_nil ?_
          refine treeI_rd rfl ?_
          refine sxq_val 46 (.bool false) (by rfl) (fun W hp => (by kernel_rfl)) ?_
          refine sxq_nil ?_
          refine treeI_rd rfl ?_
          refine sxq_skip 47 (by rfl) (by rfl) (by rfl) ?_
          refine sxq_nil ?_
          refine treeI_rd rfl ?_
          refine sxq_skip 48 (by rfl) (by rfl) (by rfl) ?_
          refine sxq_nil ?_
          refine treeI_rd rfl ?_
          refine sxq_skip 49 (by rfl) (by rfl) (by rfl) ?_
          refine sxq_nil ?_
          refine treeI_ev rfl ?_
          refine sx_skip 50 (by rfl) (by rfl) (by rfl) ?_
          refine step_fin hp ?_
          refine treeI_rd rfl ?_
          refine sxq_skip 51 (by rfl) (by rfl) (by rfl) ?_
          refine sxq_nil ?_
          refine treeI_rd rfl ?_
          refine sxq_val 52 (.bool false) (by rfl) (fun W hp => (by kernel_rfl)) ?_
          refine sxq_nil ?_
          refine treeI_fin ?_
          refine sx_nil ?_
          refine ex_then_n ?_
          refine sx_else false (by rfl) rfl ?_
          refine wp_skip ?_
          refine ex_then_n ?_
          refine wp_seq ?_
          refine wp_seq ?_
          refine sx_region ?_
          refine sx_rd 53 (.int .i64 (i : Int)) (by rfl) (ld1 (t := 3) (p := (.tmp 7)) (by rfl) (by rfl) (by kernel_rfl) (hp.cell 0 (by rfl) 0 _ (by rfl))) ?_
          refine sx_rd 54 (.int .i64 w) (by rfl) (ld1 (t := 3) (p := (.tmp 6)) (by rfl) (by rfl) (by kernel_rfl) (hp.cell 7 (by rfl) 0 _ (by rfl))) ?_
          refine sx_rd 55 (.int .i64 ((i : Int) + w)) (by rfl) (wr_ok (by omega) (by kernel_rfl)) ?_
          refine sx_rd 10 (.int .i64 ((i : Int) + w)) (by rfl) (by kernel_rfl) ?_
          refine sx_nil ?_
          refine ex_then_n ?_
          refine wp_seq ?_
          rcases Bool.eq_false_or_eq_true (decide (((i : Int) + w) < (n : Int))) with c_41 | c_41
          ·
            have c_41p := of_decide_eq_true c_41
            refine sx_region ?_
            refine sx_rd 56 (.int .i64 ((i : Int) + w)) (by rfl) (by kernel_rfl) ?_
            refine sx_rd 57 (.slice (some ⟨gL, 0, none⟩) n cL) (by rfl) (ld1 (t := 60) (p := (.tmp 1)) (by rfl) (by rfl) (by kernel_rfl) (hp.cell 1 (by rfl) 0 _ (by rfl))) ?_
            refine sx_rd 58 (.int .i64 (n : Int)) (by rfl) (by kernel_rfl) ?_
            refine sx_rd 59 (.bool true) (by rfl) (bv c_41 (by kernel_rfl)) ?_
            refine sx_rd 60 (.bool true) (by rfl) (by kernel_rfl) ?_
            refine sx_want (by rfl) ?_
            refine sx_rd 61 (.func (.func 67) #[] #[.pointer (some ⟨gt, 0, none⟩), .pointer (some ⟨g_1, 0, none⟩), .pointer (some ⟨gc, 0, none⟩), .pointer (some ⟨gl, 0, none⟩), .pointer (some ⟨gb, 0, none⟩)]) (by rfl) (by kernel_rfl) ?_
            refine sx_want (by rfl) ?_
            refine sx_rd 62 (.int .i64 ((i : Int) + w)) (by rfl) (by kernel_rfl) ?_
            refine sx_want (by rfl) ?_
            have hpb_115 := putC_bd w (n : Int) d b i ((((i : Int) + w).toNat : Nat) : Int) 115 110
            have hJ : ((((i : Int) + w).toNat : Nat) : Int) = (i : Int) + w := Int.toNat_of_nonneg (by omega)
            have hq_42 := (hT w0 _ (cs) gL gc ge gt gl gb gw gm w h n b g_1 i ((i : Int) + w).toNat 115 110 c cL FL hw1 hw2 hwh hn hbn (by omega) hfree (by omega) (by omega) (by rw [hJ]; have q := hinv2 ((i : Int) + w).toNat (by omega) (by omega); rw [hJ] at q; exact q) (by omega) (by omega) (by omega) (by omega) hinv2 (hp.take [0, 1, 2, 3, 4, 5, 6, 7, 8] 9 (by decide) (by simp)))
            rw [hJ] at hq_42
            refine sx_call 63 (by rfl) (by kernel_rfl) ((hq_42).mono ?_)
            rintro _ W_44 ⟨FT_43, rfl, hp⟩
            refine ⟨_, rfl, ?_⟩
            refine sx_want (by rfl) ?_
            refine sx_rd 64 (.bool false) (by rfl) (by kernel_rfl) ?_
            refine sx_rd 65 (.bool false) (by rfl) (by kernel_rfl) ?_
            refine sx_nil ?_
            refine ex_then_n ?_
            refine sx_else false (by rfl) rfl ?_
            refine wp_skip ?_
            refine ex_then_n ?_
            refine wp_seq ?_
            refine sx_region ?_
            refine sx_rd 8 (.bool true) (by rfl) (by kernel_rfl) ?_
            refine sx_nil ?_
            refine ex_then_n ?_
            refine wp_ret ?_
            refine sx_end (.bool true) (res1 8 (by rfl)) ?_
            have hff : ffN b a = i := ffN_hit hai (by omega) hsk hfree
            rw [cntT_succ, if_neg (by omega), hff, ← Int.add_assoc]
            rw [east_z (by omega) (by have q := c_32; simpa using q), south_t (by omega), Int.add_zero]
            exact ⟨_, rfl, (hp.take [1, 2, 3, 4, 5, 6, 7, 8] 9 (by decide) (by simp))⟩
          ·
            have c_41p := of_decide_eq_false c_41
            refine sx_region ?_
            refine sx_rd 56 (.int .i64 ((i : Int) + w)) (by rfl) (by kernel_rfl) ?_
            refine sx_rd 57 (.slice (some ⟨gL, 0, none⟩) n cL) (by rfl) (ld1 (t := 60) (p := (.tmp 1)) (by rfl) (by rfl) (by kernel_rfl) (hp.cell 1 (by rfl) 0 _ (by rfl))) ?_
            refine sx_rd 58 (.int .i64 (n : Int)) (by rfl) (by kernel_rfl) ?_
            refine sx_rd 59 (.bool false) (by rfl) (bv c_41 (by kernel_rfl)) ?_
            refine sx_rd 60 (.bool false) (by rfl) (by kernel_rfl) ?_
            refine sx_skip 61 (by rfl) (by rfl) (by rfl) ?_
            refine sx_skip 62 (by rfl) (by rfl) (by rfl) ?_
            refine sx_skip 63 (by rfl) (by rfl) (by rfl) ?_
            refine sx_skip 64 (by rfl) (by rfl) (by rfl) ?_
            refine sx_rd 65 (.bool false) (by rfl) (by kernel_rfl) ?_
            refine sx_nil ?_
            refine ex_then_n ?_
            refine sx_else false (by rfl) rfl ?_
            refine wp_skip ?_
            refine ex_then_n ?_
            refine wp_seq ?_
            refine sx_region ?_
            refine sx_rd 8 (.bool true) (by rfl) (by kernel_rfl) ?_
            refine sx_nil ?_
            refine ex_then_n ?_
            refine wp_ret ?_
            refine sx_end (.bool true) (res1 8 (by rfl)) ?_
            have hff : ffN b a = i := ffN_hit hai (by omega) hsk hfree
            rw [cntT_succ, if_neg (by omega), hff, ← Int.add_assoc]
            rw [east_z (by omega) (by have q := c_32; simpa using q), south_0 (by omega), Int.add_zero, Int.add_zero]
            exact ⟨_, rfl, (hp.take [1, 2, 3, 4, 5, 6, 7, 8] 9 (by decide) (by simp))⟩
      ·
        have c_31p := of_decide_eq_false c_31
        refine sx_drawT [] (.rd 0 (.rd 1 (.rd 2 (.rd 3 (.rd 4 (.rd 5 (.rd 6 (.rd 7 (.rd 8 (.rd 9 (.rd 10 (.rd 11 (.rd 12 (.rd 13 (.rd 14 (.rd 15 (.rd 16 (.rd 17 (.alt 18 (.rd 19 (.rd 20 (.fin))) .non))))))))))))))))))) 21 (C := Hp w0 (blk g_1 #[.int .i64 (i : Int)] 3 :: blk gc #[.slice (some ⟨gL, 0, none⟩) n cL] 60 :: row (Kd.int .u8) 5 w0.heap.size (.slice (some ⟨gL, 0, none⟩) n cL) b FL :: blk ge #[.func (.func 39) #[] #[.pointer (some ⟨gm, 0, none⟩)]] 67 :: blk gt #[.func (.func 37) #[] #[]] 24 :: blk gl #[.func (.func 66) #[] #[.pointer (some ⟨gc, 0, none⟩), .pointer (some ⟨ge, 0, none⟩), .pointer (some ⟨gt, 0, none⟩), .pointer (some ⟨gl, 0, none⟩), .pointer (some ⟨gb, 0, none⟩), .pointer (some ⟨gw, 0, none⟩)]] 101 :: blk gb #[.func (.func 38) #[] #[]] 66 :: blk gw #[.int .i64 w] 3 :: blk gm #[.int .i64 c] 3 :: cs)) (by kernel_rfl) (by kernel_rfl) (fun d _ _ _ _ h => by cases d <;> exact h) (fun W h => h.drew) hp ?_
        refine preI_nil ?_
        intro W_45 hp
        refine treeI_rd rfl ?_
        refine sxq_val 32 (.int .i64 (i : Int)) (by rfl) (fun W hp => (ld1 (t := 3) (p := (.tmp 7)) (by rfl) (by rfl) (by kernel_rfl) (hp.cell 0 (by rfl) 0 _ (by rfl)))) ?_
        refine sxq_nil ?_
        refine treeI_rd rfl ?_
        refine sxq_val 33 (.int .i64 w) (by rfl) (fun W hp => (ld1 (t := 3) (p := (.tmp 6)) (by rfl) (by rfl) (by kernel_rfl) (hp.cell 7 (by rfl) 0 _ (by rfl)))) ?_
        refine sxq_nil ?_
        refine treeI_rd rfl ?_
        refine sxq_val 34 (.int .i64 ((i : Int) % w)) (by rfl) (fun W hp => (rem_run (by rfl) (by rfl) (by rfl) (by omega) (by omega))) ?_
        refine sxq_nil ?_
        refine treeI_rd rfl ?_
        refine sxq_val 35 (.int .i64 w) (by rfl) (fun W hp => (ld1 (t := 3) (p := (.tmp 6)) (by rfl) (by rfl) (by kernel_rfl) (hp.cell 7 (by rfl) 0 _ (by rfl)))) ?_
        refine sxq_nil ?_
        refine treeI_rd rfl ?_
        refine sxq_val 36 (.int .i64 (w - 1)) (by rfl) (fun W hp => (wr_ok (by omega) (by kernel_rfl))) ?_
        refine sxq_nil ?_
        refine treeI_rd rfl ?_
        refine sxq_val 37 (.bool false) (by rfl) (fun W hp => (bv c_31 (by kernel_rfl))) ?_
        refine sxq_nil ?_
        refine treeI_rd rfl ?_
        refine sxq_val 38 (.bool false) (by rfl) (fun W hp => (by kernel_rfl)) ?_
        refine sxq_nil ?_
        refine treeI_rd rfl ?_
        refine sxq_skip 39 (by rfl) (by rfl) (by rfl) ?_
        refine sxq_nil ?_
        refine treeI_rd rfl ?_
        refine sxq_skip 40 (by rfl) (by rfl) (by rfl) ?_
        refine sxq_nil ?_
        refine treeI_rd rfl ?_
        refine sxq_skip 41 (by rfl) (by rfl) (by rfl) ?_
        refine sxq_nil ?_
        refine treeI_rd rfl ?_
        refine sxq_skip 42 (by rfl) (by rfl) (by rfl) ?_
        refine sxq_nil ?_
        refine treeI_rd rfl ?_
        refine sxq_skip 43 (by rfl) (by rfl) (by rfl) ?_
        refine sxq_nil ?_
        refine treeI_rd rfl ?_
        refine sxq_skip 44 (by rfl) (by rfl) (by rfl) ?_
        refine sxq_nil ?_
        refine treeI_rd rfl ?_
        refine sxq_val 45 (.bool false) (by rfl) (fun W hp => (by kernel_rfl)) ?_
        refine sxq_nil ?_
        refine treeI_rd rfl ?_
        refine sxq_val 46 (.bool false) (by rfl) (fun W hp => (by kernel_rfl)) ?_
        refine sxq_nil ?_
        refine treeI_rd rfl ?_
        refine sxq_skip 47 (by rfl) (by rfl) (by rfl) ?_
        refine sxq_nil ?_
        refine treeI_rd rfl ?_
        refine sxq_skip 48 (by rfl) (by rfl) (by rfl) ?_
        refine sxq_nil ?_
        refine treeI_rd rfl ?_
        refine sxq_skip 49 (by rfl) (by rfl) (by rfl) ?_
        refine sxq_nil ?_
        refine treeI_ev rfl ?_
        refine sx_skip 50 (by rfl) (by rfl) (by rfl) ?_
        refine step_fin hp ?_
        refine treeI_rd rfl ?_
        refine sxq_skip 51 (by rfl) (by rfl) (by rfl) ?_
        refine sxq_nil ?_
        refine treeI_rd rfl ?_
        refine sxq_val 52 (.bool false) (by rfl) (fun W hp => (by kernel_rfl)) ?_
        refine sxq_nil ?_
        refine treeI_fin ?_
        refine sx_nil ?_
        refine ex_then_n ?_
        refine sx_else false (by rfl) rfl ?_
        refine wp_skip ?_
        refine ex_then_n ?_
        refine wp_seq ?_
        refine wp_seq ?_
        refine sx_region ?_
        refine sx_rd 53 (.int .i64 (i : Int)) (by rfl) (ld1 (t := 3) (p := (.tmp 7)) (by rfl) (by rfl) (by kernel_rfl) (hp.cell 0 (by rfl) 0 _ (by rfl))) ?_
        refine sx_rd 54 (.int .i64 w) (by rfl) (ld1 (t := 3) (p := (.tmp 6)) (by rfl) (by rfl) (by kernel_rfl) (hp.cell 7 (by rfl) 0 _ (by rfl))) ?_
        refine sx_rd 55 (.int .i64 ((i : Int) + w)) (by rfl) (wr_ok (by omega) (by kernel_rfl)) ?_
        refine sx_rd 10 (.int .i64 ((i : Int) + w)) (by rfl) (by kernel_rfl) ?_
        refine sx_nil ?_
        refine ex_then_n ?_
        refine wp_seq ?_
        rcases Bool.eq_false_or_eq_true (decide (((i : Int) + w) < (n : Int))) with c_46 | c_46
        ·
          have c_46p := of_decide_eq_true c_46
          refine sx_region ?_
          refine sx_rd 56 (.int .i64 ((i : Int) + w)) (by rfl) (by kernel_rfl) ?_
          refine sx_rd 57 (.slice (some ⟨gL, 0, none⟩) n cL) (by rfl) (ld1 (t := 60) (p := (.tmp 1)) (by rfl) (by rfl) (by kernel_rfl) (hp.cell 1 (by rfl) 0 _ (by rfl))) ?_
          refine sx_rd 58 (.int .i64 (n : Int)) (by rfl) (by kernel_rfl) ?_
          refine sx_rd 59 (.bool true) (by rfl) (bv c_46 (by kernel_rfl)) ?_
          refine sx_rd 60 (.bool true) (by rfl) (by kernel_rfl) ?_
          refine sx_want (by rfl) ?_
          refine sx_rd 61 (.func (.func 67) #[] #[.pointer (some ⟨gt, 0, none⟩), .pointer (some ⟨g_1, 0, none⟩), .pointer (some ⟨gc, 0, none⟩), .pointer (some ⟨gl, 0, none⟩), .pointer (some ⟨gb, 0, none⟩)]) (by rfl) (by kernel_rfl) ?_
          refine sx_want (by rfl) ?_
          refine sx_rd 62 (.int .i64 ((i : Int) + w)) (by rfl) (by kernel_rfl) ?_
          refine sx_want (by rfl) ?_
          have hpb_115 := putC_bd w (n : Int) d b i ((((i : Int) + w).toNat : Nat) : Int) 115 110
          have hJ : ((((i : Int) + w).toNat : Nat) : Int) = (i : Int) + w := Int.toNat_of_nonneg (by omega)
          have hq_47 := (hT w0 _ (cs) gL gc ge gt gl gb gw gm w h n b g_1 i ((i : Int) + w).toNat 115 110 c cL FL hw1 hw2 hwh hn hbn (by omega) hfree (by omega) (by omega) (by rw [hJ]; have q := hinv2 ((i : Int) + w).toNat (by omega) (by omega); rw [hJ] at q; exact q) (by omega) (by omega) (by omega) (by omega) hinv2 (hp.take [0, 1, 2, 3, 4, 5, 6, 7, 8] 9 (by decide) (by simp)))
          rw [hJ] at hq_47
          refine sx_call 63 (by rfl) (by kernel_rfl) ((hq_47).mono ?_)
          rintro _ W_49 ⟨FT_48, rfl, hp⟩
          refine ⟨_, rfl, ?_⟩
          refine sx_want (by rfl) ?_
          refine sx_rd 64 (.bool false) (by rfl) (by kernel_rfl) ?_
          refine sx_rd 65 (.bool false) (by rfl) (by kernel_rfl) ?_
          refine sx_nil ?_
          refine ex_then_n ?_
          refine sx_else false (by rfl) rfl ?_
          refine wp_skip ?_
          refine ex_then_n ?_
          refine wp_seq ?_
          refine sx_region ?_
          refine sx_rd 8 (.bool true) (by rfl) (by kernel_rfl) ?_
          refine sx_nil ?_
          refine ex_then_n ?_
          refine wp_ret ?_
          refine sx_end (.bool true) (res1 8 (by rfl)) ?_
          have hff : ffN b a = i := ffN_hit hai (by omega) hsk hfree
          rw [cntT_succ, if_neg (by omega), hff, ← Int.add_assoc]
          rw [east_0 (by omega), south_t (by omega), Int.add_zero]
          exact ⟨_, rfl, (hp.take [1, 2, 3, 4, 5, 6, 7, 8] 9 (by decide) (by simp))⟩
        ·
          have c_46p := of_decide_eq_false c_46
          refine sx_region ?_
          refine sx_rd 56 (.int .i64 ((i : Int) + w)) (by rfl) (by kernel_rfl) ?_
          refine sx_rd 57 (.slice (some ⟨gL, 0, none⟩) n cL) (by rfl) (ld1 (t := 60) (p := (.tmp 1)) (by rfl) (by rfl) (by kernel_rfl) (hp.cell 1 (by rfl) 0 _ (by rfl))) ?_
          refine sx_rd 58 (.int .i64 (n : Int)) (by rfl) (by kernel_rfl) ?_
          refine sx_rd 59 (.bool false) (by rfl) (bv c_46 (by kernel_rfl)) ?_
          refine sx_rd 60 (.bool false) (by rfl) (by kernel_rfl) ?_
          refine sx_skip 61 (by rfl) (by rfl) (by rfl) ?_
          refine sx_skip 62 (by rfl) (by rfl) (by rfl) ?_
          refine sx_skip 63 (by rfl) (by rfl) (by rfl) ?_
          refine sx_skip 64 (by rfl) (by rfl) (by rfl) ?_
          refine sx_rd 65 (.bool false) (by rfl) (by kernel_rfl) ?_
          refine sx_nil ?_
          refine ex_then_n ?_
          refine sx_else false (by rfl) rfl ?_
          refine wp_skip ?_
          refine ex_then_n ?_
          refine wp_seq ?_
          refine sx_region ?_
          refine sx_rd 8 (.bool true) (by rfl) (by kernel_rfl) ?_
          refine sx_nil ?_
          refine ex_then_n ?_
          refine wp_ret ?_
          refine sx_end (.bool true) (res1 8 (by rfl)) ?_
          have hff : ffN b a = i := ffN_hit hai (by omega) hsk hfree
          rw [cntT_succ, if_neg (by omega), hff, ← Int.add_assoc]
          rw [east_0 (by omega), south_0 (by omega), Int.add_zero, Int.add_zero]
          exact ⟨_, rfl, (hp.take [1, 2, 3, 4, 5, 6, 7, 8] 9 (by decide) (by simp))⟩
theorem lay_all : ∀ d, LayOk d := by
  intro d
  induction d with
  | zero => intro w0 W cs gL gc ge gt gl gb gw gm w h n b a c cL FL hw1 hw2 hwh hn hbn han hdn; omega
  | succ d ih => exact lay_of d (try_of d ih)
set_option maxRecDepth 100000 in
set_option maxHeartbeats 40000000 in
theorem layouts_sx {w0 W : World} {cs : List Chunk} (gm : Nat) (w h : Int) (n : Nat) (c : Int) (hw1 : 1 ≤ w) (hw2 : w ≤ 30) (hh1 : 1 ≤ h) (hh2 : h ≤ 30) (hwh : w * h = (n : Int)) (hn : n ≤ 30) (hc0 : 0 ≤ c) (hcb : c ≤ 1000) (hp : Hp w0 (blk gm #[.int .i64 c] 3 :: cs) W) : Calls Try.prog 36 #[.int .i64 w, .int .i64 h, .func (.func 37) #[] #[], .func (.func 38) #[] #[], .func (.func 39) #[] #[.pointer (some ⟨gm, 0, none⟩)]] W fun e W' => e = .returned (.tuple #[]) ∧ Hp w0 (blk gm #[.int .i64 (c + cntT w (n : Int) 31 (List.replicate n (0 : Int)) 0)] 3 :: cs) W' := by
 refine sx_enter (N := 19) (l := [.int .i64 w, .int .i64 h, .func (.func 37) #[] #[], .func (.func 38) #[] #[], .func (.func 39) #[] #[.pointer (some ⟨gm, 0, none⟩)]]) Try.func36 rfl rfl rfl ?_
 refine wp_seq ?_
 refine sx_region ?_
 refine sx_box 5 hp #[.int .i64 w] 3 (by rfl) (fun W => by kernel_rfl) ?_
 intro g_1 W_2 hp
 refine sx_box 7 hp #[.func (.func 37) #[] #[]] 24 (by rfl) (fun W => by kernel_rfl) ?_
 intro g_3 W_4 hp
 refine sx_box 8 hp #[.func (.func 38) #[] #[]] 66 (by rfl) (fun W => by kernel_rfl) ?_
 intro g_5 W_6 hp
 refine sx_box 9 hp #[.func (.func 39) #[] #[.pointer (some ⟨gm, 0, none⟩)]] 67 (by rfl) (fun W => by kernel_rfl) ?_
 intro g_7 W_8 hp
 refine sx_nil ?_
 refine ex_then_n ?_
 refine wp_seq ?_
 refine sx_region ?_
 refine sx_rd 12 (.int .i64 w) (by rfl) (ld1 (t := 3) (p := (.tmp 5)) (by rfl) (by rfl) (by kernel_rfl) (hp.cell 3 (by rfl) 0 _ (by rfl))) ?_
 refine sx_rd 13 (.int .i64 h) (by rfl) (by kernel_rfl) ?_
 refine sx_rd 14 (.int .i64 (n : Int)) (by rfl) (mul_run (by rfl) (by rfl) (by rfl) hwh (by omega)) ?_
 refine sx_make 15 (by rfl) (Kd.int .u8) w0.heap.size 5 n (by rfl) (by rfl) (by rfl) (by omega) Try.underlying60 (.int .u8 0) 1 (by rfl) (by rfl) (by decide) (by decide) 0 rfl (by omega) hp.size hp ?_
 intro g_9 F_10 W_11 hp
 refine sx_box 10 hp #[.slice none 0 0] 60 (by rfl) (fun W => by kernel_rfl) ?_
 intro g_12 W_13 hp
 refine sx_store (t := 60) (p := (.tmp 10)) (x := (.tmp 15)) (by rfl) (by rfl) 0 (by rfl) 0 [.slice (some ⟨g_9, 0, none⟩) ((List.replicate n (0 : Int)).length) ((List.replicate n (0 : Int)).length)] (by rfl) (by rfl) (by kernel_rfl) (by simp [Value.oneCell']) (by show 1 ≤ 1; omega) #[.slice (some ⟨g_9, 0, none⟩) ((List.replicate n (0 : Int)).length) ((List.replicate n (0 : Int)).length)] (by rfl) hp ?_
 intro W_14 hp; simp only [List.set_cons_succ, List.set_cons_zero] at hp
 refine sx_nil ?_
 refine ex_then_n ?_
 refine wp_seq ?_
 refine sx_region ?_
 refine sx_box 11 hp #[.nilFunc] 101 (by rfl) (fun W => by kernel_rfl) ?_
 intro g_15 W_16 hp
 refine sx_nil ?_
 refine ex_then_n ?_
 refine wp_seq ?_
 refine sx_region ?_
 refine sx_rd 16 (.func (.func 66) #[] #[.pointer (some ⟨g_12, 0, none⟩), .pointer (some ⟨g_7, 0, none⟩), .pointer (some ⟨g_3, 0, none⟩), .pointer (some ⟨g_15, 0, none⟩), .pointer (some ⟨g_5, 0, none⟩), .pointer (some ⟨g_1, 0, none⟩)]) (by rfl) (by kernel_rfl) ?_
 refine sx_store (t := 101) (p := (.tmp 11)) (x := (.tmp 16)) (by rfl) (by rfl) 0 (by rfl) 0 [.func (.func 66) #[] #[.pointer (some ⟨g_12, 0, none⟩), .pointer (some ⟨g_7, 0, none⟩), .pointer (some ⟨g_3, 0, none⟩), .pointer (some ⟨g_15, 0, none⟩), .pointer (some ⟨g_5, 0, none⟩), .pointer (some ⟨g_1, 0, none⟩)]] (by rfl) (by rfl) (by kernel_rfl) (by simp [Value.oneCell']) (by show 1 ≤ 1; omega) #[.func (.func 66) #[] #[.pointer (some ⟨g_12, 0, none⟩), .pointer (some ⟨g_7, 0, none⟩), .pointer (some ⟨g_3, 0, none⟩), .pointer (some ⟨g_15, 0, none⟩), .pointer (some ⟨g_5, 0, none⟩), .pointer (some ⟨g_1, 0, none⟩)]] (by rfl) hp ?_
 intro W_17 hp; simp only [List.set_cons_succ, List.set_cons_zero] at hp
 refine sx_nil ?_
 refine ex_then_n ?_
 refine sx_region ?_
 refine sx_rd 17 (.func (.func 66) #[] #[.pointer (some ⟨g_12, 0, none⟩), .pointer (some ⟨g_7, 0, none⟩), .pointer (some ⟨g_3, 0, none⟩), .pointer (some ⟨g_15, 0, none⟩), .pointer (some ⟨g_5, 0, none⟩), .pointer (some ⟨g_1, 0, none⟩)]) (by rfl) (ld1 (t := 101) (p := (.tmp 11)) (by rfl) (by rfl) (by kernel_rfl) (hp.cell 0 (by rfl) 0 _ (by rfl))) ?_
 have hzl : (List.replicate n (0 : Int)).length = n := List.length_replicate
 refine sx_call 18 (by rfl) (by kernel_rfl) ((lay_all 31 w0 _ (cs) g_9 g_12 g_7 g_3 g_15 g_5 g_1 gm w h (List.replicate n (0 : Int)).length (List.replicate n (0 : Int)) 0 c ((List.replicate n (0 : Int)).length) F_10 hw1 hw2 (by rw [hzl]; exact hwh) (by omega) rfl (Nat.zero_le _) (by omega) hc0 (by rw [P2_31]; omega) (fun k h1 h2 => by rw [rd_at h2]; simp) (hp.take [1, 2, 3, 5, 0, 4, 6, 7] 8 (by decide) (by simp))).mono ?_)
 rintro _ W_18 ⟨FL2, rfl, hp⟩
 refine ⟨_, rfl, ?_⟩
 refine sx_nil ?_
 refine sx_end_n (.tuple #[]) (res0 (by rfl)) ?_
 have hq := (hp.take [7] 8 (by decide) (by simp))
 rw [hzl] at hq
 exact ⟨rfl, hq⟩
end Go.Proofs.Ytkjaahmlnbgnjaa.Hd
