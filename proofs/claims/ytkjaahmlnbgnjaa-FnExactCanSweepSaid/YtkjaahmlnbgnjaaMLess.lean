/- impl.less with its closures, by hand. -/
import Derived.Test.YtkjaahmlnbgnjaaPSweepA
import Derived.Test.YtkjaahmlnbgnjaaMSorted2
import Derived.Test.YtkjaahmlnbgnjaaMCut
import Derived.Test.YtkjaahmlnbgnjaaMSxM
import Derived.Test.YtkjaahmlnbgnjaaMTileR
import Derived.Test.YtkjaahmlnbgnjaaG2
namespace Go.Proofs.Ytkjaahmlnbgnjaa.Hd
open Go.RowKit Go.Proofs.Ytkjaahmlnbgnjaa.Pure Go.Proofs.YtkjaahmlnbgnjaaW.PrintWords Go.Proofs.YtkjaahmlnbgnjaaW.PrintLast Go.Proofs.YtkjaahmlnbgnjaaW.PrintMore
set_option linter.unusedVariables false
set_option linter.unusedSimpArgs false
set_option maxRecDepth 100000 in
set_option maxHeartbeats 40000000 in
theorem less1_sx {w0 W : World} {cs : List Chunk} (gk gl : Nat) (A1 : Option Addr) (c1 : Nat) (l1 : List S_Tile) (hl1 : l1.length ≤ 1000) (hc1 : l1.length ≤ c1) (hC1 : ∀ W, Hp w0 cs W → Kd.C k79 W A1 l1.length l1) (t : S_Tile) (hp : Hp w0 (blk gl #[.slice A1 l1.length c1] 39 :: cs) W) :
  Calls Try.prog 123 #[.agg #[.int .i64 t.f0, .int .i64 t.f1], .pointer (some ⟨gl, 0, none⟩)] W fun e W' => e = .returned (.bool (outS l1 t)) ∧ Hp w0 (blk gl #[.slice A1 l1.length c1] 39 :: cs) W' := by
 refine sx_enter (N := 8) (l := [.agg #[.int .i64 t.f0, .int .i64 t.f1], .pointer (some ⟨gl, 0, none⟩)]) Try.func123 rfl rfl rfl ?_
 refine wp_seq ?_
 refine sx_region ?_
 refine sx_box 2 hp #[.int .i64 t.f0, .int .i64 t.f1] 79 (by rfl) (fun W => by kernel_rfl) ?_
 intro g_1 W_2 hp
 refine sx_rd 3 (.bool false) (by rfl) (by kernel_rfl) ?_
 refine sx_nil ?_
 refine ex_then_n ?_
 refine wp_seq ?_
 refine sx_region ?_
 refine sx_rd 4 (.slice A1 l1.length c1) (by rfl) (ld1 (t := 39) (p := (.tmp 1)) (by rfl) (by rfl) (by kernel_rfl) (hp.cell 1 (by rfl) 0 _ (by rfl))) ?_
 refine sx_rd 5 (.agg #[.int .i64 t.f0, .int .i64 t.f1]) (by rfl) (ldn (t := 79) (p := (.tmp 2)) (by rfl) (by rfl) (by kernel_rfl) (by kernel_rfl) (by kernel_rfl) (hp.at_ 0 _ (by rfl))) ?_
 obtain ⟨k_3, hk_k_3⟩ := Ev.rounds (contains_ev l1 (by omega) t)
 refine sx_call 6 (by rfl) (by kernel_rfl) ((slices_Contains_impl_Tile_impl_Tile.calls k_3 A1 c1 l1 t.f0 t.f1 _ _ (hC1 _ hp.tail.tail) hc1 hk_k_3).mono ?_)
 rintro _ W_4 ⟨rfl, hb⟩
 refine ⟨_, rfl, ?_⟩
 replace hp := hp.below hb
 clear hb
 refine sx_rd 7 (.bool (!(decide (t ∈ l1)))) (by rfl) (by kernel_rfl) ?_
 refine sx_rd 3 (.bool (!(decide (t ∈ l1)))) (by rfl) (by kernel_rfl) ?_
 refine sx_nil ?_
 refine ex_then_n ?_
 refine wp_ret ?_
 refine sx_end (.bool (!(decide (t ∈ l1)))) (res1 3 (by rfl)) ?_
 exact ⟨rfl, (hp.take [1] 2 (by decide) (by simp))⟩
set_option maxRecDepth 100000 in
set_option maxHeartbeats 40000000 in
theorem kept1_sx {w0 W : World} {cs : List Chunk} (gk gl : Nat) (A1 : Option Addr) (c1 : Nat) (l1 : List S_Tile) (hl1 : l1.length ≤ 1000) (hc1 : l1.length ≤ c1) (hC1 : ∀ W, Hp w0 cs W → Kd.C k79 W A1 l1.length l1) (t : S_Tile) (hp : Hp w0 (blk gk #[.func (.func 123) #[] #[.pointer (some ⟨gl, 0, none⟩)]] 137 :: blk gl #[.slice A1 l1.length c1] 39 :: cs) W) :
  Calls Try.prog 147 #[.agg #[.int .i64 t.f0, .int .i64 t.f1], .pointer (some ⟨gk, 0, none⟩)] W fun e W' => e = .returned (.bool (!outS l1 t)) ∧ Hp w0 (blk gk #[.func (.func 123) #[] #[.pointer (some ⟨gl, 0, none⟩)]] 137 :: blk gl #[.slice A1 l1.length c1] 39 :: cs) W' := by
 refine sx_enter (N := 8) (l := [.agg #[.int .i64 t.f0, .int .i64 t.f1], .pointer (some ⟨gk, 0, none⟩)]) Try.func147 rfl rfl rfl ?_
 refine wp_seq ?_
 refine sx_region ?_
 refine sx_box 2 hp #[.int .i64 t.f0, .int .i64 t.f1] 79 (by rfl) (fun W => by kernel_rfl) ?_
 intro g_1 W_2 hp
 refine sx_rd 3 (.bool false) (by rfl) (by kernel_rfl) ?_
 refine sx_nil ?_
 refine ex_then_n ?_
 refine wp_seq ?_
 refine sx_region ?_
 refine sx_rd 4 (.func (.func 123) #[] #[.pointer (some ⟨gl, 0, none⟩)]) (by rfl) (ld1 (t := 137) (p := (.tmp 1)) (by rfl) (by rfl) (by kernel_rfl) (hp.cell 1 (by rfl) 0 _ (by rfl))) ?_
 refine sx_rd 5 (.agg #[.int .i64 t.f0, .int .i64 t.f1]) (by rfl) (ldn (t := 79) (p := (.tmp 2)) (by rfl) (by rfl) (by kernel_rfl) (by kernel_rfl) (by kernel_rfl) (hp.at_ 0 _ (by rfl))) ?_
 refine sx_call 6 (by rfl) (by kernel_rfl) ((less1_sx gk gl A1 c1 l1 hl1 hc1 (fun W h => hC1 W h.tail.tail) t (hp.take [2, 0, 1] 3 (by decide) (by simp))).mono ?_)
 rintro _ W_3 ⟨rfl, hp⟩
 refine ⟨_, rfl, ?_⟩
 replace hp : Hp w0 (blk g_1 #[.int .i64 t.f0, .int .i64 t.f1] 79 :: blk gk #[.func (.func 123) #[] #[.pointer (some ⟨gl, 0, none⟩)]] 137 :: blk gl #[.slice A1 l1.length c1] 39 :: cs) _ := (hp.take [1, 2, 0] 3 (by decide) (by simp))
 refine sx_rd 7 (.bool (!(outS l1 t))) (by rfl) (by kernel_rfl) ?_
 refine sx_rd 3 (.bool (!(outS l1 t))) (by rfl) (by kernel_rfl) ?_
 refine sx_nil ?_
 refine ex_then_n ?_
 refine wp_ret ?_
 refine sx_end (.bool (!(outS l1 t))) (res1 3 (by rfl)) ?_
 exact ⟨rfl, (hp.take [1, 2] 3 (by decide) (by simp))⟩
set_option maxRecDepth 100000 in
set_option maxHeartbeats 40000000 in
theorem idxL_sx {w0 W : World} {cs : List Chunk} (gk gl : Nat) (A1 : Option Addr) (c1 : Nat) (l1 : List S_Tile) (hl1 : l1.length ≤ 1000) (hc1 : l1.length ≤ c1) (hC1 : ∀ W, Hp w0 cs W → Kd.C k79 W A1 l1.length l1) {base c : Nat} {A : Option Addr} {l0 : List S_Tile} {F : Nat → Prop} (hn : l0.length ≤ 1000000) (hp : Hp w0 (row k79 79 base (.slice A l0.length c) l0 F :: blk gk #[.func (.func 123) #[] #[.pointer (some ⟨gl, 0, none⟩)]] 137 :: blk gl #[.slice A1 l1.length c1] 39 :: cs) W) :
    Calls Try.prog 143 #[.slice A l0.length c, .func (.func 147) #[] #[.pointer (some ⟨gk, 0, none⟩)]] W fun e W' => e = .returned (.int .i64 (goneAtP l0 (outS l1))) ∧ Hp w0 (row k79 79 base (.slice A l0.length c) l0 F :: blk gk #[.func (.func 123) #[] #[.pointer (some ⟨gl, 0, none⟩)]] 137 :: blk gl #[.slice A1 l1.length c1] 39 :: cs) W' := by
  refine sx_enter (N := 19) (l := [.slice A l0.length c, .func (.func 147) #[] #[.pointer (some ⟨gk, 0, none⟩)]]) Try.func143 rfl rfl rfl ?_
  refine wp_seq ?_
  refine sx_region ?_
  refine sx_rd 4 (.int .i64 0) (by rfl) (by kernel_rfl) ?_
  refine sx_nil ?_
  refine ex_then_n ?_
  refine wp_seq ?_
  refine wp_seq ?_
  refine sx_region ?_
  refine sx_rd 6 (.slice A l0.length c) (by rfl) (by kernel_rfl) ?_
  refine sx_rd 7 (.int .i64 (l0.length : Int)) (by rfl) (by kernel_rfl) ?_
  refine sx_rd 8 (.int .i64 0) (by rfl) (by kernel_rfl) ?_
  refine sx_nil ?_
  refine ex_then_n ?_
  refine wp_block ?_
  refine wp_loop_ghost (fun n_ a_ W => ∃ (r_ : List (Nat × Value)) (i : Nat) , n_ = l0.length - i ∧ a_ = fr 19 ([(0, .slice A l0.length c), (1, .func (.func 147) #[] #[.pointer (some ⟨gk, 0, none⟩)]), (7, .int .i64 (l0.length : Int)), (8, .int .i64 (i : Int))] ++ r_) ∧ Hp w0 (row k79 79 base (.slice A l0.length c) l0 F :: blk gk #[.func (.func 123) #[] #[.pointer (some ⟨gl, 0, none⟩)]] 137 :: blk gl #[.slice A1 l1.length c1] 39 :: cs) W ∧ (i ≤ l0.length) ∧ (∀ j, j < i → outS l1 (rd_Tile l0 (j : Int)) = true)) _ ⟨_, 0, rfl, fr_front [(0, .slice A l0.length c), (1, .func (.func 147) #[] #[.pointer (some ⟨gk, 0, none⟩)]), (7, .int .i64 (l0.length : Int)), (8, .int .i64 0)] ⟨rfl, rfl, rfl, rfl, trivial⟩, (hp.take [0, 1, 2] 3 (by decide) (by simp)), Nat.zero_le _, (fun j hj => absurd hj (Nat.not_lt_zero _))⟩ ?_
  rintro _ _ W_1 ⟨r_, i, rfl, rfl, hp, hi, hall⟩
  refine wp_seq ?_
  refine sx_region ?_
  refine sx_rd 9 (.bool (decide ((i : Int) < (l0.length : Int)))) (by rfl) (by kernel_rfl) ?_
  refine sx_nil ?_
  refine ex_then_n ?_
  refine wp_seq ?_
  refine sx_cond (decide ((i : Int) < (l0.length : Int))) (by rfl) (fun c_2 => ?_) (fun c_2 => ?_)
  ·
    have c_2p := of_decide_eq_true c_2
    refine wp_skip ?_
    refine ex_then_n ?_
    refine wp_seq ?_
    refine wp_block ?_
    refine wp_seq ?_
    refine sx_region ?_
    refine sx_rd 10 (.int .i64 (i : Int)) (by rfl) (by kernel_rfl) ?_
    refine sx_rd 5 (.int .i64 (i : Int)) (by rfl) (by kernel_rfl) ?_
    refine sx_nil ?_
    refine ex_then_n ?_
    refine wp_seq ?_
    refine sx_region ?_
    refine sx_rd 11 (.func (.func 147) #[] #[.pointer (some ⟨gk, 0, none⟩)]) (by rfl) (by kernel_rfl) ?_
    refine sx_rd 12 (.slice A l0.length c) (by rfl) (by kernel_rfl) ?_
    refine sx_rd 13 (.int .i64 (i : Int)) (by rfl) (by kernel_rfl) ?_
    refine sx_rd 14 (.pointer (some (adr A (i : Int) 2))) (by rfl) (ix_run (d := k79) (row_C (hp.at_ 0 _ (by rfl))) (t := 39) (by rfl) (by rfl) (by rfl) Try.underlying39 (by kernel_rfl) (by omega) (by omega)) ?_
    refine sx_rd 15 (.agg #[.int .i64 ((rd_Tile l0 (i : Int)).f0), .int .i64 ((rd_Tile l0 (i : Int)).f1)]) (by rfl) (el_run (d := k79) (row_C (hp.at_ 0 _ (by rfl))) z79 (i : Int) (by omega) (by omega) (cells := [.int .i64 ((rd_Tile l0 (i : Int)).f0), .int .i64 ((rd_Tile l0 (i : Int)).f1)]) (fun cs h => k79_open h) 0 [.int .i64 ((rd_Tile l0 (i : Int)).f0), .int .i64 ((rd_Tile l0 (i : Int)).f1)] (by rfl) (t := 79) (p := (.tmp 14)) (by rfl) (by rfl) (by kernel_rfl) (by kernel_rfl)) ?_
    refine sx_call 16 (by rfl) (by kernel_rfl) ((kept1_sx gk gl A1 c1 l1 hl1 hc1 (fun W h => hC1 W h.tail) (rd_Tile l0 (i : Int)) (hp.take [1, 2, 0] 3 (by decide) (by simp))).mono ?_)
    rintro _ W_3 ⟨rfl, hp⟩
    refine ⟨_, rfl, ?_⟩
    replace hp : Hp w0 (row k79 79 base (.slice A l0.length c) l0 F :: blk gk #[.func (.func 123) #[] #[.pointer (some ⟨gl, 0, none⟩)]] 137 :: blk gl #[.slice A1 l1.length c1] 39 :: cs) _ := (hp.take [2, 0, 1] 3 (by decide) (by simp))
    refine sx_nil ?_
    refine ex_then_n ?_
    refine sx_cond (!outS l1 (rd_Tile l0 (i : Int))) (by rfl) (fun c_4 => ?_) (fun c_4 => ?_)
    ·
      refine wp_seq ?_
      refine sx_region ?_
      refine sx_rd 17 (.int .i64 (i : Int)) (by rfl) (by kernel_rfl) ?_
      refine sx_rd 4 (.int .i64 (i : Int)) (by rfl) (by kernel_rfl) ?_
      refine sx_nil ?_
      refine ex_then_n ?_
      refine wp_ret ?_
      refine ex_blk_r (ex_then_r (ex_then_r (ex_blk_r (ex_then_r ?_))))
      refine sx_end (.int .i64 (i : Int)) (res1 4 (by rfl)) ?_
      exact ⟨congrArg (fun z => Ending.returned (.int .i64 z)) (goneAtP_hit (by omega) hall (by simpa using c_4)).symm, (hp.take [0, 1, 2] 3 (by decide) (by simp))⟩
    ·
      refine wp_skip ?_
      refine ex_blk_n ?_
      refine ex_then_n ?_
      refine sx_region ?_
      refine sx_rd 18 (.int .i64 ((i : Int) + 1)) (by rfl) (wr_ok (by omega) (by kernel_rfl)) ?_
      refine sx_rd 8 (.int .i64 ((i : Int) + 1)) (by rfl) (by kernel_rfl) ?_
      refine sx_nil ?_
      refine ex_then_n ?_
      exact ⟨_, (by omega), _, (i + 1), rfl, fr_front [(0, .slice A l0.length c), (1, .func (.func 147) #[] #[.pointer (some ⟨gk, 0, none⟩)]), (7, .int .i64 (l0.length : Int)), (8, .int .i64 ((i + 1 : Nat) : Int))] ⟨rfl, rfl, rfl, rfl, trivial⟩, (hp.take [0, 1, 2] 3 (by decide) (by simp)), (by omega), (fun j hj => by rcases Nat.lt_succ_iff_lt_or_eq.1 hj with q | rfl; exact hall j q; exact (by simpa using c_4))⟩
  ·
    have c_2p := of_decide_eq_false c_2
    refine wp_exit ?_
    refine ex_then_e (ex_then_e (ex_blk_here ?_))
    refine ex_then_n ?_
    refine wp_seq ?_
    refine sx_region ?_
    refine sx_rd 4 (.int .i64 (-1)) (by rfl) (by kernel_rfl) ?_
    refine sx_nil ?_
    refine ex_then_n ?_
    refine wp_ret ?_
    refine sx_end (.int .i64 (-1)) (res1 4 (by rfl)) ?_
    obtain rfl : i = l0.length := by omega
    exact ⟨congrArg (fun z => Ending.returned (.int .i64 z)) (goneAtP_none hall).symm, (hp.take [0, 1, 2] 3 (by decide) (by simp))⟩
theorem add_at3 (g n : Nat) : Option.map (fun x : Addr => x.add (n * 2)) (some ⟨g, 0, none⟩) = some ⟨g, n * 2, none⟩ := by
  simp only [Option.map_some, Addr.add]
  split
  · rename_i h; rw [h]
  · simp
set_option maxRecDepth 100000 in
set_option maxHeartbeats 40000000 in
theorem delL_sx {w0 W : World} {cs : List Chunk} (gk gl : Nat) (A1 : Option Addr) (c1 : Nat) (l1 : List S_Tile) (hl1 : l1.length ≤ 1000) (hc1 : l1.length ≤ c1) (hC1 : ∀ W, Hp w0 cs W → Kd.C k79 W A1 l1.length l1) {base c : Nat} {A : Option Addr} {l0 : List S_Tile} {F : Nat → Prop} (hn : l0.length ≤ 1000000) (hp : Hp w0 (row k79 79 base (.slice A l0.length c) l0 F :: blk gk #[.func (.func 123) #[] #[.pointer (some ⟨gl, 0, none⟩)]] 137 :: blk gl #[.slice A1 l1.length c1] 39 :: cs) W) :
    Calls Try.prog 146 #[.slice A l0.length c, .func (.func 147) #[] #[.pointer (some ⟨gk, 0, none⟩)]] W fun e W' => ∃ F', e = .returned (.slice A (l0.filter (outS l1)).length c) ∧ Hp w0 (row k79 79 base (.slice A (l0.filter (outS l1)).length c) (l0.filter (outS l1)) F' :: blk gk #[.func (.func 123) #[] #[.pointer (some ⟨gl, 0, none⟩)]] 137 :: blk gl #[.slice A1 l1.length c1] 39 :: cs) W' := by
  have hcap := (row_len (hp.at_ 0 _ (by rfl))).2
  refine sx_enter (N := 42) (l := [.slice A l0.length c, .func (.func 147) #[] #[.pointer (some ⟨gk, 0, none⟩)]]) Try.func146 rfl rfl rfl ?_
  refine wp_seq ?_
  refine sx_region ?_
  refine sx_rd 4 (.slice none 0 0) (by rfl) (by kernel_rfl) ?_
  refine sx_nil ?_
  refine ex_then_n ?_
  refine wp_seq ?_
  refine sx_region ?_
  refine sx_rd 8 (.slice A l0.length c) (by rfl) (by kernel_rfl) ?_
  refine sx_rd 9 (.func (.func 147) #[] #[.pointer (some ⟨gk, 0, none⟩)]) (by rfl) (by kernel_rfl) ?_
  refine sx_call 10 (by rfl) (by kernel_rfl) ((idxL_sx gk gl A1 c1 l1 hl1 hc1 hC1 hn (hp.take [0, 1, 2] 3 (by decide) (by simp))).mono ?_)
  rintro _ W_1 ⟨rfl, hp⟩
  refine ⟨_, rfl, ?_⟩
  refine sx_rd 5 (.int .i64 (goneAtP l0 (outS l1))) (by rfl) (by kernel_rfl) ?_
  refine sx_nil ?_
  refine ex_then_n ?_
  refine wp_seq ?_
  refine wp_seq ?_
  refine sx_region ?_
  refine sx_rd 11 (.int .i64 (goneAtP l0 (outS l1))) (by rfl) (by kernel_rfl) ?_
  refine sx_rd 12 (.bool ((goneAtP l0 (outS l1)) == (-1))) (by rfl) (by kernel_rfl) ?_
  refine sx_nil ?_
  refine ex_then_n ?_
  refine sx_cond ((goneAtP l0 (outS l1)) == (-1)) (by rfl) (fun c_2 => ?_) (fun c_2 => ?_)
  ·
    have c_2p := eq_of_beq_ c_2
    refine wp_seq ?_
    refine sx_region ?_
    refine sx_rd 13 (.slice A l0.length c) (by rfl) (by kernel_rfl) ?_
    refine sx_rd 4 (.slice A l0.length c) (by rfl) (by kernel_rfl) ?_
    refine sx_nil ?_
    refine ex_then_n ?_
    refine wp_ret ?_
    refine ex_then_r ?_
    refine sx_end (.slice A l0.length c) (res1 4 (by rfl)) ?_
    have hg1 := goneAtP_neg c_2p
    exact ⟨_, by rw [hg1], by rw [hg1]; exact hp⟩
  ·
    have c_2p := ne_of_beq_ c_2
    obtain ⟨i0, hi0, hlt, hall, hno⟩ := goneAtP_pos c_2p
    rw [hi0]
    obtain ⟨g, rfl⟩ := row_form (hp.at_ 0 _ (by rfl)) (by omega)
    have hst := dlP_start hlt hall hno
    refine wp_skip ?_
    refine ex_then_n ?_
    refine wp_seq ?_
    refine wp_seq ?_
    refine sx_region ?_
    refine sx_rd 14 (.int .i64 (i0 : Int)) (by rfl) (by kernel_rfl) ?_
    refine sx_rd 15 (.int .i64 ((i0 : Int) + 1)) (by rfl) (wr_ok (by omega) (by kernel_rfl)) ?_
    refine sx_rd 6 (.int .i64 ((i0 : Int) + 1)) (by rfl) (by kernel_rfl) ?_
    refine sx_nil ?_
    refine ex_then_n ?_
    refine wp_block ?_
    have e0_3 : l0 = (dlP (outS l1) l0 (i0 + 1)).1 := (by rw [hst])
    have hp : Hp w0 (row k79 79 base (.slice (some ⟨g, 0, none⟩) l0.length c) ((dlP (outS l1) l0 (i0 + 1)).1) F :: blk gk #[.func (.func 123) #[] #[.pointer (some ⟨gl, 0, none⟩)]] 137 :: blk gl #[.slice A1 l1.length c1] 39 :: cs) W_1 := by rw [← e0_3]; exact hp
    refine wp_loop_ghost (fun n_ a_ W => ∃ (r_ : List (Nat × Value)) (i : Nat) (Fi0 : Nat → Prop), n_ = l0.length - i ∧ a_ = fr 42 ([(0, .slice (some ⟨g, 0, none⟩) l0.length c), (1, .func (.func 147) #[] #[.pointer (some ⟨gk, 0, none⟩)]), (5, .int .i64 ((dlP (outS l1) l0 i).2 : Int)), (6, .int .i64 (i : Int))] ++ r_) ∧ Hp w0 (row k79 79 base (.slice (some ⟨g, 0, none⟩) l0.length c) ((dlP (outS l1) l0 i).1) Fi0 :: blk gk #[.func (.func 123) #[] #[.pointer (some ⟨gl, 0, none⟩)]] 137 :: blk gl #[.slice A1 l1.length c1] 39 :: cs) W ∧ (i ≤ l0.length)) _ ⟨_, (i0 + 1), _, rfl, fr_front [(0, .slice (some ⟨g, 0, none⟩) l0.length c), (1, .func (.func 147) #[] #[.pointer (some ⟨gk, 0, none⟩)]), (5, .int .i64 ((dlP (outS l1) l0 (i0 + 1)).2 : Int)), (6, .int .i64 (((i0 + 1) : Nat) : Int))] ⟨rfl, rfl, (by exact congrArg (Value.int .i64) (show (i0 : Int) = ((dlP (outS l1) l0 (i0 + 1)).2 : Int) from (by rw [hst]))), rfl, trivial⟩, (hp.take [0, 1, 2] 3 (by decide) (by simp)), (by omega)⟩ ?_
    rintro _ _ W_4 ⟨r_, i, Fi0, rfl, rfl, hp, hi⟩
    have hinv := dlP_inv (outS l1) l0 i (by omega)
    obtain ⟨hl1i, hl2i, -, -, -⟩ := hinv
    refine wp_seq ?_
    refine wp_seq ?_
    refine sx_region ?_
    refine sx_rd 16 (.int .i64 (i : Int)) (by rfl) (by kernel_rfl) ?_
    refine sx_rd 17 (.slice (some ⟨g, 0, none⟩) l0.length c) (by rfl) (by kernel_rfl) ?_
    refine sx_rd 18 (.int .i64 (l0.length : Int)) (by rfl) (by kernel_rfl) ?_
    refine sx_rd 19 (.bool (decide ((i : Int) < (l0.length : Int)))) (by rfl) (by kernel_rfl) ?_
    refine sx_nil ?_
    refine ex_then_n ?_
    refine sx_cond (decide ((i : Int) < (l0.length : Int))) (by rfl) (fun c_5 => ?_) (fun c_5 => ?_)
    ·
      have c_5p := of_decide_eq_true c_5
      refine wp_skip ?_
      refine ex_then_n ?_
      refine wp_seq ?_
      refine wp_block ?_
      refine wp_seq ?_
      refine sx_region ?_
      refine sx_rd 22 (.slice (some ⟨g, 0, none⟩) l0.length c) (by rfl) (by kernel_rfl) ?_
      refine sx_rd 23 (.int .i64 (i : Int)) (by rfl) (by kernel_rfl) ?_
      refine sx_rd 24 (.pointer (some (adr (some ⟨g, 0, none⟩) (i : Int) 2))) (by rfl) (ix_run (d := k79) (row_Cn (hp.at_ 0 _ (by rfl))) (t := 39) (by rfl) (by rfl) (by rfl) Try.underlying39 (by kernel_rfl) (by omega) (by omega)) ?_
      refine sx_rd 25 (.agg #[.int .i64 ((rd_Tile ((dlP (outS l1) l0 i).1) (i : Int)).f0), .int .i64 ((rd_Tile ((dlP (outS l1) l0 i).1) (i : Int)).f1)]) (by rfl) (el_run (d := k79) (row_C (hp.at_ 0 _ (by rfl))) z79 (i : Int) (by omega) (by omega) (cells := [.int .i64 ((rd_Tile ((dlP (outS l1) l0 i).1) (i : Int)).f0), .int .i64 ((rd_Tile ((dlP (outS l1) l0 i).1) (i : Int)).f1)]) (fun cs h => k79_open h) 0 [.int .i64 ((rd_Tile ((dlP (outS l1) l0 i).1) (i : Int)).f0), .int .i64 ((rd_Tile ((dlP (outS l1) l0 i).1) (i : Int)).f1)] (by rfl) (t := 79) (p := (.tmp 24)) (by rfl) (by rfl) (by kernel_rfl) (by kernel_rfl)) ?_
      refine sx_box 7 hp #[.int .i64 0, .int .i64 0] 79 (by rfl) (fun W => by kernel_rfl) ?_
      intro g_6 W_7 hp
      refine sx_store (t := 79) (p := (.tmp 7)) (x := (.tmp 25)) (by rfl) (by rfl) 0 (by rfl) 0 [.int .i64 ((rd_Tile ((dlP (outS l1) l0 i).1) (i : Int)).f0), .int .i64 ((rd_Tile ((dlP (outS l1) l0 i).1) (i : Int)).f1)] (by rfl) (by rfl) (by kernel_rfl) (by simp [Value.oneCell']) (by show 2 ≤ 2; omega) #[.int .i64 ((rd_Tile ((dlP (outS l1) l0 i).1) (i : Int)).f0), .int .i64 ((rd_Tile ((dlP (outS l1) l0 i).1) (i : Int)).f1)] (by rfl) hp ?_
      intro W_8 hp; simp only [List.set_cons_succ, List.set_cons_zero] at hp
      refine sx_nil ?_
      refine ex_then_n ?_
      refine wp_seq ?_
      refine sx_region ?_
      refine sx_rd 26 (.func (.func 147) #[] #[.pointer (some ⟨gk, 0, none⟩)]) (by rfl) (by kernel_rfl) ?_
      refine sx_rd 27 (.agg #[.int .i64 ((rd_Tile ((dlP (outS l1) l0 i).1) (i : Int)).f0), .int .i64 ((rd_Tile ((dlP (outS l1) l0 i).1) (i : Int)).f1)]) (by rfl) (ldn (t := 79) (p := (.tmp 7)) (by rfl) (by rfl) (by kernel_rfl) (by kernel_rfl) (by kernel_rfl) (hp.at_ 0 _ (by rfl))) ?_
      refine sx_call 28 (by rfl) (by kernel_rfl) ((kept1_sx gk gl A1 c1 l1 hl1 hc1 (fun W h => hC1 W h.tail.tail) (rd_Tile ((dlP (outS l1) l0 i).1) (i : Int)) (hp.take [2, 3, 0, 1] 4 (by decide) (by simp))).mono ?_)
      rintro _ W_9 ⟨rfl, hp⟩
      refine ⟨_, rfl, ?_⟩
      replace hp : Hp w0 (blk g_6 #[.int .i64 ((rd_Tile ((dlP (outS l1) l0 i).1) (i : Int)).f0), .int .i64 ((rd_Tile ((dlP (outS l1) l0 i).1) (i : Int)).f1)] 79 :: row k79 79 base (.slice (some ⟨g, 0, none⟩) l0.length c) ((dlP (outS l1) l0 i).1) Fi0 :: blk gk #[.func (.func 123) #[] #[.pointer (some ⟨gl, 0, none⟩)]] 137 :: blk gl #[.slice A1 l1.length c1] 39 :: cs) _ := (hp.take [2, 3, 0, 1] 4 (by decide) (by simp))
      refine sx_rd 29 (.bool (!(!outS l1 (rd_Tile ((dlP (outS l1) l0 i).1) (i : Int))))) (by rfl) (by kernel_rfl) ?_
      refine sx_nil ?_
      refine ex_then_n ?_
      refine sx_cond (!(!outS l1 (rd_Tile ((dlP (outS l1) l0 i).1) (i : Int)))) (by rfl) (fun c_10 => ?_) (fun c_10 => ?_)
      ·
        refine wp_seq ?_
        refine sx_region ?_
        refine sx_rd 30 (.slice (some ⟨g, 0, none⟩) l0.length c) (by rfl) (by kernel_rfl) ?_
        refine sx_rd 31 (.int .i64 ((dlP (outS l1) l0 i).2 : Int)) (by rfl) (by kernel_rfl) ?_
        refine sx_rd 32 (.agg #[.int .i64 ((rd_Tile ((dlP (outS l1) l0 i).1) (i : Int)).f0), .int .i64 ((rd_Tile ((dlP (outS l1) l0 i).1) (i : Int)).f1)]) (by rfl) (ldn (t := 79) (p := (.tmp 7)) (by rfl) (by rfl) (by kernel_rfl) (by kernel_rfl) (by kernel_rfl) (hp.at_ 0 _ (by rfl))) ?_
        refine sx_rd 33 (.pointer (some (adr (some ⟨g, 0, none⟩) ((dlP (outS l1) l0 i).2 : Int) 2))) (by rfl) (ix_run (d := k79) (row_Cn (hp.at_ 1 _ (by rfl))) (t := 39) (by rfl) (by rfl) (by rfl) Try.underlying39 (by kernel_rfl) (by omega) (by omega)) ?_
        refine sx_rowstore (t := 79) (p := (.tmp 33)) (x := (.tmp 32)) (by rfl) (by rfl) 1 k79 (by rfl) ((dlP (outS l1) l0 i).2 : Int) (rd_Tile ((dlP (outS l1) l0 i).1) (i : Int)) [.int .i64 ((rd_Tile ((dlP (outS l1) l0 i).1) (i : Int)).f0), .int .i64 ((rd_Tile ((dlP (outS l1) l0 i).1) (i : Int)).f1)] (by rfl) (by rfl) (by kernel_rfl) (by simp [Value.oneCell']) (by rfl) (by omega) (by omega) z79 (fun _ => (k79_mkM _ _ _ _)) hp ?_
        intro F_11 W_12 hp; simp only [List.set_cons_succ, List.set_cons_zero] at hp
        refine sx_nil ?_
        refine ex_then_n ?_
        refine sx_region ?_
        refine sx_rd 34 (.int .i64 ((dlP (outS l1) l0 i).2 : Int)) (by rfl) (by kernel_rfl) ?_
        refine sx_rd 35 (.int .i64 (((dlP (outS l1) l0 i).2 : Int) + 1)) (by rfl) (wr_ok (by omega) (by kernel_rfl)) ?_
        refine sx_rd 5 (.int .i64 (((dlP (outS l1) l0 i).2 : Int) + 1)) (by rfl) (by kernel_rfl) ?_
        refine sx_nil ?_
        refine ex_blk_n ?_
        refine ex_then_n ?_
        refine sx_region ?_
        refine sx_rd 20 (.int .i64 (i : Int)) (by rfl) (by kernel_rfl) ?_
        refine sx_rd 21 (.int .i64 ((i : Int) + 1)) (by rfl) (wr_ok (by omega) (by kernel_rfl)) ?_
        refine sx_rd 6 (.int .i64 ((i : Int) + 1)) (by rfl) (by kernel_rfl) ?_
        refine sx_nil ?_
        refine ex_then_n ?_
        have hq_13 : (((dlP (outS l1) l0 i).2 : Int) + 1) = ((dlP (outS l1) l0 (i + 1)).2 : Int) := by simp only [dlP]; rw [if_pos (by have q := (not_eq c_10); simpa using q)] <;> simp
        have hq_14 : ((dlP (outS l1) l0 i).1.set (((dlP (outS l1) l0 i).2 : Int)).toNat (rd_Tile ((dlP (outS l1) l0 i).1) (i : Int))) = (dlP (outS l1) l0 (i + 1)).1 := by simp only [dlP]; rw [if_pos (by have q := (not_eq c_10); simpa using q)] <;> simp
        rw [hq_14] at hp
        exact ⟨_, (by omega), _, (i + 1), _, rfl, fr_front [(0, .slice (some ⟨g, 0, none⟩) l0.length c), (1, .func (.func 147) #[] #[.pointer (some ⟨gk, 0, none⟩)]), (5, .int .i64 ((dlP (outS l1) l0 (i + 1)).2 : Int)), (6, .int .i64 ((i + 1 : Nat) : Int))] ⟨rfl, rfl, congrArg (Value.int .i64) hq_13, rfl, trivial⟩, (hp.take [1, 2, 3] 4 (by decide) (by simp)), (by omega)⟩
      ·
        refine wp_skip ?_
        refine ex_blk_n ?_
        refine ex_then_n ?_
        refine sx_region ?_
        refine sx_rd 20 (.int .i64 (i : Int)) (by rfl) (by kernel_rfl) ?_
        refine sx_rd 21 (.int .i64 ((i : Int) + 1)) (by rfl) (wr_ok (by omega) (by kernel_rfl)) ?_
        refine sx_rd 6 (.int .i64 ((i : Int) + 1)) (by rfl) (by kernel_rfl) ?_
        refine sx_nil ?_
        refine ex_then_n ?_
        have hq_15 : ((dlP (outS l1) l0 i).2 : Int) = ((dlP (outS l1) l0 (i + 1)).2 : Int) := by simp only [dlP]; rw [if_neg (by have q := (not_eq c_10); simp at q; rw [q]; simp)]
        have hq_16 : (dlP (outS l1) l0 i).1 = (dlP (outS l1) l0 (i + 1)).1 := by simp only [dlP]; rw [if_neg (by have q := (not_eq c_10); simp at q; rw [q]; simp)]
        rw [hq_16] at hp
        exact ⟨_, (by omega), _, (i + 1), _, rfl, fr_front [(0, .slice (some ⟨g, 0, none⟩) l0.length c), (1, .func (.func 147) #[] #[.pointer (some ⟨gk, 0, none⟩)]), (5, .int .i64 ((dlP (outS l1) l0 (i + 1)).2 : Int)), (6, .int .i64 ((i + 1 : Nat) : Int))] ⟨rfl, rfl, congrArg (Value.int .i64) hq_15, rfl, trivial⟩, (hp.take [1, 2, 3] 4 (by decide) (by simp)), (by omega)⟩
    ·
      have c_5p := of_decide_eq_false c_5
      refine wp_exit ?_
      refine ex_then_e (ex_then_e (ex_blk_here ?_))
      refine ex_then_n ?_
      refine wp_seq ?_
      refine sx_region ?_
      refine sx_rd 36 (.slice (some ⟨g, 0, none⟩) l0.length c) (by rfl) (by kernel_rfl) ?_
      refine sx_rd 37 (.int .i64 ((dlP (outS l1) l0 i).2 : Int)) (by rfl) (by kernel_rfl) ?_
      refine sx_rd 38 (.slice (if c = (dlP (outS l1) l0 i).2 then some ⟨g, 0, none⟩ else Option.map (fun y : Addr => y.add ((dlP (outS l1) l0 i).2 * 2)) (some ⟨g, 0, none⟩)) ((l0.drop (dlP (outS l1) l0 i).2).length) (c - (dlP (outS l1) l0 i).2)) (by rfl) (sl_lo (dlP (outS l1) l0 i).2 (sz := 2) (xs := l0) (by rfl) (by rfl) (by rfl) rfl Try.underlying39 (by kernel_rfl) (by omega)) ?_
      have hdl : (l0.drop (dlP (outS l1) l0 i).2).length = l0.length - (dlP (outS l1) l0 i).2 := List.length_drop
      have hp := hp.cut 0 (by rfl) (dlP (outS l1) l0 i).2 (by omega)
      simp only [List.set_cons_zero] at hp
      refine sx_clear0 (by rfl) hp 0 k79 (by rfl) (by rfl) (by rfl) (fun _ => by rw [if_neg (by omega)]; exact add_at3 _ _) (by omega) Try.underlying39 (.agg #[.int .i64 0, .int .i64 0]) (by kernel_rfl) (by rfl) (by first | decide | simp [Value.cells, Value.oneCell'] | kernel_rfl) ?_
      intro W_17 hp
      refine sx_nil ?_
      refine ex_then_n ?_
      refine wp_seq ?_
      refine sx_region ?_
      refine sx_rd 39 (.slice (some ⟨g, 0, none⟩) l0.length c) (by rfl) (by kernel_rfl) ?_
      refine sx_rd 40 (.int .i64 ((dlP (outS l1) l0 i).2 : Int)) (by rfl) (by kernel_rfl) ?_
      refine sx_rd 41 (.slice (some ⟨g, 0, none⟩) ((l0.take (dlP (outS l1) l0 i).2).length) c) (by rfl) (sl_hi (dlP (outS l1) l0 i).2 (sz := 2) (xs := l0) (by rfl) (by rfl) (by rfl) rfl Try.underlying39 (by kernel_rfl) (by omega) hcap) ?_
      refine sx_rd 4 (.slice (some ⟨g, 0, none⟩) ((l0.take (dlP (outS l1) l0 i).2).length) c) (by rfl) (by kernel_rfl) ?_
      refine sx_nil ?_
      refine ex_then_n ?_
      refine wp_ret ?_
      refine sx_end (.slice (some ⟨g, 0, none⟩) ((l0.take (dlP (outS l1) l0 i).2).length) c) (res1 4 (by rfl)) ?_
      obtain rfl : i = l0.length := by omega
      obtain ⟨e1, e2⟩ := dlP_end (outS l1) l0
      rw [e1, e2] at hp
      exact ⟨_, by rw [List.length_take, e2, Nat.min_eq_left (List.length_filter_le _ _)], hp⟩
set_option maxRecDepth 100000 in
set_option maxHeartbeats 40000000 in
theorem kept_sx {w0 W : World} {cs : List Chunk} (gl : Nat) (A1 : Option Addr) (c1 : Nat) (l1 : List S_Tile) (hl1 : l1.length ≤ 1000) (hc1 : l1.length ≤ c1) (hC1 : ∀ W, Hp w0 cs W → Kd.C k79 W A1 l1.length l1) (A0 : Option Addr) (c0 : Nat) (l0 : List S_Tile) (hb0 : handB l0 = true) (hc0 : l0.length ≤ c0) (hC0 : ∀ W, Hp w0 cs W → Kd.C k79 W A0 l0.length l0) (hp : Hp w0 (blk gl #[.slice A1 l1.length c1] 39 :: cs) W) :
  Calls Try.prog 122 #[.slice A0 l0.length c0, .func (.func 123) #[] #[.pointer (some ⟨gl, 0, none⟩)]] W fun e W' => ∃ A c F, e = .returned (.slice A (lessS l0 l1).length c) ∧ Hp w0 (row k79 79 w0.heap.size (.slice A (lessS l0 l1).length c) (lessS l0 l1) F :: blk gl #[.slice A1 l1.length c1] 39 :: cs) W' := by
 refine sx_enter (N := 9) (l := [.slice A0 l0.length c0, .func (.func 123) #[] #[.pointer (some ⟨gl, 0, none⟩)]]) Try.func122 rfl rfl rfl ?_
 refine wp_seq ?_
 refine sx_region ?_
 refine sx_box 3 hp #[.func (.func 123) #[] #[.pointer (some ⟨gl, 0, none⟩)]] 137 (by rfl) (fun W => by kernel_rfl) ?_
 intro g_1 W_2 hp
 refine sx_rd 4 (.slice none 0 0) (by rfl) (by kernel_rfl) ?_
 refine sx_nil ?_
 refine ex_then_n ?_
 refine wp_seq ?_
 refine sx_region ?_
 refine sx_rd 5 (.slice A0 l0.length c0) (by rfl) (by kernel_rfl) ?_
 refine sx_call 6 (by rfl) (by kernel_rfl) ((impl_sorted.calls A0 c0 l0 _ _ (hC0 _ hp.tail.tail) hc0 (sorted_handG hb0)).mono ?_)
 rintro _ W_8 ⟨v_4, rfl, hR_3, hb⟩
 refine ⟨_, rfl, ?_⟩
 obtain ⟨A_5, c_6, rfl, hcc_c_6, _⟩ := Kd.R_reads hR_3
 obtain ⟨F_7, hp⟩ : ∃ F, Hp w0 (row k79 79 w0.heap.size (.slice A_5 (sortT l0).length c_6) (sortT l0) F :: blk g_1 #[.func (.func 123) #[] #[.pointer (some ⟨gl, 0, none⟩)]] 137 :: blk gl #[.slice A1 l1.length c1] 39 :: cs) _ := ⟨_, Hp.made hp hb hR_3⟩
 refine sx_rd 7 (.func (.func 147) #[] #[.pointer (some ⟨g_1, 0, none⟩)]) (by rfl) (by kernel_rfl) ?_
 refine sx_call 8 (by rfl) (by kernel_rfl) ((delL_sx g_1 gl A1 c1 l1 hl1 hc1 (fun W h => hC1 W h) (by have q := sortT_len l0; omega) (hp.take [0, 1, 2] 3 (by decide) (by simp))).mono ?_)
 rintro _ W_10 ⟨F_9, rfl, hp⟩
 refine ⟨_, rfl, ?_⟩
 refine sx_rd 4 (.slice A_5 ((lessS l0 l1).length) c_6) (by rfl) (by kernel_rfl) ?_
 refine sx_nil ?_
 refine ex_then_n ?_
 refine wp_ret ?_
 refine sx_end (.slice A_5 ((lessS l0 l1).length) c_6) (res1 4 (by rfl)) ?_
 exact ⟨_, _, _, rfl, (hp.take [0, 2] 3 (by decide) (by simp))⟩
def impl_less.f (a b : List S_Tile) : Option (List S_Tile) := if handB a = true ∧ b.length ≤ 1000 then some (lessS a b) else none
set_option maxRecDepth 100000 in
set_option maxHeartbeats 40000000 in
theorem impl_less.calls (A0 : Option Addr) (c0 : Nat) (l0 : List S_Tile) (A1 : Option Addr) (c1 : Nat) (l1 : List S_Tile) (r : List S_Tile) (w : World) (hr0 : Kd.C k79 w A0 l0.length l0) (hc0 : l0.length ≤ c0) (hr1 : Kd.C k79 w A1 l1.length l1) (hc1 : l1.length ≤ c1) (h : impl_less.f l0 l1 = some r) :
  Calls Try.prog 87 #[.slice A0 l0.length c0, .slice A1 l1.length c1] w fun e w' => ∃ v0_ : Value, e = .returned (v0_) ∧ Kd.R k79 79 w' w.heap.size (fun _ => True) v0_ r ∧ Below w.heap.size w w' := by
 unfold impl_less.f at h
 by_cases hsz : handB l0 = true ∧ l1.length ≤ 1000
 case neg => rw [if_neg hsz] at h; cases h
 rw [if_pos hsz] at h
 obtain ⟨hb0, hz1⟩ := hsz
 obtain ⟨cs, hcs⟩ : ∃ cs, cs = [old w w.heap.size] := ⟨_, rfl⟩
 have hp : Hp w cs w := by rw [hcs]; exact Hp.old_start w
 have hc2 : ∀ W, Hp w cs W → Below w.heap.size w W := fun W h => by rw [hcs] at h; exact h.since 0 _ rfl
 have hC0 : ∀ W, Hp w cs W → Kd.C k79 W A0 l0.length l0 := fun W h => Kd.C_below hr0 (hc2 W h)
 have hC1 : ∀ W, Hp w cs W → Kd.C k79 W A1 l1.length l1 := fun W h => Kd.C_below hr1 (hc2 W h)
 clear hcs
 refine sx_enter (N := 8) (l := [.slice A0 l0.length c0, .slice A1 l1.length c1]) Try.func87 rfl rfl rfl ?_
 refine wp_seq ?_
 refine sx_region ?_
 refine sx_box 3 hp #[.slice A1 l1.length c1] 39 (by rfl) (fun W => by kernel_rfl) ?_
 intro g_1 W_2 hp
 refine sx_rd 4 (.slice none 0 0) (by rfl) (by kernel_rfl) ?_
 refine sx_nil ?_
 refine ex_then_n ?_
 refine wp_seq ?_
 refine sx_region ?_
 refine sx_rd 5 (.slice A0 l0.length c0) (by rfl) (by kernel_rfl) ?_
 refine sx_rd 6 (.func (.func 123) #[] #[.pointer (some ⟨g_1, 0, none⟩)]) (by rfl) (by kernel_rfl) ?_
 refine sx_call 7 (by rfl) (by kernel_rfl) ((kept_sx g_1 A1 c1 l1 hz1 hc1 (fun W h => hC1 W h) A0 c0 l0 hb0 hc0 (fun W h => hC0 W h) (hp.take [0] 1 (by decide) (by simp))).mono ?_)
 rintro _ W_3 ⟨AK, cK, FK, rfl, hp⟩
 refine ⟨_, rfl, ?_⟩
 refine sx_rd 4 (.slice AK ((lessS l0 l1).length) cK) (by rfl) (by kernel_rfl) ?_
 refine sx_nil ?_
 refine ex_then_n ?_
 refine wp_ret ?_
 refine sx_end (.slice AK ((lessS l0 l1).length) cK) (res1 4 (by rfl)) ?_
 obtain rfl := Option.some.inj h
 exact ⟨_, rfl, Kd.R_mono (row_R (hp.at_ 0 _ (by rfl))) (fun _ _ => trivial), hc2 _ (hp.tail.tail)⟩
end Go.Proofs.Ytkjaahmlnbgnjaa.Hd
