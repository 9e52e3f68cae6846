/- impl.SingleTiles and what it calls with its closure, by hand. -/
import Derived.Test.YtjhbnkplpaffoaaGreatDoorPSingA
import Derived.Test.YtjhbnkplpaffoaaGreatDoorMCut
import Derived.Test.YtjhbnkplpaffoaaGreatDoorMSxN
import Derived.Test.YtjhbnkplpaffoaaGreatDoorMTileR
import Derived.Test.YtjhbnkplpaffoaaGreatDoorG3
namespace Go.Proofs.YtjhbnkplpaffoaaGreatDoor.Hd
open Go.RowKit Go.Proofs.YtjhbnkplpaffoaaGreatDoor.Pure Go.Proofs.YtjhbnkplpaffoaaGreatDoorW.PrintWords Go.Proofs.YtjhbnkplpaffoaaGreatDoorW.PrintLast Go.Proofs.YtjhbnkplpaffoaaGreatDoorW.PrintMore
set_option linter.unusedVariables false
set_option linter.unusedSimpArgs false
set_option maxRecDepth 100000 in
set_option maxHeartbeats 40000000 in
theorem one1_sx {w0 W : World} {cs : List Chunk} (gk gl : Nat) (s : ByteArray) (hs : s.size ≤ 1048576) (ht : isTab s = true) (hM : ∀ W, Hp w0 cs W → ∃ m, W.cell? ⟨0, 0, none⟩ = some (.int .i64 m)) (t : S_Tile) (hp : Hp w0 (blk gl #[.string s] 9 :: cs) W) :
  Calls Tryz.prog 17 #[.agg #[.int .i64 t.f0, .int .i64 t.f1], .pointer (some ⟨gl, 0, none⟩)] W fun e W' => e = .returned (.bool (oneP s t)) ∧ Hp w0 (blk gl #[.string s] 9 :: cs) W' := by
 refine sx_enter (N := 9) (l := [.agg #[.int .i64 t.f0, .int .i64 t.f1], .pointer (some ⟨gl, 0, none⟩)]) Tryz.func17 rfl rfl rfl ?_
 refine wp_seq ?_
 refine sx_region ?_
 refine sx_box 2 hp #[.int .i64 t.f0, .int .i64 t.f1] 38 (by rfl) (fun W => by kernel_rfl) ?_
 intro g_1 W_2 hp
 refine sx_rd 3 (.bool false) (by rfl) (by kernel_rfl) ?_
 refine sx_nil ?_
 refine ex_then_n ?_
 refine wp_seq ?_
 refine sx_region ?_
 refine sx_rd 4 (.string s) (by rfl) (ld1 (t := 9) (p := (.tmp 1)) (by rfl) (by rfl) (by kernel_rfl) (hp.cell 1 (by rfl) 0 _ (by rfl))) ?_
 refine sx_rd 5 (.agg #[.int .i64 t.f0, .int .i64 t.f1]) (by rfl) (ldn (t := 38) (p := (.tmp 2)) (by rfl) (by rfl) (by kernel_rfl) (by kernel_rfl) (by kernel_rfl) (hp.at_ 0 _ (by rfl))) ?_
 obtain ⟨k_3, hk_k_3⟩ := Ev.rounds (implPlaces_ev hs ht t.f0 t.f1)
 refine sx_call 6 (by rfl) (by kernel_rfl) ((impl_places.calls k_3 s t.f0 t.f1 _ _ (hM _ (hp.tail.tail)) hk_k_3).mono ?_)
 rintro _ W_9 ⟨v_5, rfl, hR_4, hb⟩
 refine ⟨_, rfl, ?_⟩
 obtain ⟨A_6, c_7, rfl, hcc_c_7, _⟩ := Kd.S_reads hR_4
 obtain ⟨F_8, hp⟩ : ∃ F, Hp w0 (rowS (Kd.slice 3 (Kd.int .i64)) 31 w0.heap.size (.slice A_6 (placesOf s t.f0 t.f1).length c_7) (placesOf s t.f0 t.f1) F :: blk g_1 #[.int .i64 t.f0, .int .i64 t.f1] 38 :: blk gl #[.string s] 9 :: cs) _ := ⟨_, Hp.madeS hp hb hR_4⟩
 refine sx_rd 7 (.int .i64 ((placesOf s t.f0 t.f1).length : Int)) (by rfl) (by kernel_rfl) ?_
 refine sx_rd 8 (.bool (((placesOf s t.f0 t.f1).length : Int) == 1)) (by rfl) (by kernel_rfl) ?_
 refine sx_rd 3 (.bool (((placesOf s t.f0 t.f1).length : Int) == 1)) (by rfl) (by kernel_rfl) ?_
 refine sx_nil ?_
 refine ex_then_n ?_
 refine wp_ret ?_
 refine sx_end (.bool (((placesOf s t.f0 t.f1).length : Int) == 1)) (res1 3 (by rfl)) ?_
 exact ⟨rfl, (hp.take [2] 3 (by decide) (by simp))⟩
set_option maxRecDepth 100000 in
set_option maxHeartbeats 40000000 in
theorem keptO1_sx {w0 W : World} {cs : List Chunk} (gk gl : Nat) (s : ByteArray) (hs : s.size ≤ 1048576) (ht : isTab s = true) (hM : ∀ W, Hp w0 cs W → ∃ m, W.cell? ⟨0, 0, none⟩ = some (.int .i64 m)) (t : S_Tile) (hp : Hp w0 (blk gk #[.func (.func 17) #[] #[.pointer (some ⟨gl, 0, none⟩)]] 46 :: blk gl #[.string s] 9 :: cs) W) :
  Calls Tryz.prog 29 #[.agg #[.int .i64 t.f0, .int .i64 t.f1], .pointer (some ⟨gk, 0, none⟩)] W fun e W' => e = .returned (.bool (!oneP s t)) ∧ Hp w0 (blk gk #[.func (.func 17) #[] #[.pointer (some ⟨gl, 0, none⟩)]] 46 :: blk gl #[.string s] 9 :: cs) W' := by
 refine sx_enter (N := 8) (l := [.agg #[.int .i64 t.f0, .int .i64 t.f1], .pointer (some ⟨gk, 0, none⟩)]) Tryz.func29 rfl rfl rfl ?_
 refine wp_seq ?_
 refine sx_region ?_
 refine sx_box 2 hp #[.int .i64 t.f0, .int .i64 t.f1] 38 (by rfl) (fun W => by kernel_rfl) ?_
 intro g_1 W_2 hp
 refine sx_rd 3 (.bool false) (by rfl) (by kernel_rfl) ?_
 refine sx_nil ?_
 refine ex_then_n ?_
 refine wp_seq ?_
 refine sx_region ?_
 refine sx_rd 4 (.func (.func 17) #[] #[.pointer (some ⟨gl, 0, none⟩)]) (by rfl) (ld1 (t := 46) (p := (.tmp 1)) (by rfl) (by rfl) (by kernel_rfl) (hp.cell 1 (by rfl) 0 _ (by rfl))) ?_
 refine sx_rd 5 (.agg #[.int .i64 t.f0, .int .i64 t.f1]) (by rfl) (ldn (t := 38) (p := (.tmp 2)) (by rfl) (by rfl) (by kernel_rfl) (by kernel_rfl) (by kernel_rfl) (hp.at_ 0 _ (by rfl))) ?_
 refine sx_call 6 (by rfl) (by kernel_rfl) ((one1_sx gk gl s hs ht (fun W h => hM W h.tail.tail) t (hp.take [2, 0, 1] 3 (by decide) (by simp))).mono ?_)
 rintro _ W_3 ⟨rfl, hp⟩
 refine ⟨_, rfl, ?_⟩
 replace hp : Hp w0 (blk g_1 #[.int .i64 t.f0, .int .i64 t.f1] 38 :: blk gk #[.func (.func 17) #[] #[.pointer (some ⟨gl, 0, none⟩)]] 46 :: blk gl #[.string s] 9 :: cs) _ := (hp.take [1, 2, 0] 3 (by decide) (by simp))
 refine sx_rd 7 (.bool (!(oneP s t))) (by rfl) (by kernel_rfl) ?_
 refine sx_rd 3 (.bool (!(oneP s t))) (by rfl) (by kernel_rfl) ?_
 refine sx_nil ?_
 refine ex_then_n ?_
 refine wp_ret ?_
 refine sx_end (.bool (!(oneP s t))) (res1 3 (by rfl)) ?_
 exact ⟨rfl, (hp.take [1, 2] 3 (by decide) (by simp))⟩
set_option maxRecDepth 100000 in
set_option maxHeartbeats 40000000 in
theorem idxO_sx {w0 W : World} {cs : List Chunk} (gk gl : Nat) (s : ByteArray) (hs : s.size ≤ 1048576) (ht : isTab s = true) (hM : ∀ W, Hp w0 cs W → ∃ m, W.cell? ⟨0, 0, none⟩ = some (.int .i64 m)) {base c : Nat} {A : Option Addr} {l0 : List S_Tile} {F : Nat → Prop} (hn : l0.length ≤ 1000000) (hp : Hp w0 (row k38 38 base (.slice A l0.length c) l0 F :: blk gk #[.func (.func 17) #[] #[.pointer (some ⟨gl, 0, none⟩)]] 46 :: blk gl #[.string s] 9 :: cs) W) :
    Calls Tryz.prog 44 #[.slice A l0.length c, .func (.func 29) #[] #[.pointer (some ⟨gk, 0, none⟩)]] W fun e W' => e = .returned (.int .i64 (goneAtP l0 (oneP s))) ∧ Hp w0 (row k38 38 base (.slice A l0.length c) l0 F :: blk gk #[.func (.func 17) #[] #[.pointer (some ⟨gl, 0, none⟩)]] 46 :: blk gl #[.string s] 9 :: cs) W' := by
  refine sx_enter (N := 19) (l := [.slice A l0.length c, .func (.func 29) #[] #[.pointer (some ⟨gk, 0, none⟩)]]) Tryz.func44 rfl rfl rfl ?_
  refine wp_seq ?_
  refine sx_region ?_
  refine sx_rd 4 (.int .i64 0) (by rfl) (by kernel_rfl) ?_
  refine sx_nil ?_
  refine ex_then_n ?_
  refine wp_seq ?_
  refine wp_seq ?_
  refine sx_region ?_
  refine sx_rd 6 (.slice A l0.length c) (by rfl) (by kernel_rfl) ?_
  refine sx_rd 7 (.int .i64 (l0.length : Int)) (by rfl) (by kernel_rfl) ?_
  refine sx_rd 8 (.int .i64 0) (by rfl) (by kernel_rfl) ?_
  refine sx_nil ?_
  refine ex_then_n ?_
  refine wp_block ?_
  refine wp_loop_ghost (fun n_ a_ W => ∃ (r_ : List (Nat × Value)) (i : Nat) , n_ = l0.length - i ∧ a_ = fr 19 ([(0, .slice A l0.length c), (1, .func (.func 29) #[] #[.pointer (some ⟨gk, 0, none⟩)]), (7, .int .i64 (l0.length : Int)), (8, .int .i64 (i : Int))] ++ r_) ∧ Hp w0 (row k38 38 base (.slice A l0.length c) l0 F :: blk gk #[.func (.func 17) #[] #[.pointer (some ⟨gl, 0, none⟩)]] 46 :: blk gl #[.string s] 9 :: cs) W ∧ (i ≤ l0.length) ∧ (∀ j, j < i → oneP s (rd_Tile l0 (j : Int)) = true)) _ ⟨_, 0, rfl, fr_front [(0, .slice A l0.length c), (1, .func (.func 29) #[] #[.pointer (some ⟨gk, 0, none⟩)]), (7, .int .i64 (l0.length : Int)), (8, .int .i64 0)] ⟨rfl, rfl, rfl, rfl, trivial⟩, (hp.take [0, 1, 2] 3 (by decide) (by simp)), Nat.zero_le _, (fun j hj => absurd hj (Nat.not_lt_zero _))⟩ ?_
  rintro _ _ W_1 ⟨r_, i, rfl, rfl, hp, hi, hall⟩
  refine wp_seq ?_
  refine sx_region ?_
  refine sx_rd 9 (.bool (decide ((i : Int) < (l0.length : Int)))) (by rfl) (by kernel_rfl) ?_
  refine sx_nil ?_
  refine ex_then_n ?_
  refine wp_seq ?_
  refine sx_cond (decide ((i : Int) < (l0.length : Int))) (by rfl) (fun c_2 => ?_) (fun c_2 => ?_)
  ·
    have c_2p := of_decide_eq_true c_2
    refine wp_skip ?_
    refine ex_then_n ?_
    refine wp_seq ?_
    refine wp_block ?_
    refine wp_seq ?_
    refine sx_region ?_
    refine sx_rd 10 (.int .i64 (i : Int)) (by rfl) (by kernel_rfl) ?_
    refine sx_rd 5 (.int .i64 (i : Int)) (by rfl) (by kernel_rfl) ?_
    refine sx_nil ?_
    refine ex_then_n ?_
    refine wp_seq ?_
    refine sx_region ?_
    refine sx_rd 11 (.func (.func 29) #[] #[.pointer (some ⟨gk, 0, none⟩)]) (by rfl) (by kernel_rfl) ?_
    refine sx_rd 12 (.slice A l0.length c) (by rfl) (by kernel_rfl) ?_
    refine sx_rd 13 (.int .i64 (i : Int)) (by rfl) (by kernel_rfl) ?_
    refine sx_rd 14 (.pointer (some (adr A (i : Int) 2))) (by rfl) (ix_run (d := k38) (row_C (hp.at_ 0 _ (by rfl))) (t := 24) (by rfl) (by rfl) (by rfl) Tryz.underlying24 (by kernel_rfl) (by omega) (by omega)) ?_
    refine sx_rd 15 (.agg #[.int .i64 ((rd_Tile l0 (i : Int)).f0), .int .i64 ((rd_Tile l0 (i : Int)).f1)]) (by rfl) (el_run (d := k38) (row_C (hp.at_ 0 _ (by rfl))) z38 (i : Int) (by omega) (by omega) (cells := [.int .i64 ((rd_Tile l0 (i : Int)).f0), .int .i64 ((rd_Tile l0 (i : Int)).f1)]) (fun cs h => k38_open h) 0 [.int .i64 ((rd_Tile l0 (i : Int)).f0), .int .i64 ((rd_Tile l0 (i : Int)).f1)] (by rfl) (t := 38) (p := (.tmp 14)) (by rfl) (by rfl) (by kernel_rfl) (by kernel_rfl)) ?_
    refine sx_call 16 (by rfl) (by kernel_rfl) ((keptO1_sx gk gl s hs ht (fun W h => hM W h.tail) (rd_Tile l0 (i : Int)) (hp.take [1, 2, 0] 3 (by decide) (by simp))).mono ?_)
    rintro _ W_3 ⟨rfl, hp⟩
    refine ⟨_, rfl, ?_⟩
    replace hp : Hp w0 (row k38 38 base (.slice A l0.length c) l0 F :: blk gk #[.func (.func 17) #[] #[.pointer (some ⟨gl, 0, none⟩)]] 46 :: blk gl #[.string s] 9 :: cs) _ := (hp.take [2, 0, 1] 3 (by decide) (by simp))
    refine sx_nil ?_
    refine ex_then_n ?_
    refine sx_cond (!oneP s (rd_Tile l0 (i : Int))) (by rfl) (fun c_4 => ?_) (fun c_4 => ?_)
    ·
      refine wp_seq ?_
      refine sx_region ?_
      refine sx_rd 17 (.int .i64 (i : Int)) (by rfl) (by kernel_rfl) ?_
      refine sx_rd 4 (.int .i64 (i : Int)) (by rfl) (by kernel_rfl) ?_
      refine sx_nil ?_
      refine ex_then_n ?_
      refine wp_ret ?_
      refine ex_blk_r (ex_then_r (ex_then_r (ex_blk_r (ex_then_r ?_))))
      refine sx_end (.int .i64 (i : Int)) (res1 4 (by rfl)) ?_
      exact ⟨congrArg (fun z => Ending.returned (.int .i64 z)) (goneAtP_hit (by omega) hall (by simpa using c_4)).symm, (hp.take [0, 1, 2] 3 (by decide) (by simp))⟩
    ·
      refine wp_skip ?_
      refine ex_blk_n ?_
      refine ex_then_n ?_
      refine sx_region ?_
      refine sx_rd 18 (.int .i64 ((i : Int) + 1)) (by rfl) (wr_ok (by omega) (by kernel_rfl)) ?_
      refine sx_rd 8 (.int .i64 ((i : Int) + 1)) (by rfl) (by kernel_rfl) ?_
      refine sx_nil ?_
      refine ex_then_n ?_
      exact ⟨_, (by omega), _, (i + 1), rfl, fr_front [(0, .slice A l0.length c), (1, .func (.func 29) #[] #[.pointer (some ⟨gk, 0, none⟩)]), (7, .int .i64 (l0.length : Int)), (8, .int .i64 ((i + 1 : Nat) : Int))] ⟨rfl, rfl, rfl, rfl, trivial⟩, (hp.take [0, 1, 2] 3 (by decide) (by simp)), (by omega), (fun j hj => by rcases Nat.lt_succ_iff_lt_or_eq.1 hj with q | rfl; exact hall j q; exact (by simpa using c_4))⟩
  ·
    have c_2p := of_decide_eq_false c_2
    refine wp_exit ?_
    refine ex_then_e (ex_then_e (ex_blk_here ?_))
    refine ex_then_n ?_
    refine wp_seq ?_
    refine sx_region ?_
    refine sx_rd 4 (.int .i64 (-1)) (by rfl) (by kernel_rfl) ?_
    refine sx_nil ?_
    refine ex_then_n ?_
    refine wp_ret ?_
    refine sx_end (.int .i64 (-1)) (res1 4 (by rfl)) ?_
    obtain rfl : i = l0.length := by omega
    exact ⟨congrArg (fun z => Ending.returned (.int .i64 z)) (goneAtP_none hall).symm, (hp.take [0, 1, 2] 3 (by decide) (by simp))⟩
theorem add_at4 (g n : Nat) : Option.map (fun x : Addr => x.add (n * 2)) (some ⟨g, 0, none⟩) = some ⟨g, n * 2, none⟩ := by
  simp only [Option.map_some, Addr.add]
  split
  · rename_i h; rw [h]
  · simp
set_option maxRecDepth 100000 in
set_option maxHeartbeats 40000000 in
theorem delO_sx {w0 W : World} {cs : List Chunk} (gk gl : Nat) (s : ByteArray) (hs : s.size ≤ 1048576) (ht : isTab s = true) (hM : ∀ W, Hp w0 cs W → ∃ m, W.cell? ⟨0, 0, none⟩ = some (.int .i64 m)) {base c : Nat} {A : Option Addr} {l0 : List S_Tile} {F : Nat → Prop} (hn : l0.length ≤ 1000000) (hp : Hp w0 (row k38 38 base (.slice A l0.length c) l0 F :: blk gk #[.func (.func 17) #[] #[.pointer (some ⟨gl, 0, none⟩)]] 46 :: blk gl #[.string s] 9 :: cs) W) :
    Calls Tryz.prog 27 #[.slice A l0.length c, .func (.func 29) #[] #[.pointer (some ⟨gk, 0, none⟩)]] W fun e W' => ∃ F', e = .returned (.slice A (l0.filter (oneP s)).length c) ∧ Hp w0 (row k38 38 base (.slice A (l0.filter (oneP s)).length c) (l0.filter (oneP s)) F' :: blk gk #[.func (.func 17) #[] #[.pointer (some ⟨gl, 0, none⟩)]] 46 :: blk gl #[.string s] 9 :: cs) W' := by
  have hcap := (row_len (hp.at_ 0 _ (by rfl))).2
  refine sx_enter (N := 42) (l := [.slice A l0.length c, .func (.func 29) #[] #[.pointer (some ⟨gk, 0, none⟩)]]) Tryz.func27 rfl rfl rfl ?_
  refine wp_seq ?_
  refine sx_region ?_
  refine sx_rd 4 (.slice none 0 0) (by rfl) (by kernel_rfl) ?_
  refine sx_nil ?_
  refine ex_then_n ?_
  refine wp_seq ?_
  refine sx_region ?_
  refine sx_rd 8 (.slice A l0.length c) (by rfl) (by kernel_rfl) ?_
  refine sx_rd 9 (.func (.func 29) #[] #[.pointer (some ⟨gk, 0, none⟩)]) (by rfl) (by kernel_rfl) ?_
  refine sx_call 10 (by rfl) (by kernel_rfl) ((idxO_sx gk gl s hs ht hM hn (hp.take [0, 1, 2] 3 (by decide) (by simp))).mono ?_)
  rintro _ W_1 ⟨rfl, hp⟩
  refine ⟨_, rfl, ?_⟩
  refine sx_rd 5 (.int .i64 (goneAtP l0 (oneP s))) (by rfl) (by kernel_rfl) ?_
  refine sx_nil ?_
  refine ex_then_n ?_
  refine wp_seq ?_
  refine wp_seq ?_
  refine sx_region ?_
  refine sx_rd 11 (.int .i64 (goneAtP l0 (oneP s))) (by rfl) (by kernel_rfl) ?_
  refine sx_rd 12 (.bool ((goneAtP l0 (oneP s)) == (-1))) (by rfl) (by kernel_rfl) ?_
  refine sx_nil ?_
  refine ex_then_n ?_
  refine sx_cond ((goneAtP l0 (oneP s)) == (-1)) (by rfl) (fun c_2 => ?_) (fun c_2 => ?_)
  ·
    have c_2p := eq_of_beq_ c_2
    refine wp_seq ?_
    refine sx_region ?_
    refine sx_rd 13 (.slice A l0.length c) (by rfl) (by kernel_rfl) ?_
    refine sx_rd 4 (.slice A l0.length c) (by rfl) (by kernel_rfl) ?_
    refine sx_nil ?_
    refine ex_then_n ?_
    refine wp_ret ?_
    refine ex_then_r ?_
    refine sx_end (.slice A l0.length c) (res1 4 (by rfl)) ?_
    have hg1 := goneAtP_neg c_2p
    exact ⟨_, by rw [hg1], by rw [hg1]; exact hp⟩
  ·
    have c_2p := ne_of_beq_ c_2
    obtain ⟨i0, hi0, hlt, hall, hno⟩ := goneAtP_pos c_2p
    rw [hi0]
    obtain ⟨g, rfl⟩ := row_form (hp.at_ 0 _ (by rfl)) (by omega)
    have hst := dlP_start hlt hall hno
    refine wp_skip ?_
    refine ex_then_n ?_
    refine wp_seq ?_
    refine wp_seq ?_
    refine sx_region ?_
    refine sx_rd 14 (.int .i64 (i0 : Int)) (by rfl) (by kernel_rfl) ?_
    refine sx_rd 15 (.int .i64 ((i0 : Int) + 1)) (by rfl) (wr_ok (by omega) (by kernel_rfl)) ?_
    refine sx_rd 6 (.int .i64 ((i0 : Int) + 1)) (by rfl) (by kernel_rfl) ?_
    refine sx_nil ?_
    refine ex_then_n ?_
    refine wp_block ?_
    have e0_3 : l0 = (dlP (oneP s) l0 (i0 + 1)).1 := (by rw [hst])
    have hp : Hp w0 (row k38 38 base (.slice (some ⟨g, 0, none⟩) l0.length c) ((dlP (oneP s) l0 (i0 + 1)).1) F :: blk gk #[.func (.func 17) #[] #[.pointer (some ⟨gl, 0, none⟩)]] 46 :: blk gl #[.string s] 9 :: cs) W_1 := by rw [← e0_3]; exact hp
    refine wp_loop_ghost (fun n_ a_ W => ∃ (r_ : List (Nat × Value)) (i : Nat) (Fi0 : Nat → Prop), n_ = l0.length - i ∧ a_ = fr 42 ([(0, .slice (some ⟨g, 0, none⟩) l0.length c), (1, .func (.func 29) #[] #[.pointer (some ⟨gk, 0, none⟩)]), (5, .int .i64 ((dlP (oneP s) l0 i).2 : Int)), (6, .int .i64 (i : Int))] ++ r_) ∧ Hp w0 (row k38 38 base (.slice (some ⟨g, 0, none⟩) l0.length c) ((dlP (oneP s) l0 i).1) Fi0 :: blk gk #[.func (.func 17) #[] #[.pointer (some ⟨gl, 0, none⟩)]] 46 :: blk gl #[.string s] 9 :: cs) W ∧ (i ≤ l0.length)) _ ⟨_, (i0 + 1), _, rfl, fr_front [(0, .slice (some ⟨g, 0, none⟩) l0.length c), (1, .func (.func 29) #[] #[.pointer (some ⟨gk, 0, none⟩)]), (5, .int .i64 ((dlP (oneP s) l0 (i0 + 1)).2 : Int)), (6, .int .i64 (((i0 + 1) : Nat) : Int))] ⟨rfl, rfl, (by exact congrArg (Value.int .i64) (show (i0 : Int) = ((dlP (oneP s) l0 (i0 + 1)).2 : Int) from (by rw [hst]))), rfl, trivial⟩, (hp.take [0, 1, 2] 3 (by decide) (by simp)), (by omega)⟩ ?_
    rintro _ _ W_4 ⟨r_, i, Fi0, rfl, rfl, hp, hi⟩
    have hinv := dlP_inv (oneP s) l0 i (by omega)
    obtain ⟨hl1i, hl2i, -, -, -⟩ := hinv
    refine wp_seq ?_
    refine wp_seq ?_
    refine sx_region ?_
    refine sx_rd 16 (.int .i64 (i : Int)) (by rfl) (by kernel_rfl) ?_
    refine sx_rd 17 (.slice (some ⟨g, 0, none⟩) l0.length c) (by rfl) (by kernel_rfl) ?_
    refine sx_rd 18 (.int .i64 (l0.length : Int)) (by rfl) (by kernel_rfl) ?_
    refine sx_rd 19 (.bool (decide ((i : Int) < (l0.length : Int)))) (by rfl) (by kernel_rfl) ?_
    refine sx_nil ?_
    refine ex_then_n ?_
    refine sx_cond (decide ((i : Int) < (l0.length : Int))) (by rfl) (fun c_5 => ?_) (fun c_5 => ?_)
    ·
      have c_5p := of_decide_eq_true c_5
      refine wp_skip ?_
      refine ex_then_n ?_
      refine wp_seq ?_
      refine wp_block ?_
      refine wp_seq ?_
      refine sx_region ?_
      refine sx_rd 22 (.slice (some ⟨g, 0, none⟩) l0.length c) (by rfl) (by kernel_rfl) ?_
      refine sx_rd 23 (.int .i64 (i : Int)) (by rfl) (by kernel_rfl) ?_
      refine sx_rd 24 (.pointer (some (adr (some ⟨g, 0, none⟩) (i : Int) 2))) (by rfl) (ix_run (d := k38) (row_Cn (hp.at_ 0 _ (by rfl))) (t := 24) (by rfl) (by rfl) (by rfl) Tryz.underlying24 (by kernel_rfl) (by omega) (by omega)) ?_
      refine sx_rd 25 (.agg #[.int .i64 ((rd_Tile ((dlP (oneP s) l0 i).1) (i : Int)).f0), .int .i64 ((rd_Tile ((dlP (oneP s) l0 i).1) (i : Int)).f1)]) (by rfl) (el_run (d := k38) (row_C (hp.at_ 0 _ (by rfl))) z38 (i : Int) (by omega) (by omega) (cells := [.int .i64 ((rd_Tile ((dlP (oneP s) l0 i).1) (i : Int)).f0), .int .i64 ((rd_Tile ((dlP (oneP s) l0 i).1) (i : Int)).f1)]) (fun cs h => k38_open h) 0 [.int .i64 ((rd_Tile ((dlP (oneP s) l0 i).1) (i : Int)).f0), .int .i64 ((rd_Tile ((dlP (oneP s) l0 i).1) (i : Int)).f1)] (by rfl) (t := 38) (p := (.tmp 24)) (by rfl) (by rfl) (by kernel_rfl) (by kernel_rfl)) ?_
      refine sx_box 7 hp #[.int .i64 0, .int .i64 0] 38 (by rfl) (fun W => by kernel_rfl) ?_
      intro g_6 W_7 hp
      refine sx_store (t := 38) (p := (.tmp 7)) (x := (.tmp 25)) (by rfl) (by rfl) 0 (by rfl) 0 [.int .i64 ((rd_Tile ((dlP (oneP s) l0 i).1) (i : Int)).f0), .int .i64 ((rd_Tile ((dlP (oneP s) l0 i).1) (i : Int)).f1)] (by rfl) (by rfl) (by kernel_rfl) (by simp [Value.oneCell']) (by show 2 ≤ 2; omega) #[.int .i64 ((rd_Tile ((dlP (oneP s) l0 i).1) (i : Int)).f0), .int .i64 ((rd_Tile ((dlP (oneP s) l0 i).1) (i : Int)).f1)] (by rfl) hp ?_
      intro W_8 hp; simp only [List.set_cons_succ, List.set_cons_zero] at hp
      refine sx_nil ?_
      refine ex_then_n ?_
      refine wp_seq ?_
      refine sx_region ?_
      refine sx_rd 26 (.func (.func 29) #[] #[.pointer (some ⟨gk, 0, none⟩)]) (by rfl) (by kernel_rfl) ?_
      refine sx_rd 27 (.agg #[.int .i64 ((rd_Tile ((dlP (oneP s) l0 i).1) (i : Int)).f0), .int .i64 ((rd_Tile ((dlP (oneP s) l0 i).1) (i : Int)).f1)]) (by rfl) (ldn (t := 38) (p := (.tmp 7)) (by rfl) (by rfl) (by kernel_rfl) (by kernel_rfl) (by kernel_rfl) (hp.at_ 0 _ (by rfl))) ?_
      refine sx_call 28 (by rfl) (by kernel_rfl) ((keptO1_sx gk gl s hs ht (fun W h => hM W h.tail.tail) (rd_Tile ((dlP (oneP s) l0 i).1) (i : Int)) (hp.take [2, 3, 0, 1] 4 (by decide) (by simp))).mono ?_)
      rintro _ W_9 ⟨rfl, hp⟩
      refine ⟨_, rfl, ?_⟩
      replace hp : Hp w0 (blk g_6 #[.int .i64 ((rd_Tile ((dlP (oneP s) l0 i).1) (i : Int)).f0), .int .i64 ((rd_Tile ((dlP (oneP s) l0 i).1) (i : Int)).f1)] 38 :: row k38 38 base (.slice (some ⟨g, 0, none⟩) l0.length c) ((dlP (oneP s) l0 i).1) Fi0 :: blk gk #[.func (.func 17) #[] #[.pointer (some ⟨gl, 0, none⟩)]] 46 :: blk gl #[.string s] 9 :: cs) _ := (hp.take [2, 3, 0, 1] 4 (by decide) (by simp))
      refine sx_rd 29 (.bool (!(!oneP s (rd_Tile ((dlP (oneP s) l0 i).1) (i : Int))))) (by rfl) (by kernel_rfl) ?_
      refine sx_nil ?_
      refine ex_then_n ?_
      refine sx_cond (!(!oneP s (rd_Tile ((dlP (oneP s) l0 i).1) (i : Int)))) (by rfl) (fun c_10 => ?_) (fun c_10 => ?_)
      ·
        refine wp_seq ?_
        refine sx_region ?_
        refine sx_rd 30 (.slice (some ⟨g, 0, none⟩) l0.length c) (by rfl) (by kernel_rfl) ?_
        refine sx_rd 31 (.int .i64 ((dlP (oneP s) l0 i).2 : Int)) (by rfl) (by kernel_rfl) ?_
        refine sx_rd 32 (.agg #[.int .i64 ((rd_Tile ((dlP (oneP s) l0 i).1) (i : Int)).f0), .int .i64 ((rd_Tile ((dlP (oneP s) l0 i).1) (i : Int)).f1)]) (by rfl) (ldn (t := 38) (p := (.tmp 7)) (by rfl) (by rfl) (by kernel_rfl) (by kernel_rfl) (by kernel_rfl) (hp.at_ 0 _ (by rfl))) ?_
        refine sx_rd 33 (.pointer (some (adr (some ⟨g, 0, none⟩) ((dlP (oneP s) l0 i).2 : Int) 2))) (by rfl) (ix_run (d := k38) (row_Cn (hp.at_ 1 _ (by rfl))) (t := 24) (by rfl) (by rfl) (by rfl) Tryz.underlying24 (by kernel_rfl) (by omega) (by omega)) ?_
        refine sx_rowstore (t := 38) (p := (.tmp 33)) (x := (.tmp 32)) (by rfl) (by rfl) 1 k38 (by rfl) ((dlP (oneP s) l0 i).2 : Int) (rd_Tile ((dlP (oneP s) l0 i).1) (i : Int)) [.int .i64 ((rd_Tile ((dlP (oneP s) l0 i).1) (i : Int)).f0), .int .i64 ((rd_Tile ((dlP (oneP s) l0 i).1) (i : Int)).f1)] (by rfl) (by rfl) (by kernel_rfl) (by simp [Value.oneCell']) (by rfl) (by omega) (by omega) z38 (fun _ => (k38_mkM _ _ _ _)) hp ?_
        intro F_11 W_12 hp; simp only [List.set_cons_succ, List.set_cons_zero] at hp
        refine sx_nil ?_
        refine ex_then_n ?_
        refine sx_region ?_
        refine sx_rd 34 (.int .i64 ((dlP (oneP s) l0 i).2 : Int)) (by rfl) (by kernel_rfl) ?_
        refine sx_rd 35 (.int .i64 (((dlP (oneP s) l0 i).2 : Int) + 1)) (by rfl) (wr_ok (by omega) (by kernel_rfl)) ?_
        refine sx_rd 5 (.int .i64 (((dlP (oneP s) l0 i).2 : Int) + 1)) (by rfl) (by kernel_rfl) ?_
        refine sx_nil ?_
        refine ex_blk_n ?_
        refine ex_then_n ?_
        refine sx_region ?_
        refine sx_rd 20 (.int .i64 (i : Int)) (by rfl) (by kernel_rfl) ?_
        refine sx_rd 21 (.int .i64 ((i : Int) + 1)) (by rfl) (wr_ok (by omega) (by kernel_rfl)) ?_
        refine sx_rd 6 (.int .i64 ((i : Int) + 1)) (by rfl) (by kernel_rfl) ?_
        refine sx_nil ?_
        refine ex_then_n ?_
        have hq_13 : (((dlP (oneP s) l0 i).2 : Int) + 1) = ((dlP (oneP s) l0 (i + 1)).2 : Int) := by simp only [dlP]; rw [if_pos (by have q := (not_eq c_10); simpa using q)] <;> simp
        have hq_14 : ((dlP (oneP s) l0 i).1.set (((dlP (oneP s) l0 i).2 : Int)).toNat (rd_Tile ((dlP (oneP s) l0 i).1) (i : Int))) = (dlP (oneP s) l0 (i + 1)).1 := by simp only [dlP]; rw [if_pos (by have q := (not_eq c_10); simpa using q)] <;> simp
        rw [hq_14] at hp
        exact ⟨_, (by omega), _, (i + 1), _, rfl, fr_front [(0, .slice (some ⟨g, 0, none⟩) l0.length c), (1, .func (.func 29) #[] #[.pointer (some ⟨gk, 0, none⟩)]), (5, .int .i64 ((dlP (oneP s) l0 (i + 1)).2 : Int)), (6, .int .i64 ((i + 1 : Nat) : Int))] ⟨rfl, rfl, congrArg (Value.int .i64) hq_13, rfl, trivial⟩, (hp.take [1, 2, 3] 4 (by decide) (by simp)), (by omega)⟩
      ·
        refine wp_skip ?_
        refine ex_blk_n ?_
        refine ex_then_n ?_
        refine sx_region ?_
        refine sx_rd 20 (.int .i64 (i : Int)) (by rfl) (by kernel_rfl) ?_
        refine sx_rd 21 (.int .i64 ((i : Int) + 1)) (by rfl) (wr_ok (by omega) (by kernel_rfl)) ?_
        refine sx_rd 6 (.int .i64 ((i : Int) + 1)) (by rfl) (by kernel_rfl) ?_
        refine sx_nil ?_
        refine ex_then_n ?_
        have hq_15 : ((dlP (oneP s) l0 i).2 : Int) = ((dlP (oneP s) l0 (i + 1)).2 : Int) := by simp only [dlP]; rw [if_neg (by have q := (not_eq c_10); simp at q; rw [q]; simp)]
        have hq_16 : (dlP (oneP s) l0 i).1 = (dlP (oneP s) l0 (i + 1)).1 := by simp only [dlP]; rw [if_neg (by have q := (not_eq c_10); simp at q; rw [q]; simp)]
        rw [hq_16] at hp
        exact ⟨_, (by omega), _, (i + 1), _, rfl, fr_front [(0, .slice (some ⟨g, 0, none⟩) l0.length c), (1, .func (.func 29) #[] #[.pointer (some ⟨gk, 0, none⟩)]), (5, .int .i64 ((dlP (oneP s) l0 (i + 1)).2 : Int)), (6, .int .i64 ((i + 1 : Nat) : Int))] ⟨rfl, rfl, congrArg (Value.int .i64) hq_15, rfl, trivial⟩, (hp.take [1, 2, 3] 4 (by decide) (by simp)), (by omega)⟩
    ·
      have c_5p := of_decide_eq_false c_5
      refine wp_exit ?_
      refine ex_then_e (ex_then_e (ex_blk_here ?_))
      refine ex_then_n ?_
      refine wp_seq ?_
      refine sx_region ?_
      refine sx_rd 36 (.slice (some ⟨g, 0, none⟩) l0.length c) (by rfl) (by kernel_rfl) ?_
      refine sx_rd 37 (.int .i64 ((dlP (oneP s) l0 i).2 : Int)) (by rfl) (by kernel_rfl) ?_
      refine sx_rd 38 (.slice (if c = (dlP (oneP s) l0 i).2 then some ⟨g, 0, none⟩ else Option.map (fun y : Addr => y.add ((dlP (oneP s) l0 i).2 * 2)) (some ⟨g, 0, none⟩)) ((l0.drop (dlP (oneP s) l0 i).2).length) (c - (dlP (oneP s) l0 i).2)) (by rfl) (sl_lo (dlP (oneP s) l0 i).2 (sz := 2) (xs := l0) (by rfl) (by rfl) (by rfl) rfl Tryz.underlying24 (by kernel_rfl) (by omega)) ?_
      have hdl : (l0.drop (dlP (oneP s) l0 i).2).length = l0.length - (dlP (oneP s) l0 i).2 := List.length_drop
      have hp := hp.cut 0 (by rfl) (dlP (oneP s) l0 i).2 (by omega)
      simp only [List.set_cons_zero] at hp
      refine sx_clear0 (by rfl) hp 0 k38 (by rfl) (by rfl) (by rfl) (fun _ => by rw [if_neg (by omega)]; exact add_at4 _ _) (by omega) Tryz.underlying24 (.agg #[.int .i64 0, .int .i64 0]) (by kernel_rfl) (by rfl) (by first | decide | simp [Value.cells, Value.oneCell'] | kernel_rfl) ?_
      intro W_17 hp
      refine sx_nil ?_
      refine ex_then_n ?_
      refine wp_seq ?_
      refine sx_region ?_
      refine sx_rd 39 (.slice (some ⟨g, 0, none⟩) l0.length c) (by rfl) (by kernel_rfl) ?_
      refine sx_rd 40 (.int .i64 ((dlP (oneP s) l0 i).2 : Int)) (by rfl) (by kernel_rfl) ?_
      refine sx_rd 41 (.slice (some ⟨g, 0, none⟩) ((l0.take (dlP (oneP s) l0 i).2).length) c) (by rfl) (sl_hi (dlP (oneP s) l0 i).2 (sz := 2) (xs := l0) (by rfl) (by rfl) (by rfl) rfl Tryz.underlying24 (by kernel_rfl) (by omega) hcap) ?_
      refine sx_rd 4 (.slice (some ⟨g, 0, none⟩) ((l0.take (dlP (oneP s) l0 i).2).length) c) (by rfl) (by kernel_rfl) ?_
      refine sx_nil ?_
      refine ex_then_n ?_
      refine wp_ret ?_
      refine sx_end (.slice (some ⟨g, 0, none⟩) ((l0.take (dlP (oneP s) l0 i).2).length) c) (res1 4 (by rfl)) ?_
      obtain rfl : i = l0.length := by omega
      obtain ⟨e1, e2⟩ := dlP_end (oneP s) l0
      rw [e1, e2] at hp
      exact ⟨_, by rw [List.length_take, e2, Nat.min_eq_left (List.length_filter_le _ _)], hp⟩
set_option maxRecDepth 100000 in
set_option maxHeartbeats 40000000 in
theorem keptO_sx {w0 W : World} {cs : List Chunk} (gl : Nat) (s : ByteArray) (hs : s.size ≤ 1048576) (ht : isTab s = true) (hM : ∀ W, Hp w0 cs W → ∃ m, W.cell? ⟨0, 0, none⟩ = some (.int .i64 m)) (A0 : Option Addr) (c0 : Nat) (l0 : List S_Tile) (hb0 : handB l0 = true) (hc0 : l0.length ≤ c0) (hC0 : ∀ W, Hp w0 cs W → Kd.C k38 W A0 l0.length l0) (hp : Hp w0 (blk gl #[.string s] 9 :: cs) W) :
  Calls Tryz.prog 16 #[.slice A0 l0.length c0, .func (.func 17) #[] #[.pointer (some ⟨gl, 0, none⟩)]] W fun e W' => ∃ A c F, e = .returned (.slice A ((sortT l0).filter (oneP s)).length c) ∧ Hp w0 (row k38 38 w0.heap.size (.slice A ((sortT l0).filter (oneP s)).length c) ((sortT l0).filter (oneP s)) F :: blk gl #[.string s] 9 :: cs) W' := by
 refine sx_enter (N := 9) (l := [.slice A0 l0.length c0, .func (.func 17) #[] #[.pointer (some ⟨gl, 0, none⟩)]]) Tryz.func16 rfl rfl rfl ?_
 refine wp_seq ?_
 refine sx_region ?_
 refine sx_box 3 hp #[.func (.func 17) #[] #[.pointer (some ⟨gl, 0, none⟩)]] 46 (by rfl) (fun W => by kernel_rfl) ?_
 intro g_1 W_2 hp
 refine sx_rd 4 (.slice none 0 0) (by rfl) (by kernel_rfl) ?_
 refine sx_nil ?_
 refine ex_then_n ?_
 refine wp_seq ?_
 refine sx_region ?_
 refine sx_rd 5 (.slice A0 l0.length c0) (by rfl) (by kernel_rfl) ?_
 refine sx_call 6 (by rfl) (by kernel_rfl) ((impl_sorted.calls A0 c0 l0 _ _ (hC0 _ hp.tail.tail) hc0 (sorted_handS hb0)).mono ?_)
 rintro _ W_8 ⟨v_4, rfl, hR_3, hb⟩
 refine ⟨_, rfl, ?_⟩
 obtain ⟨A_5, c_6, rfl, hcc_c_6, _⟩ := Kd.R_reads hR_3
 obtain ⟨F_7, hp⟩ : ∃ F, Hp w0 (row k38 38 w0.heap.size (.slice A_5 (sortT l0).length c_6) (sortT l0) F :: blk g_1 #[.func (.func 17) #[] #[.pointer (some ⟨gl, 0, none⟩)]] 46 :: blk gl #[.string s] 9 :: cs) _ := ⟨_, Hp.made hp hb hR_3⟩
 refine sx_rd 7 (.func (.func 29) #[] #[.pointer (some ⟨g_1, 0, none⟩)]) (by rfl) (by kernel_rfl) ?_
 refine sx_call 8 (by rfl) (by kernel_rfl) ((delO_sx g_1 gl s hs ht (fun W h => hM W h) (by have q := sortT_len l0; omega) (hp.take [0, 1, 2] 3 (by decide) (by simp))).mono ?_)
 rintro _ W_10 ⟨F_9, rfl, hp⟩
 refine ⟨_, rfl, ?_⟩
 refine sx_rd 4 (.slice A_5 (((sortT l0).filter (oneP s)).length) c_6) (by rfl) (by kernel_rfl) ?_
 refine sx_nil ?_
 refine ex_then_n ?_
 refine wp_ret ?_
 refine sx_end (.slice A_5 (((sortT l0).filter (oneP s)).length) c_6) (res1 4 (by rfl)) ?_
 exact ⟨_, _, _, rfl, (hp.take [0, 2] 3 (by decide) (by simp))⟩
def impl_SingleTiles.f (s : ByteArray) (l : List S_Tile) : Option (List S_Tile × Bool) := if s.size ≤ 1048576 ∧ l.length ≤ 1048576 then some (singF s l) else none
set_option maxRecDepth 100000 in
set_option maxHeartbeats 40000000 in
theorem impl_SingleTiles.calls (a0 : ByteArray) (A1 : Option Addr) (c1 : Nat) (l1 : List S_Tile) (r0 : List S_Tile) (r1 : Bool) (w : World) (hr1 : Kd.C k38 w A1 l1.length l1) (hc1 : l1.length ≤ c1) (hmx : ∃ m, w.cell? ⟨0, 0, none⟩ = some (.int .i64 m)) (h : impl_SingleTiles.f a0 l1 = some (r0, r1)) :
    Calls Tryz.prog 7 #[.string a0, .slice A1 l1.length c1] w fun e w' => ∃ v0_ : Value, e = .returned (.tuple #[v0_, .bool r1]) ∧ Kd.R k38 38 w' w.heap.size (fun _ => True) v0_ r0 ∧ Below w.heap.size w w' := by
  unfold impl_SingleTiles.f at h
  by_cases hsz : a0.size ≤ 1048576 ∧ l1.length ≤ 1048576
  case neg => rw [if_neg hsz] at h; cases h
  rw [if_pos hsz] at h
  obtain ⟨cs, hcs⟩ : ∃ cs, cs = [old w w.heap.size] := ⟨_, rfl⟩
  have hp : Hp w cs w := by rw [hcs]; exact Hp.old_start w
  have hc2 : ∀ W, Hp w cs W → Below w.heap.size w W := fun W h => by rw [hcs] at h; exact h.since 0 _ rfl
  have hC1 : ∀ W, Hp w cs W → Kd.C k38 W A1 l1.length l1 := fun W h => Kd.C_below hr1 (hc2 W h)
  have hM : ∀ W, Hp w cs W → ∃ m, W.cell? ⟨0, 0, none⟩ = some (.int .i64 m) := fun W h => hmx.imp fun m q => ((hc2 W h).cell (World.block_lt_of_cell? _ _ q)).trans q
  clear hcs
  refine sx_enter (N := 13) (l := [.string a0, .slice A1 l1.length c1]) Tryz.func7 rfl rfl rfl ?_
  refine wp_seq ?_
  refine sx_region ?_
  refine sx_box 2 hp #[.string a0] 9 (by rfl) (fun W => by kernel_rfl) ?_
  intro g_1 W_2 hp
  refine sx_rd 4 (.slice none 0 0) (by rfl) (by kernel_rfl) ?_
  refine sx_rd 5 (.bool false) (by rfl) (by kernel_rfl) ?_
  refine sx_nil ?_
  refine ex_then_n ?_
  refine wp_seq ?_
  refine wp_seq ?_
  refine sx_region ?_
  refine sx_rd 6 (.string a0) (by rfl) (ld1 (t := 9) (p := (.tmp 2)) (by rfl) (by rfl) (by kernel_rfl) (hp.cell 0 (by rfl) 0 _ (by rfl))) ?_
  refine sx_rd 7 (.slice A1 l1.length c1) (by rfl) (by kernel_rfl) ?_
  obtain ⟨k_3, hk_k_3⟩ := Ev.rounds (isApart_ev hsz.1 hsz.2)
  refine sx_call 8 (by rfl) (by kernel_rfl) ((impl_isApart.calls k_3 a0 A1 c1 l1 _ _ (hC1 _ hp.tail) hc1 (hM _ (hp.tail)) hk_k_3).mono ?_)
  rintro _ W_4 ⟨rfl, hb⟩
  refine ⟨_, rfl, ?_⟩
  replace hp := hp.below hb
  clear hb
  refine sx_rd 9 (.bool (!(isTab a0 && handB l1))) (by rfl) (by kernel_rfl) ?_
  refine sx_nil ?_
  refine ex_then_n ?_
  refine sx_cond (!(isTab a0 && handB l1)) (by rfl) (fun c_5 => ?_) (fun c_5 => ?_)
  ·
    have hTH0 := (not_eq c_5)
    refine wp_seq ?_
    refine sx_region ?_
    refine sx_rd 4 (.slice none 0 0) (by rfl) (by kernel_rfl) ?_
    refine sx_rd 5 (.bool false) (by rfl) (by kernel_rfl) ?_
    refine sx_nil ?_
    refine ex_then_n ?_
    refine wp_ret ?_
    refine ex_then_r ?_
    refine sx_end (.tuple #[.slice none 0 0, .bool false]) (res2 4 5 (by rfl)) ?_
    rw [show singF a0 l1 = ([], false) from if_neg (by rw [(not_eq c_5)]; simp)] at h; simp only [Option.some.injEq, Prod.mk.injEq] at h; obtain ⟨rfl, rfl⟩ := h
    exact ⟨_, rfl, Kd.R_nil _ _ _ _ _, hc2 _ (hp.tail)⟩
  ·
    have hTH0 := (not_eq c_5)
    have hTH : isTab a0 = true ∧ handB l1 = true := by have q : (isTab a0 && handB l1) = true := (not_eq c_5); rwa [Bool.and_eq_true] at q
    refine wp_skip ?_
    refine ex_then_n ?_
    refine wp_seq ?_
    refine sx_region ?_
    refine sx_rd 10 (.slice A1 l1.length c1) (by rfl) (by kernel_rfl) ?_
    refine sx_rd 11 (.func (.func 17) #[] #[.pointer (some ⟨g_1, 0, none⟩)]) (by rfl) (by kernel_rfl) ?_
    refine sx_call 12 (by rfl) (by kernel_rfl) ((keptO_sx g_1 a0 hsz.1 hTH.1 (fun W h => hM W h) A1 c1 l1 hTH.2 hc1 (fun W h => hC1 W h) (hp.take [0] 1 (by decide) (by simp))).mono ?_)
    rintro _ W_6 ⟨AK, cK, FK, rfl, hp⟩
    refine ⟨_, rfl, ?_⟩
    refine sx_rd 4 (.slice AK (((sortT l1).filter (oneP a0)).length) cK) (by rfl) (by kernel_rfl) ?_
    refine sx_rd 5 (.bool true) (by rfl) (by kernel_rfl) ?_
    refine sx_nil ?_
    refine ex_then_n ?_
    refine wp_ret ?_
    refine sx_end (.tuple #[.slice AK (((sortT l1).filter (oneP a0)).length) cK, .bool true]) (res2 4 5 (by rfl)) ?_
    rw [show singF a0 l1 = ((sortT l1).filter (oneP a0), true) from if_pos (not_eq c_5)] at h; simp only [Option.some.injEq, Prod.mk.injEq] at h; obtain ⟨rfl, rfl⟩ := h
    exact ⟨_, rfl, Kd.R_mono (row_R (hp.at_ 0 _ (by rfl))) (fun _ _ => trivial), hc2 _ (hp.tail.tail)⟩
end Go.Proofs.YtjhbnkplpaffoaaGreatDoor.Hd
