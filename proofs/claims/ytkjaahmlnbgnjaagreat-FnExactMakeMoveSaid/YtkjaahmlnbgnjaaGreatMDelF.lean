/- slices.IndexFunc and slices.DeleteFunc with the closure of impl.Game.behind, by hand. -/
import Derived.Test.YtkjaahmlnbgnjaaGreatPMovedE
import Derived.Test.YtkjaahmlnbgnjaaGreatMCut
import Derived.Test.YtkjaahmlnbgnjaaGreatMSx5
import Derived.Test.YtkjaahmlnbgnjaaGreatMTileR
import Derived.Test.YtkjaahmlnbgnjaaGreatG0
namespace Go.Proofs.YtkjaahmlnbgnjaaGreat.Hd
open Go.RowKit Go.Proofs.YtkjaahmlnbgnjaaGreat.Pure Go.Proofs.YtkjaahmlnbgnjaaGreatW.PrintWords Go.Proofs.YtkjaahmlnbgnjaaGreatW.PrintLast Go.Proofs.YtkjaahmlnbgnjaaGreatW.PrintMore
set_option linter.unusedVariables false
set_option linter.unusedSimpArgs false
theorem out_not (t x : S_Tile) : (!outT t x) = ((x.f0 == t.f0) && (x.f1 == t.f1)) := by unfold outT; simp
set_option maxRecDepth 100000 in
set_option maxHeartbeats 40000000 in
theorem gone_sx {w0 W : World} {cs : List Chunk} (gm : Nat) (x : S_plLay) (hx : x.f2 = false) (hg : goodT x.f0 = true) (t : S_Tile) (hp : Hp w0 (blk gm #[.string (txt x)] 9 :: cs) W) :
    Calls Tryz.prog 66 #[.agg #[.int .i64 t.f0, .int .i64 t.f1], .pointer (some ⟨gm, 0, none⟩)] W fun e W' => e = .returned (.bool (!outT x.f0 t)) ∧ Hp w0 (blk gm #[.string (txt x)] 9 :: cs) W' := by
  refine sx_enter (N := 8) (l := [.agg #[.int .i64 t.f0, .int .i64 t.f1], .pointer (some ⟨gm, 0, none⟩)]) Tryz.func66 rfl rfl rfl ?_
  refine wp_seq ?_
  refine sx_region ?_
  refine sx_box 2 hp #[.int .i64 t.f0, .int .i64 t.f1] 59 (by rfl) (fun W => by kernel_rfl) ?_
  intro g_1 W_2 hp
  refine sx_rd 3 (.bool false) (by rfl) (by kernel_rfl) ?_
  refine sx_nil ?_
  refine ex_then_n ?_
  refine wp_seq ?_
  refine sx_drawT [] (.rd 0 (.rd 1 (.alt 2 (.rd 3 (.rd 4 (.fin))) .non))) 5 (C := Hp w0 (blk g_1 #[.int .i64 t.f0, .int .i64 t.f1] 59 :: blk gm #[.string (txt x)] 9 :: cs)) (by kernel_rfl) (by kernel_rfl) (fun d _ _ _ _ h => by cases d <;> exact h) (fun W h => h.drew) hp ?_
  refine preI_nil ?_
  intro W_3 hp
  refine treeI_rd rfl ?_
  refine sxq_val 4 (.agg #[.int .i64 t.f0, .int .i64 t.f1]) (by rfl) (fun W hp => (ldn (t := 59) (p := (.tmp 2)) (by rfl) (by rfl) (by kernel_rfl) (by kernel_rfl) (by kernel_rfl) (hp.at_ 0 _ (by rfl)))) ?_
  refine sxq_nil ?_
  refine treeI_rd rfl ?_
  refine sxq_val 5 (.string (txt x)) (by rfl) (fun W hp => (ld1 (t := 9) (p := (.tmp 1)) (by rfl) (by rfl) (by kernel_rfl) (hp.cell 1 (by rfl) 0 _ (by rfl)))) ?_
  refine sxq_nil ?_
  refine treeI_ev rfl ?_
  refine sx_call 6 (by rfl) (by kernel_rfl) ((impl_moved.calls (txt x) _ _ _ ((moved_eq hx hg).1)).mono ?_)
  rintro _ W_4 ⟨rfl, hb⟩
  refine ⟨_, rfl, ?_⟩
  replace hp := hp.below hb
  clear hb
  refine step_fin hp ?_
  refine treeI_rd rfl ?_
  refine sxq_val 7 (.bool ((t.f0 == x.f0.f0) && (t.f1 == x.f0.f1))) (by rfl) (fun W hp => (eqagg_run (by rfl) (by rfl) (by rfl) (fun d w => eqA59 d w _ _ _ _) (by kernel_rfl))) ?_
  refine sxq_nil ?_
  refine treeI_rd rfl ?_
  refine sxq_val 3 (.bool ((t.f0 == x.f0.f0) && (t.f1 == x.f0.f1))) (by rfl) (fun W hp => (by kernel_rfl)) ?_
  refine sxq_nil ?_
  refine treeI_fin ?_
  refine sx_nil ?_
  refine ex_then_n ?_
  refine wp_ret ?_
  refine sx_end (.bool ((t.f0 == x.f0.f0) && (t.f1 == x.f0.f1))) (res1 3 (by rfl)) ?_
  exact ⟨congrArg (fun b => Ending.returned (.bool b)) (out_not x.f0 t).symm, (hp.take [1] 2 (by decide) (by simp))⟩
set_option maxRecDepth 100000 in
set_option maxHeartbeats 40000000 in
theorem idxF_sx {w0 W : World} {cs : List Chunk} (gm : Nat) (x : S_plLay) (hx : x.f2 = false) (hg : goodT x.f0 = true) {base c : Nat} {A : Option Addr} {l0 : List S_Tile} {F : Nat → Prop} (hn : l0.length ≤ 1000000) (hp : Hp w0 (row k59 59 base (.slice A l0.length c) l0 F :: blk gm #[.string (txt x)] 9 :: cs) W) :
    Calls Tryz.prog 90 #[.slice A l0.length c, .func (.func 66) #[] #[.pointer (some ⟨gm, 0, none⟩)]] W fun e W' => e = .returned (.int .i64 (goneAt l0 x.f0)) ∧ Hp w0 (row k59 59 base (.slice A l0.length c) l0 F :: blk gm #[.string (txt x)] 9 :: cs) W' := by
  refine sx_enter (N := 19) (l := [.slice A l0.length c, .func (.func 66) #[] #[.pointer (some ⟨gm, 0, none⟩)]]) Tryz.func90 rfl rfl rfl ?_
  refine wp_seq ?_
  refine sx_region ?_
  refine sx_rd 4 (.int .i64 0) (by rfl) (by kernel_rfl) ?_
  refine sx_nil ?_
  refine ex_then_n ?_
  refine wp_seq ?_
  refine wp_seq ?_
  refine sx_region ?_
  refine sx_rd 6 (.slice A l0.length c) (by rfl) (by kernel_rfl) ?_
  refine sx_rd 7 (.int .i64 (l0.length : Int)) (by rfl) (by kernel_rfl) ?_
  refine sx_rd 8 (.int .i64 0) (by rfl) (by kernel_rfl) ?_
  refine sx_nil ?_
  refine ex_then_n ?_
  refine wp_block ?_
  refine wp_loop_ghost (fun n a W => ∃ (r : List (Nat × Value)) (i : Nat) , n = l0.length - i ∧ a = fr 19 ([(0, .slice A l0.length c), (1, .func (.func 66) #[] #[.pointer (some ⟨gm, 0, none⟩)]), (7, .int .i64 (l0.length : Int)), (8, .int .i64 (i : Int))] ++ r) ∧ Hp w0 (row k59 59 base (.slice A l0.length c) l0 F :: blk gm #[.string (txt x)] 9 :: cs) W ∧ (i ≤ l0.length) ∧ (∀ j, j < i → outT x.f0 (rd_Tile l0 (j : Int)) = true)) _ ⟨_, 0, rfl, fr_front [(0, .slice A l0.length c), (1, .func (.func 66) #[] #[.pointer (some ⟨gm, 0, none⟩)]), (7, .int .i64 (l0.length : Int)), (8, .int .i64 0)] ⟨rfl, rfl, rfl, rfl, trivial⟩, (hp.take [0, 1] 2 (by decide) (by simp)), Nat.zero_le _, (fun j hj => absurd hj (Nat.not_lt_zero _))⟩ ?_
  rintro _ _ W_1 ⟨r, i, rfl, rfl, hp, hi, hall⟩
  refine wp_seq ?_
  refine sx_region ?_
  refine sx_rd 9 (.bool (decide ((i : Int) < (l0.length : Int)))) (by rfl) (by kernel_rfl) ?_
  refine sx_nil ?_
  refine ex_then_n ?_
  refine wp_seq ?_
  refine sx_cond (decide ((i : Int) < (l0.length : Int))) (by rfl) (fun c_2 => ?_) (fun c_2 => ?_)
  ·
    have c_2p := of_decide_eq_true c_2
    refine wp_skip ?_
    refine ex_then_n ?_
    refine wp_seq ?_
    refine wp_block ?_
    refine wp_seq ?_
    refine sx_region ?_
    refine sx_rd 10 (.int .i64 (i : Int)) (by rfl) (by kernel_rfl) ?_
    refine sx_rd 5 (.int .i64 (i : Int)) (by rfl) (by kernel_rfl) ?_
    refine sx_nil ?_
    refine ex_then_n ?_
    refine wp_seq ?_
    refine sx_region ?_
    refine sx_rd 11 (.func (.func 66) #[] #[.pointer (some ⟨gm, 0, none⟩)]) (by rfl) (by kernel_rfl) ?_
    refine sx_rd 12 (.slice A l0.length c) (by rfl) (by kernel_rfl) ?_
    refine sx_rd 13 (.int .i64 (i : Int)) (by rfl) (by kernel_rfl) ?_
    refine sx_rd 14 (.pointer (some (adr A (i : Int) 2))) (by rfl) (ix_run (d := k59) (row_C (hp.at_ 0 _ (by rfl))) (t := 27) (by rfl) (by rfl) (by rfl) Tryz.underlying27 (by kernel_rfl) (by omega) (by omega)) ?_
    refine sx_rd 15 (.agg #[.int .i64 ((rd_Tile l0 (i : Int)).f0), .int .i64 ((rd_Tile l0 (i : Int)).f1)]) (by rfl) (el_run (d := k59) (row_C (hp.at_ 0 _ (by rfl))) z59 (i : Int) (by omega) (by omega) (cells := [.int .i64 ((rd_Tile l0 (i : Int)).f0), .int .i64 ((rd_Tile l0 (i : Int)).f1)]) (fun cs h => k59_open h) 0 [.int .i64 ((rd_Tile l0 (i : Int)).f0), .int .i64 ((rd_Tile l0 (i : Int)).f1)] (by rfl) (t := 59) (p := (.tmp 14)) (by rfl) (by rfl) (by kernel_rfl) (by kernel_rfl)) ?_
    refine sx_call 16 (by rfl) (by kernel_rfl) ((gone_sx gm x hx hg (rd_Tile l0 (i : Int)) (hp.take [1, 0] 2 (by decide) (by simp))).mono ?_)
    rintro _ W_3 ⟨rfl, hp⟩
    refine ⟨_, rfl, ?_⟩
    replace hp : Hp w0 (row k59 59 base (.slice A l0.length c) l0 F :: blk gm #[.string (txt x)] 9 :: cs) _ := (hp.take [1, 0] 2 (by decide) (by simp))
    refine sx_nil ?_
    refine ex_then_n ?_
    refine sx_cond (!outT x.f0 (rd_Tile l0 (i : Int))) (by rfl) (fun c_4 => ?_) (fun c_4 => ?_)
    ·
      refine wp_seq ?_
      refine sx_region ?_
      refine sx_rd 17 (.int .i64 (i : Int)) (by rfl) (by kernel_rfl) ?_
      refine sx_rd 4 (.int .i64 (i : Int)) (by rfl) (by kernel_rfl) ?_
      refine sx_nil ?_
      refine ex_then_n ?_
      refine wp_ret ?_
      refine ex_blk_r (ex_then_r (ex_then_r (ex_blk_r (ex_then_r ?_))))
      refine sx_end (.int .i64 (i : Int)) (res1 4 (by rfl)) ?_
      exact ⟨congrArg (fun z => Ending.returned (.int .i64 z)) (goneAt_hit (by omega) hall (by simpa using c_4)).symm, (hp.take [0, 1] 2 (by decide) (by simp))⟩
    ·
      refine wp_skip ?_
      refine ex_blk_n ?_
      refine ex_then_n ?_
      refine sx_region ?_
      refine sx_rd 18 (.int .i64 ((i : Int) + 1)) (by rfl) (wr_ok (by omega) (by kernel_rfl)) ?_
      refine sx_rd 8 (.int .i64 ((i : Int) + 1)) (by rfl) (by kernel_rfl) ?_
      refine sx_nil ?_
      refine ex_then_n ?_
      exact ⟨_, (by omega), _, (i + 1), rfl, fr_front [(0, .slice A l0.length c), (1, .func (.func 66) #[] #[.pointer (some ⟨gm, 0, none⟩)]), (7, .int .i64 (l0.length : Int)), (8, .int .i64 ((i + 1 : Nat) : Int))] ⟨rfl, rfl, rfl, rfl, trivial⟩, (hp.take [0, 1] 2 (by decide) (by simp)), (by omega), (fun j hj => by rcases Nat.lt_succ_iff_lt_or_eq.1 hj with q | rfl; exact hall j q; exact (by simpa using c_4))⟩
  ·
    have c_2p := of_decide_eq_false c_2
    refine wp_exit ?_
    refine ex_then_e (ex_then_e (ex_blk_here ?_))
    refine ex_then_n ?_
    refine wp_seq ?_
    refine sx_region ?_
    refine sx_rd 4 (.int .i64 (-1)) (by rfl) (by kernel_rfl) ?_
    refine sx_nil ?_
    refine ex_then_n ?_
    refine wp_ret ?_
    refine sx_end (.int .i64 (-1)) (res1 4 (by rfl)) ?_
    obtain rfl : i = l0.length := by omega
    exact ⟨congrArg (fun z => Ending.returned (.int .i64 z)) (goneAt_none hall).symm, (hp.take [0, 1] 2 (by decide) (by simp))⟩
theorem add_at2 (g n : Nat) : Option.map (fun x : Addr => x.add (n * 2)) (some ⟨g, 0, none⟩) = some ⟨g, n * 2, none⟩ := by
  simp only [Option.map_some, Addr.add]
  split
  · rename_i h; rw [h]
  · simp
set_option maxRecDepth 100000 in
set_option maxHeartbeats 40000000 in
theorem delF_sx {w0 W : World} {cs : List Chunk} (gm : Nat) (x : S_plLay) (hx : x.f2 = false) (hg : goodT x.f0 = true) {base c : Nat} {A : Option Addr} {l0 : List S_Tile} {F : Nat → Prop} (hn : l0.length ≤ 1000000) (hp : Hp w0 (row k59 59 base (.slice A l0.length c) l0 F :: blk gm #[.string (txt x)] 9 :: cs) W) :
    Calls Tryz.prog 68 #[.slice A l0.length c, .func (.func 66) #[] #[.pointer (some ⟨gm, 0, none⟩)]] W fun e W' => ∃ F', e = .returned (.slice A (gone1 l0 x.f0).length c) ∧ Hp w0 (row k59 59 base (.slice A (gone1 l0 x.f0).length c) (gone1 l0 x.f0) F' :: blk gm #[.string (txt x)] 9 :: cs) W' := by
  have hcap := (row_len (hp.at_ 0 _ (by rfl))).2
  refine sx_enter (N := 42) (l := [.slice A l0.length c, .func (.func 66) #[] #[.pointer (some ⟨gm, 0, none⟩)]]) Tryz.func68 rfl rfl rfl ?_
  refine wp_seq ?_
  refine sx_region ?_
  refine sx_rd 4 (.slice none 0 0) (by rfl) (by kernel_rfl) ?_
  refine sx_nil ?_
  refine ex_then_n ?_
  refine wp_seq ?_
  refine sx_region ?_
  refine sx_rd 8 (.slice A l0.length c) (by rfl) (by kernel_rfl) ?_
  refine sx_rd 9 (.func (.func 66) #[] #[.pointer (some ⟨gm, 0, none⟩)]) (by rfl) (by kernel_rfl) ?_
  refine sx_call 10 (by rfl) (by kernel_rfl) ((idxF_sx gm x hx hg hn (hp.take [0, 1] 2 (by decide) (by simp))).mono ?_)
  rintro _ W_1 ⟨rfl, hp⟩
  refine ⟨_, rfl, ?_⟩
  refine sx_rd 5 (.int .i64 (goneAt l0 x.f0)) (by rfl) (by kernel_rfl) ?_
  refine sx_nil ?_
  refine ex_then_n ?_
  refine wp_seq ?_
  refine wp_seq ?_
  refine sx_region ?_
  refine sx_rd 11 (.int .i64 (goneAt l0 x.f0)) (by rfl) (by kernel_rfl) ?_
  refine sx_rd 12 (.bool ((goneAt l0 x.f0) == (-1))) (by rfl) (by kernel_rfl) ?_
  refine sx_nil ?_
  refine ex_then_n ?_
  refine sx_cond ((goneAt l0 x.f0) == (-1)) (by rfl) (fun c_2 => ?_) (fun c_2 => ?_)
  ·
    have c_2p := eq_of_beq_ c_2
    refine wp_seq ?_
    refine sx_region ?_
    refine sx_rd 13 (.slice A l0.length c) (by rfl) (by kernel_rfl) ?_
    refine sx_rd 4 (.slice A l0.length c) (by rfl) (by kernel_rfl) ?_
    refine sx_nil ?_
    refine ex_then_n ?_
    refine wp_ret ?_
    refine ex_then_r ?_
    refine sx_end (.slice A l0.length c) (res1 4 (by rfl)) ?_
    have hg1 := goneAt_neg c_2p
    exact ⟨_, by rw [hg1], by rw [hg1]; exact hp⟩
  ·
    have c_2p := ne_of_beq_ c_2
    obtain ⟨i0, hi0, hlt, hall, hno⟩ := goneAt_pos c_2p
    rw [hi0]
    obtain ⟨g, rfl⟩ := row_form (hp.at_ 0 _ (by rfl)) (by omega)
    have hst := dl_start hlt hall hno
    refine wp_skip ?_
    refine ex_then_n ?_
    refine wp_seq ?_
    refine wp_seq ?_
    refine sx_region ?_
    refine sx_rd 14 (.int .i64 (i0 : Int)) (by rfl) (by kernel_rfl) ?_
    refine sx_rd 15 (.int .i64 ((i0 : Int) + 1)) (by rfl) (wr_ok (by omega) (by kernel_rfl)) ?_
    refine sx_rd 6 (.int .i64 ((i0 : Int) + 1)) (by rfl) (by kernel_rfl) ?_
    refine sx_nil ?_
    refine ex_then_n ?_
    refine wp_block ?_
    have e0_3 : l0 = (dl x.f0 l0 (i0 + 1)).1 := (by rw [hst])
    have hp : Hp w0 (row k59 59 base (.slice (some ⟨g, 0, none⟩) l0.length c) ((dl x.f0 l0 (i0 + 1)).1) F :: blk gm #[.string (txt x)] 9 :: cs) W_1 := by rw [← e0_3]; exact hp
    refine wp_loop_ghost (fun n a W => ∃ (r : List (Nat × Value)) (i : Nat) (Fi0 : Nat → Prop), n = l0.length - i ∧ a = fr 42 ([(0, .slice (some ⟨g, 0, none⟩) l0.length c), (1, .func (.func 66) #[] #[.pointer (some ⟨gm, 0, none⟩)]), (5, .int .i64 ((dl x.f0 l0 i).2 : Int)), (6, .int .i64 (i : Int))] ++ r) ∧ Hp w0 (row k59 59 base (.slice (some ⟨g, 0, none⟩) l0.length c) ((dl x.f0 l0 i).1) Fi0 :: blk gm #[.string (txt x)] 9 :: cs) W ∧ (i ≤ l0.length)) _ ⟨_, (i0 + 1), _, rfl, fr_front [(0, .slice (some ⟨g, 0, none⟩) l0.length c), (1, .func (.func 66) #[] #[.pointer (some ⟨gm, 0, none⟩)]), (5, .int .i64 ((dl x.f0 l0 (i0 + 1)).2 : Int)), (6, .int .i64 (((i0 + 1) : Nat) : Int))] ⟨rfl, rfl, (by exact congrArg (Value.int .i64) (show (i0 : Int) = ((dl x.f0 l0 (i0 + 1)).2 : Int) from (by rw [hst]))), rfl, trivial⟩, (hp.take [0, 1] 2 (by decide) (by simp)), (by omega)⟩ ?_
    rintro _ _ W_4 ⟨r, i, Fi0, rfl, rfl, hp, hi⟩
    have hinv := dl_inv x.f0 l0 i (by omega)
    obtain ⟨hl1, hl2, -, -, -⟩ := hinv
    refine wp_seq ?_
    refine wp_seq ?_
    refine sx_region ?_
    refine sx_rd 16 (.int .i64 (i : Int)) (by rfl) (by kernel_rfl) ?_
    refine sx_rd 17 (.slice (some ⟨g, 0, none⟩) l0.length c) (by rfl) (by kernel_rfl) ?_
    refine sx_rd 18 (.int .i64 (l0.length : Int)) (by rfl) (by kernel_rfl) ?_
    refine sx_rd 19 (.bool (decide ((i : Int) < (l0.length : Int)))) (by rfl) (by kernel_rfl) ?_
    refine sx_nil ?_
    refine ex_then_n ?_
    refine sx_cond (decide ((i : Int) < (l0.length : Int))) (by rfl) (fun c_5 => ?_) (fun c_5 => ?_)
    ·
      have c_5p := of_decide_eq_true c_5
      refine wp_skip ?_
      refine ex_then_n ?_
      refine wp_seq ?_
      refine wp_block ?_
      refine wp_seq ?_
      refine sx_region ?_
      refine sx_rd 22 (.slice (some ⟨g, 0, none⟩) l0.length c) (by rfl) (by kernel_rfl) ?_
      refine sx_rd 23 (.int .i64 (i : Int)) (by rfl) (by kernel_rfl) ?_
      refine sx_rd 24 (.pointer (some (adr (some ⟨g, 0, none⟩) (i : Int) 2))) (by rfl) (ix_run (d := k59) (row_Cn (hp.at_ 0 _ (by rfl))) (t := 27) (by rfl) (by rfl) (by rfl) Tryz.underlying27 (by kernel_rfl) (by omega) (by omega)) ?_
      refine sx_rd 25 (.agg #[.int .i64 ((rd_Tile ((dl x.f0 l0 i).1) (i : Int)).f0), .int .i64 ((rd_Tile ((dl x.f0 l0 i).1) (i : Int)).f1)]) (by rfl) (el_run (d := k59) (row_C (hp.at_ 0 _ (by rfl))) z59 (i : Int) (by omega) (by omega) (cells := [.int .i64 ((rd_Tile ((dl x.f0 l0 i).1) (i : Int)).f0), .int .i64 ((rd_Tile ((dl x.f0 l0 i).1) (i : Int)).f1)]) (fun cs h => k59_open h) 0 [.int .i64 ((rd_Tile ((dl x.f0 l0 i).1) (i : Int)).f0), .int .i64 ((rd_Tile ((dl x.f0 l0 i).1) (i : Int)).f1)] (by rfl) (t := 59) (p := (.tmp 24)) (by rfl) (by rfl) (by kernel_rfl) (by kernel_rfl)) ?_
      refine sx_box 7 hp #[.int .i64 0, .int .i64 0] 59 (by rfl) (fun W => by kernel_rfl) ?_
      intro g_6 W_7 hp
      refine sx_store (t := 59) (p := (.tmp 7)) (x := (.tmp 25)) (by rfl) (by rfl) 0 (by rfl) 0 [.int .i64 ((rd_Tile ((dl x.f0 l0 i).1) (i : Int)).f0), .int .i64 ((rd_Tile ((dl x.f0 l0 i).1) (i : Int)).f1)] (by rfl) (by rfl) (by kernel_rfl) (by simp [Value.oneCell']) (by show 2 ≤ 2; omega) #[.int .i64 ((rd_Tile ((dl x.f0 l0 i).1) (i : Int)).f0), .int .i64 ((rd_Tile ((dl x.f0 l0 i).1) (i : Int)).f1)] (by rfl) hp ?_
      intro W_8 hp; simp only [List.set_cons_succ, List.set_cons_zero] at hp
      refine sx_nil ?_
      refine ex_then_n ?_
      refine wp_seq ?_
      refine sx_region ?_
      refine sx_rd 26 (.func (.func 66) #[] #[.pointer (some ⟨gm, 0, none⟩)]) (by rfl) (by kernel_rfl) ?_
      refine sx_rd 27 (.agg #[.int .i64 ((rd_Tile ((dl x.f0 l0 i).1) (i : Int)).f0), .int .i64 ((rd_Tile ((dl x.f0 l0 i).1) (i : Int)).f1)]) (by rfl) (ldn (t := 59) (p := (.tmp 7)) (by rfl) (by rfl) (by kernel_rfl) (by kernel_rfl) (by kernel_rfl) (hp.at_ 0 _ (by rfl))) ?_
      refine sx_call 28 (by rfl) (by kernel_rfl) ((gone_sx gm x hx hg (rd_Tile ((dl x.f0 l0 i).1) (i : Int)) (hp.take [2, 0, 1] 3 (by decide) (by simp))).mono ?_)
      rintro _ W_9 ⟨rfl, hp⟩
      refine ⟨_, rfl, ?_⟩
      replace hp : Hp w0 (blk g_6 #[.int .i64 ((rd_Tile ((dl x.f0 l0 i).1) (i : Int)).f0), .int .i64 ((rd_Tile ((dl x.f0 l0 i).1) (i : Int)).f1)] 59 :: row k59 59 base (.slice (some ⟨g, 0, none⟩) l0.length c) ((dl x.f0 l0 i).1) Fi0 :: blk gm #[.string (txt x)] 9 :: cs) _ := (hp.take [1, 2, 0] 3 (by decide) (by simp))
      refine sx_rd 29 (.bool (!(!outT x.f0 (rd_Tile ((dl x.f0 l0 i).1) (i : Int))))) (by rfl) (by kernel_rfl) ?_
      refine sx_nil ?_
      refine ex_then_n ?_
      refine sx_cond (!(!outT x.f0 (rd_Tile ((dl x.f0 l0 i).1) (i : Int)))) (by rfl) (fun c_10 => ?_) (fun c_10 => ?_)
      ·
        refine wp_seq ?_
        refine sx_region ?_
        refine sx_rd 30 (.slice (some ⟨g, 0, none⟩) l0.length c) (by rfl) (by kernel_rfl) ?_
        refine sx_rd 31 (.int .i64 ((dl x.f0 l0 i).2 : Int)) (by rfl) (by kernel_rfl) ?_
        refine sx_rd 32 (.agg #[.int .i64 ((rd_Tile ((dl x.f0 l0 i).1) (i : Int)).f0), .int .i64 ((rd_Tile ((dl x.f0 l0 i).1) (i : Int)).f1)]) (by rfl) (ldn (t := 59) (p := (.tmp 7)) (by rfl) (by rfl) (by kernel_rfl) (by kernel_rfl) (by kernel_rfl) (hp.at_ 0 _ (by rfl))) ?_
        refine sx_rd 33 (.pointer (some (adr (some ⟨g, 0, none⟩) ((dl x.f0 l0 i).2 : Int) 2))) (by rfl) (ix_run (d := k59) (row_Cn (hp.at_ 1 _ (by rfl))) (t := 27) (by rfl) (by rfl) (by rfl) Tryz.underlying27 (by kernel_rfl) (by omega) (by omega)) ?_
        refine sx_rowstore (t := 59) (p := (.tmp 33)) (x := (.tmp 32)) (by rfl) (by rfl) 1 k59 (by rfl) ((dl x.f0 l0 i).2 : Int) (rd_Tile ((dl x.f0 l0 i).1) (i : Int)) [.int .i64 ((rd_Tile ((dl x.f0 l0 i).1) (i : Int)).f0), .int .i64 ((rd_Tile ((dl x.f0 l0 i).1) (i : Int)).f1)] (by rfl) (by rfl) (by kernel_rfl) (by simp [Value.oneCell']) (by rfl) (by omega) (by omega) z59 (fun _ => (k59_mkM _ _ _ _)) hp ?_
        intro F_11 W_12 hp; simp only [List.set_cons_succ, List.set_cons_zero] at hp
        refine sx_nil ?_
        refine ex_then_n ?_
        refine sx_region ?_
        refine sx_rd 34 (.int .i64 ((dl x.f0 l0 i).2 : Int)) (by rfl) (by kernel_rfl) ?_
        refine sx_rd 35 (.int .i64 (((dl x.f0 l0 i).2 : Int) + 1)) (by rfl) (wr_ok (by omega) (by kernel_rfl)) ?_
        refine sx_rd 5 (.int .i64 (((dl x.f0 l0 i).2 : Int) + 1)) (by rfl) (by kernel_rfl) ?_
        refine sx_nil ?_
        refine ex_blk_n ?_
        refine ex_then_n ?_
        refine sx_region ?_
        refine sx_rd 20 (.int .i64 (i : Int)) (by rfl) (by kernel_rfl) ?_
        refine sx_rd 21 (.int .i64 ((i : Int) + 1)) (by rfl) (wr_ok (by omega) (by kernel_rfl)) ?_
        refine sx_rd 6 (.int .i64 ((i : Int) + 1)) (by rfl) (by kernel_rfl) ?_
        refine sx_nil ?_
        refine ex_then_n ?_
        have hq_13 : (((dl x.f0 l0 i).2 : Int) + 1) = ((dl x.f0 l0 (i + 1)).2 : Int) := by simp only [dl]; rw [if_pos (by have q := (not_eq c_10); simpa using q)] <;> simp
        have hq_14 : ((dl x.f0 l0 i).1.set (((dl x.f0 l0 i).2 : Int)).toNat (rd_Tile ((dl x.f0 l0 i).1) (i : Int))) = (dl x.f0 l0 (i + 1)).1 := by simp only [dl]; rw [if_pos (by have q := (not_eq c_10); simpa using q)] <;> simp
        rw [hq_14] at hp
        exact ⟨_, (by omega), _, (i + 1), _, rfl, fr_front [(0, .slice (some ⟨g, 0, none⟩) l0.length c), (1, .func (.func 66) #[] #[.pointer (some ⟨gm, 0, none⟩)]), (5, .int .i64 ((dl x.f0 l0 (i + 1)).2 : Int)), (6, .int .i64 ((i + 1 : Nat) : Int))] ⟨rfl, rfl, congrArg (Value.int .i64) hq_13, rfl, trivial⟩, (hp.take [1, 2] 3 (by decide) (by simp)), (by omega)⟩
      ·
        refine wp_skip ?_
        refine ex_blk_n ?_
        refine ex_then_n ?_
        refine sx_region ?_
        refine sx_rd 20 (.int .i64 (i : Int)) (by rfl) (by kernel_rfl) ?_
        refine sx_rd 21 (.int .i64 ((i : Int) + 1)) (by rfl) (wr_ok (by omega) (by kernel_rfl)) ?_
        refine sx_rd 6 (.int .i64 ((i : Int) + 1)) (by rfl) (by kernel_rfl) ?_
        refine sx_nil ?_
        refine ex_then_n ?_
        have hq_15 : ((dl x.f0 l0 i).2 : Int) = ((dl x.f0 l0 (i + 1)).2 : Int) := by simp only [dl]; rw [if_neg (by have q := (not_eq c_10); simp at q; rw [q]; simp)]
        have hq_16 : (dl x.f0 l0 i).1 = (dl x.f0 l0 (i + 1)).1 := by simp only [dl]; rw [if_neg (by have q := (not_eq c_10); simp at q; rw [q]; simp)]
        rw [hq_16] at hp
        exact ⟨_, (by omega), _, (i + 1), _, rfl, fr_front [(0, .slice (some ⟨g, 0, none⟩) l0.length c), (1, .func (.func 66) #[] #[.pointer (some ⟨gm, 0, none⟩)]), (5, .int .i64 ((dl x.f0 l0 (i + 1)).2 : Int)), (6, .int .i64 ((i + 1 : Nat) : Int))] ⟨rfl, rfl, congrArg (Value.int .i64) hq_15, rfl, trivial⟩, (hp.take [1, 2] 3 (by decide) (by simp)), (by omega)⟩
    ·
      have c_5p := of_decide_eq_false c_5
      refine wp_exit ?_
      refine ex_then_e (ex_then_e (ex_blk_here ?_))
      refine ex_then_n ?_
      refine wp_seq ?_
      refine sx_region ?_
      refine sx_rd 36 (.slice (some ⟨g, 0, none⟩) l0.length c) (by rfl) (by kernel_rfl) ?_
      refine sx_rd 37 (.int .i64 ((dl x.f0 l0 i).2 : Int)) (by rfl) (by kernel_rfl) ?_
      refine sx_rd 38 (.slice (if c = (dl x.f0 l0 i).2 then some ⟨g, 0, none⟩ else Option.map (fun y : Addr => y.add ((dl x.f0 l0 i).2 * 2)) (some ⟨g, 0, none⟩)) ((l0.drop (dl x.f0 l0 i).2).length) (c - (dl x.f0 l0 i).2)) (by rfl) (sl_lo (dl x.f0 l0 i).2 (sz := 2) (xs := l0) (by rfl) (by rfl) (by rfl) rfl Tryz.underlying27 (by kernel_rfl) (by omega)) ?_
      have hdl : (l0.drop (dl x.f0 l0 i).2).length = l0.length - (dl x.f0 l0 i).2 := List.length_drop
      have hp := hp.cut 0 (by rfl) (dl x.f0 l0 i).2 (by omega)
      simp only [List.set_cons_zero] at hp
      refine sx_clear0 (by rfl) hp 0 k59 (by rfl) (by rfl) (by rfl) (fun _ => by rw [if_neg (by omega)]; exact add_at2 _ _) (by omega) Tryz.underlying27 (.agg #[.int .i64 0, .int .i64 0]) (by kernel_rfl) (by rfl) (by first | decide | simp [Value.cells, Value.oneCell'] | kernel_rfl) ?_
      intro W_17 hp
      refine sx_nil ?_
      refine ex_then_n ?_
      refine wp_seq ?_
      refine sx_region ?_
      refine sx_rd 39 (.slice (some ⟨g, 0, none⟩) l0.length c) (by rfl) (by kernel_rfl) ?_
      refine sx_rd 40 (.int .i64 ((dl x.f0 l0 i).2 : Int)) (by rfl) (by kernel_rfl) ?_
      refine sx_rd 41 (.slice (some ⟨g, 0, none⟩) ((l0.take (dl x.f0 l0 i).2).length) c) (by rfl) (sl_hi (dl x.f0 l0 i).2 (sz := 2) (xs := l0) (by rfl) (by rfl) (by rfl) rfl Tryz.underlying27 (by kernel_rfl) (by omega) hcap) ?_
      refine sx_rd 4 (.slice (some ⟨g, 0, none⟩) ((l0.take (dl x.f0 l0 i).2).length) c) (by rfl) (by kernel_rfl) ?_
      refine sx_nil ?_
      refine ex_then_n ?_
      refine wp_ret ?_
      refine sx_end (.slice (some ⟨g, 0, none⟩) ((l0.take (dl x.f0 l0 i).2).length) c) (res1 4 (by rfl)) ?_
      obtain rfl : i = l0.length := by omega
      obtain ⟨e1, e2⟩ := dl_end x.f0 l0
      rw [e1, e2] at hp
      exact ⟨_, by rw [List.length_take, e2, Nat.min_eq_left (gone1_len l0 x.f0)], hp⟩
end Go.Proofs.YtkjaahmlnbgnjaaGreat.Hd
