/- impl.HandsOfTable's closures, by hand. -/
import Derived.Test.YtokkiiepddhkiaaGreatDoorMLayW
import Derived.Test.YtokkiiepddhkiaaGreatDoorPHtA
import Derived.Test.YtokkiiepddhkiaaGreatDoorMTileR
import Derived.Test.YtokkiiepddhkiaaGreatDoorMSx4
import Derived.Test.YtokkiiepddhkiaaGreatDoorG2
import Derived.StringKeys
import Derived.Test.YtokkiiepddhkiaaGreatDoorMSorted
namespace Go.Proofs.YtokkiiepddhkiaaGreatDoor.Hd
open Go.RowKit Go.Proofs.YtokkiiepddhkiaaGreatDoorW.PrintWords Go.Proofs.YtokkiiepddhkiaaGreatDoorW.PrintLast Go.Proofs.YtokkiiepddhkiaaGreatDoorW.PrintMore
set_option linter.unusedVariables false
set_option linter.unusedSimpArgs false
theorem clone_eq (l : List S_Tile) (h : l.length ≤ 8388608) : slices_Clone_impl_Tile_impl_Tile.f l = some l := by unfold slices_Clone_impl_Tile_impl_Tile.f; simp; omega
set_option maxRecDepth 100000 in
set_option maxHeartbeats 40000000 in
theorem impl_sorted.calls (A0 : Option Addr) (c0 : Nat) (l0 r : List S_Tile) (w : World) (hr0 : Kd.C k55 w A0 l0.length l0) (hc0 : l0.length ≤ c0) (h : impl_sorted.f l0 = some r) :
    Calls Tryz.prog 59 #[.slice A0 l0.length c0] w fun e w' => ∃ v0_ : Value, e = .returned (v0_) ∧ Kd.R k55 55 w' w.heap.size (fun _ => True) v0_ r ∧ Below w.heap.size w w' := by
  unfold impl_sorted.f at h
  by_cases hg : l0.all t10 = true ∧ l0.length ≤ 8388608
  case neg => rw [if_neg hg] at h; cases h
  rw [if_pos hg] at h
  obtain rfl := Option.some.inj h
  obtain ⟨hall0, hlen⟩ := hg
  have hall : ∀ t ∈ l0, t10 t = true := fun t ht => List.all_eq_true.1 hall0 t ht
  obtain ⟨cs, hcs⟩ : ∃ cs, cs = [old w w.heap.size] := ⟨_, rfl⟩
  have hp : Hp w cs w := by rw [hcs]; exact Hp.old_start w
  have hc2 : ∀ W, Hp w cs W → Below w.heap.size w W := fun W h => by rw [hcs] at h; exact h.since 0 _ rfl
  have hC : ∀ W, Hp w cs W → Kd.C k55 W A0 l0.length l0 := fun W h => Kd.C_below hr0 (hc2 W h)
  clear hcs
  refine sx_enter (N := 9) (l := [.slice A0 l0.length c0]) Tryz.func59 rfl rfl rfl ?_
  refine wp_seq ?_
  refine sx_region ?_
  refine sx_rd 2 (.slice none 0 0) (by rfl) (by kernel_rfl) ?_
  refine sx_nil ?_
  refine ex_then_n ?_
  refine wp_seq ?_
  refine sx_region ?_
  refine sx_rd 4 (.slice A0 l0.length c0) (by rfl) (by kernel_rfl) ?_
  refine sx_call 5 (by rfl) (by kernel_rfl) ((slices_Clone_impl_Tile_impl_Tile.calls A0 c0 l0 l0 _ (hC _ hp) hc0 (clone_eq l0 hlen)).mono ?_)
  rintro _ W_1 ⟨v0, rfl, hR, hb⟩
  refine ⟨_, rfl, ?_⟩
  obtain ⟨AC, cC, rfl, hcc, _⟩ := Kd.R_reads hR
  obtain ⟨FC, hp⟩ : ∃ F, Hp w (row k55 55 w.heap.size (.slice AC l0.length cC) l0 F :: cs) _ := ⟨_, Hp.made hp hb hR⟩
  refine sx_rd 3 (.slice AC l0.length cC) (by rfl) (by kernel_rfl) ?_
  refine sx_nil ?_
  refine ex_then_n ?_
  refine wp_seq ?_
  refine sx_region ?_
  refine sx_rd 6 (.slice AC l0.length cC) (by rfl) (by kernel_rfl) ?_
  refine sx_call 7 (by rfl) (by kernel_rfl) ((sort_R (row_R (hp.at_ 0 _ (by rfl))) hall hlen).mono ?_)
  rintro _ W_2 ⟨rfl, hR2, hm⟩
  refine ⟨_, rfl, ?_⟩
  obtain ⟨FD, hp⟩ := Hp.sort hp hm hR2
  refine sx_nil ?_
  refine ex_then_n ?_
  refine wp_seq ?_
  refine sx_region ?_
  refine sx_rd 8 (.slice AC l0.length cC) (by rfl) (by kernel_rfl) ?_
  refine sx_rd 2 (.slice AC l0.length cC) (by rfl) (by kernel_rfl) ?_
  refine sx_nil ?_
  refine ex_then_n ?_
  refine wp_ret ?_
  refine sx_end (.slice AC l0.length cC) (res1 2 (by rfl)) ?_
  exact ⟨_, rfl, Kd.R_mono (row_R (hp.at_ 0 _ (by rfl))) (fun _ _ => trivial), hc2 _ hp.tail⟩
end Go.Proofs.YtokkiiepddhkiaaGreatDoor.Hd
namespace Go.Proofs.YtokkiiepddhkiaaGreatDoor.Hd
open Go Go.RowKit Go.Proofs.YtokkiiepddhkiaaGreatDoor.Pure Go.Proofs.YtokkiiepddhkiaaGreatDoorW.PrintWords Go.Proofs.YtokkiiepddhkiaaGreatDoorW.PrintLast Go.Proofs.YtokkiiepddhkiaaGreatDoorW.PrintMore
set_option linter.unusedVariables false
set_option linter.unusedSimpArgs false
theorem tx_key : Maps.Keyed Tryz.prog 9 := Maps.string_keyed Tryz.underlying9
theorem tx_some {x : ByteArray} (h : x.size ≤ 1000) : (keyOf Tryz.prog 9 (.string x)).isSome = true := by
 rw [WideMaps.keyOf_string_mk Tryz.underlying9 (by simp only [maxLen]; omega)]
 rfl
set_option maxRecDepth 100000 in
set_option maxHeartbeats 40000000 in
theorem httake_sx {w0 W : World} {cs : List Chunk} (s : ByteArray) (ht : isTab s = true) (gc gu bm nn : Nat) (m : S_Tile → Bool) (i j : Nat) (hi : i < (cells s).length) (hj : j < (cells s).length) (hnn : nn < 1099511627776) (hp : Hp w0 (tileG Tryz.prog 55 bm nn goodT m :: blk gc #[.string (flatB s)] 9 :: blk gu #[.map (some bm)] 81 :: cs) W) :
  Calls Tryz.prog 53 #[.int .i64 (i : Int), .int .i64 (j : Int), .pointer (some ⟨gc, 0, none⟩), .pointer (some ⟨gu, 0, none⟩)] W fun e W' => e = .returned (.bool (m (tilT s i j) == false)) ∧ Hp w0 (tileG Tryz.prog 55 bm (nn + 1) goodT (upd m (tilT s i j) true) :: blk gc #[.string (flatB s)] 9 :: blk gu #[.map (some bm)] 81 :: cs) W' := by
 refine sx_enter (N := 20) (l := [.int .i64 (i : Int), .int .i64 (j : Int), .pointer (some ⟨gc, 0, none⟩), .pointer (some ⟨gu, 0, none⟩)]) Tryz.func53 rfl rfl rfl ?_
 refine wp_seq ?_
 refine sx_region ?_
 refine sx_rd 6 (.bool false) (by rfl) (by kernel_rfl) ?_
 refine sx_nil ?_
 refine ex_then_n ?_
 refine wp_seq ?_
 refine sx_region ?_
 refine sx_rd 9 (.string (flatB s)) (by rfl) (ld1 (t := 9) (p := (.tmp 2)) (by rfl) (by rfl) (by kernel_rfl) (hp.cell 1 (by rfl) 0 _ (by rfl))) ?_
 refine sx_rd 10 (.int .i64 (i : Int)) (by rfl) (by kernel_rfl) ?_
 refine sx_rd 11 (.int .i64 (j : Int)) (by rfl) (by kernel_rfl) ?_
 refine sx_call 12 (by rfl) (by kernel_rfl) ((impl_at.calls (flatB s) (i : Int) (j : Int) _ _ _ (at_eq ht (i : Int) (j : Int) ⟨by omega, by omega⟩ ⟨by omega, by omega⟩)).mono ?_)
 rintro _ W_1 ⟨rfl, hb⟩
 refine ⟨_, rfl, ?_⟩
 replace hp := hp.below hb
 clear hb
 refine sx_box 7 hp #[.int .i64 0, .int .i64 0] 55 (by rfl) (fun W => by kernel_rfl) ?_
 intro g_2 W_3 hp
 refine sx_store (t := 55) (p := (.tmp 7)) (x := (.tmp 12)) (by rfl) (by rfl) 0 (by rfl) 0 [.int .i64 ((tilT s i j).f0), .int .i64 ((tilT s i j).f1)] (by rfl) (by rfl) (by kernel_rfl) (by simp [Value.oneCell']) (by show 2 ≤ 2; omega) #[.int .i64 ((tilT s i j).f0), .int .i64 ((tilT s i j).f1)] (by rfl) hp ?_
 intro W_4 hp; simp only [List.set_cons_succ, List.set_cons_zero] at hp
 refine sx_nil ?_
 refine ex_then_n ?_
 refine wp_seq ?_
 refine sx_region ?_
 refine sx_rd 13 (.map (some bm)) (by rfl) (ld1 (t := 81) (p := (.tmp 3)) (by rfl) (by rfl) (by kernel_rfl) (hp.cell 3 (by rfl) 0 _ (by rfl))) ?_
 refine sx_rd 14 (.agg #[.int .i64 ((tilT s i j).f0), .int .i64 ((tilT s i j).f1)]) (by rfl) (ldn (t := 55) (p := (.tmp 7)) (by rfl) (by rfl) (by kernel_rfl) (by kernel_rfl) (by kernel_rfl) (hp.at_ 0 _ (by rfl))) ?_
 refine sx_rd 15 (.bool (m (tilT s i j))) (by rfl) (tg_look tl_key (by rfl) (by rfl) (x := (tilT s i j)) (by rfl) Tryz.underlying81 (fun w => by kernel_rfl) (tl_some (tilT_good ht hi hj)) (hp.at_ 1 _ (by rfl))) ?_
 refine sx_rd 16 (.bool (!(m (tilT s i j)))) (by rfl) (by kernel_rfl) ?_
 refine sx_rd 8 (.bool (!(m (tilT s i j)))) (by rfl) (by kernel_rfl) ?_
 refine sx_nil ?_
 refine ex_then_n ?_
 refine wp_seq ?_
 refine sx_region ?_
 refine sx_rd 17 (.map (some bm)) (by rfl) (ld1 (t := 81) (p := (.tmp 3)) (by rfl) (by rfl) (by kernel_rfl) (hp.cell 3 (by rfl) 0 _ (by rfl))) ?_
 refine sx_rd 18 (.agg #[.int .i64 ((tilT s i j).f0), .int .i64 ((tilT s i j).f1)]) (by rfl) (ldn (t := 55) (p := (.tmp 7)) (by rfl) (by rfl) (by kernel_rfl) (by kernel_rfl) (by kernel_rfl) (hp.at_ 0 _ (by rfl))) ?_
 refine sx_tgput (n := nn) tl_key (by rfl) (by rfl) (by rfl) (x := (tilT s i j)) (v := true) (by rfl) (by rfl) Tryz.underlying81 (by simp only [maxLen]; omega) (tl_some (tilT_good ht hi hj)) (tilT_gt ht hi hj) 1 (by rfl) hp ?_
 intro W_5 hp; simp only [List.set_cons_succ, List.set_cons_zero] at hp
 refine sx_nil ?_
 refine ex_then_n ?_
 refine wp_seq ?_
 refine sx_region ?_
 refine sx_rd 19 (.bool (!(m (tilT s i j)))) (by rfl) (by kernel_rfl) ?_
 refine sx_rd 6 (.bool (!(m (tilT s i j)))) (by rfl) (by kernel_rfl) ?_
 refine sx_nil ?_
 refine ex_then_n ?_
 refine wp_ret ?_
 refine sx_end (.bool (!(m (tilT s i j)))) (res1 6 (by rfl)) ?_
 exact ⟨congrArg (fun z => Ending.returned (.bool z)) (show (!(m (tilT s i j))) = (m (tilT s i j) == false) by cases m (tilT s i j) <;> rfl), (hp.take [1, 2, 3] 4 (by decide) (by simp))⟩
set_option maxRecDepth 100000 in
set_option maxHeartbeats 40000000 in
theorem htback_sx {w0 W : World} {cs : List Chunk} (s : ByteArray) (ht : isTab s = true) (gc gu bm nn : Nat) (m : S_Tile → Bool) (i j : Nat) (hi : i < (cells s).length) (hj : j < (cells s).length) (hnn : nn < 1099511627776) (hp : Hp w0 (tileG Tryz.prog 55 bm nn goodT m :: blk gc #[.string (flatB s)] 9 :: blk gu #[.map (some bm)] 81 :: cs) W) :
  Calls Tryz.prog 56 #[.int .i64 (i : Int), .int .i64 (j : Int), .pointer (some ⟨gu, 0, none⟩), .pointer (some ⟨gc, 0, none⟩)] W fun e W' => e = .returned (.tuple #[]) ∧ Hp w0 (tileG Tryz.prog 55 bm (nn + 1) goodT (upd m (tilT s i j) false) :: blk gc #[.string (flatB s)] 9 :: blk gu #[.map (some bm)] 81 :: cs) W' := by
 refine sx_enter (N := 11) (l := [.int .i64 (i : Int), .int .i64 (j : Int), .pointer (some ⟨gu, 0, none⟩), .pointer (some ⟨gc, 0, none⟩)]) Tryz.func56 rfl rfl rfl ?_
 refine sx_drawT [2, 3] (.rd 0 (.rd 1 (.alt 4 (.fin) .non))) 5 (C := Hp w0 (tileG Tryz.prog 55 bm nn goodT m :: blk gc #[.string (flatB s)] 9 :: blk gu #[.map (some bm)] 81 :: cs)) (by kernel_rfl) (by kernel_rfl) (fun d _ _ _ _ h => by cases d <;> exact h) (fun W h => h.drew) hp ?_
 refine preI_read rfl ?_
 refine sxq_val 8 (.int .i64 (i : Int)) (by rfl) (fun W _ => (by kernel_rfl)) ?_
 refine sxq_nil ?_
 refine preI_read rfl ?_
 refine sxq_val 9 (.int .i64 (j : Int)) (by rfl) (fun W _ => (by kernel_rfl)) ?_
 refine sxq_nil ?_
 refine preI_nil ?_
 intro W_1 hp
 refine treeI_rd rfl ?_
 refine sxq_val 6 (.map (some bm)) (by rfl) (fun W hp => (ld1 (t := 81) (p := (.tmp 2)) (by rfl) (by rfl) (by kernel_rfl) (hp.cell 2 (by rfl) 0 _ (by rfl)))) ?_
 refine sxq_nil ?_
 refine treeI_rd rfl ?_
 refine sxq_val 7 (.string (flatB s)) (by rfl) (fun W hp => (ld1 (t := 9) (p := (.tmp 3)) (by rfl) (by rfl) (by kernel_rfl) (hp.cell 1 (by rfl) 0 _ (by rfl)))) ?_
 refine sxq_nil ?_
 refine treeI_ev rfl ?_
 refine sx_call 10 (by rfl) (by kernel_rfl) ((impl_at.calls (flatB s) (i : Int) (j : Int) _ _ _ (at_eq ht (i : Int) (j : Int) ⟨by omega, by omega⟩ ⟨by omega, by omega⟩)).mono ?_)
 rintro _ W_2 ⟨rfl, hb⟩
 refine ⟨_, rfl, ?_⟩
 replace hp := hp.below hb
 clear hb
 refine step_fin hp ?_
 refine treeI_fin ?_
 refine tail_of [5] (by rfl) ?_
 refine tailI_op rfl ?_
 refine sx_tgput (n := nn) tl_key (by rfl) (by rfl) (by rfl) (x := (tilT s i j)) (v := false) (by rfl) (by rfl) Tryz.underlying81 (by simp only [maxLen]; omega) (tl_some (tilT_good ht hi hj)) (tilT_gt ht hi hj) 0 (by rfl) hp ?_
 intro W_3 hp; simp only [List.set_cons_succ, List.set_cons_zero] at hp
 refine tailI_next ?_
 refine tailI_nil ?_
 refine sx_end_n (.tuple #[]) (res0 (by rfl)) ?_
 exact ⟨rfl, (hp.take [0, 1, 2] 3 (by decide) (by simp))⟩
set_option maxRecDepth 100000 in
set_option maxHeartbeats 40000000 in
theorem hteach_sx {w0 W : World} {cs : List Chunk} (gu gs bm tm nn nt gL n cL : Nat) (m : S_Tile → Bool) (L : List ByteArray) (b : List Int) (FL : Nat → Prop) (hnn : nn < 1099511627776) (hnt : nt < 1099511627776) (hp : Hp w0 (tileG Tryz.prog 55 bm nn goodT m :: blk gu #[.map (some bm)] 81 :: blk gs #[.map (some tm)] 82 :: txtM Tryz.prog 9 tm nt L :: row (Kd.int .u8) 5 w0.heap.size (.slice (some ⟨gL, 0, none⟩) n cL) b FL :: cs) W) :
  Calls Tryz.prog 57 #[.slice (some ⟨gL, 0, none⟩) n cL, .pointer (some ⟨gu, 0, none⟩), .pointer (some ⟨gs, 0, none⟩)] W fun e W' => e = .returned (.bool true) ∧ Hp w0 (tileG Tryz.prog 55 bm nn goodT m :: blk gu #[.map (some bm)] 81 :: blk gs #[.map (some tm)] 82 :: txtM Tryz.prog 9 tm (nt + 1) (addTx L (mtx m)) :: row (Kd.int .u8) 5 w0.heap.size (.slice (some ⟨gL, 0, none⟩) n cL) b FL :: cs) W' := by
 refine sx_enter (N := 25) (l := [.slice (some ⟨gL, 0, none⟩) n cL, .pointer (some ⟨gu, 0, none⟩), .pointer (some ⟨gs, 0, none⟩)]) Tryz.func57 rfl rfl rfl ?_
 refine wp_seq ?_
 refine sx_region ?_
 refine sx_rd 4 (.bool false) (by rfl) (by kernel_rfl) ?_
 refine sx_nil ?_
 refine ex_then_n ?_
 refine wp_seq ?_
 refine sx_region ?_
 refine sx_lit 8 (by rfl) k55 w0.heap.size 55 ([] : List S_Tile) [] (fun W => by kernel_rfl) (Reps.none _ _) (by simp) hp.size hp ?_
 intro g_1 F_2 W_3 hp hz; clear hz
 refine sx_rd 5 (.slice (some ⟨g_1, 0, none⟩) (([] : List S_Tile).length) (([] : List S_Tile).length)) (by rfl) (by kernel_rfl) ?_
 refine sx_nil ?_
 refine ex_then_n ?_
 refine wp_seq ?_
 refine wp_seq ?_
 refine sx_region ?_
 refine sx_rd 9 (.map (some bm)) (by rfl) (ld1 (t := 81) (p := (.tmp 1)) (by rfl) (by rfl) (by kernel_rfl) (hp.cell 2 (by rfl) 0 _ (by rfl))) ?_
 refine sx_range tl_key 10 (by rfl) (by rfl) (by rfl) Tryz.underlying81 (hp.take [1, 0, 2, 3, 4, 5] 6 (by decide) (by simp)) ?_
 intro r cnt W_4 hcn0 hp
 refine sx_nil ?_
 refine ex_then_n ?_
 refine wp_block ?_
 refine wp_loop_ghost (fun n_ a_ W => ∃ (r_ : List (Nat × Value)) (hd : List S_Tile) (cnt : Nat) (Ah : Option Addr) (nh ch : Nat) (Fh : Nat → Prop), n_ = cnt ∧ a_ = fr 25 ([(2, .pointer (some ⟨gs, 0, none⟩)), (5, .slice Ah nh ch), (10, .pointer (some ⟨r, 0, none⟩))] ++ r_) ∧ Hp w0 (row k55 55 w0.heap.size (.slice Ah nh ch) hd Fh :: rngG Tryz.prog 55 bm r nn goodT m hd cnt :: blk gu #[.map (some bm)] 81 :: blk gs #[.map (some tm)] 82 :: txtM Tryz.prog 9 tm nt L :: row (Kd.int .u8) 5 w0.heap.size (.slice (some ⟨gL, 0, none⟩) n cL) b FL :: cs) W ∧ (hd.length + cnt ≤ 1099511627776)) _ ⟨_, _, _, _, _, _, _, rfl, fr_front [(2, .pointer (some ⟨gs, 0, none⟩)), (5, .slice (some ⟨g_1, 0, none⟩) (([] : List S_Tile).length) (([] : List S_Tile).length)), (10, .pointer (some ⟨r, 0, none⟩))] ⟨rfl, rfl, rfl, trivial⟩, (hp.take [1, 0, 2, 3, 4, 5] 6 (by decide) (by simp)), (by simp; omega)⟩ ?_
 rintro _ _ W_5 ⟨r_, hd, cnt, Ah, nh, ch, Fh, rfl, rfl, hp, hcn⟩
 obtain ⟨rfl, hcch⟩ := row_len (hp.at_ 0 _ (by rfl))
 refine wp_seq ?_
 refine sx_region ?_
 refine sx_next tl_key 11 (by rfl) (by rfl) (by rfl) (fun x h => tl_some (good_bdU h)) 1 (by rfl) hp (fun hz hnd hmem => ?_) (fun x cnt2 W_6 hGx hlt hnx hp hen => ?_)
 ·
  refine sx_rd 12 (.bool false) (by rfl) (by kernel_rfl) ?_
  refine sx_nil ?_
  have hgl : ∀ t ∈ hd, goodT t = true := fun t h => ((hmem t).1 h).1
  have hall : hd.all goodT = true := List.all_eq_true.2 hgl
  have hl100 := hand_len hnd hgl
  have hsm := sort_handM hmem
  have hp := Hp.unrange (hp.take [1, 0, 2, 3, 4, 5] 6 (by decide) (by simp))
  refine ex_then_n ?_
  refine wp_seq ?_
  refine sx_else false (by rfl) rfl ?_
  refine wp_exit ?_
  refine ex_then_e (ex_then_e (ex_blk_here ?_))
  refine ex_then_n ?_
  refine wp_seq ?_
  refine sx_drawT [1] (.rd 0 (.alt 2 (.alt 3 (.fin) .non) .non)) 4 (C := Hp w0 (tileG Tryz.prog 55 bm nn goodT m :: row k55 55 w0.heap.size (.slice Ah hd.length ch) hd Fh :: blk gu #[.map (some bm)] 81 :: blk gs #[.map (some tm)] 82 :: txtM Tryz.prog 9 tm nt L :: row (Kd.int .u8) 5 w0.heap.size (.slice (some ⟨gL, 0, none⟩) n cL) b FL :: cs)) (by kernel_rfl) (by kernel_rfl) (fun d _ _ _ _ h => by cases d <;> exact h) (fun W h => h.drew) hp ?_
  refine preI_read rfl ?_
  refine sxq_val 22 (.slice Ah hd.length ch) (by rfl) (fun W _ => (by kernel_rfl)) ?_
  refine sxq_nil ?_
  refine preI_nil ?_
  intro W_7 hp
  refine treeI_rd rfl ?_
  refine sxq_val 21 (.map (some tm)) (by rfl) (fun W hp => (ld1 (t := 82) (p := (.tmp 2)) (by rfl) (by rfl) (by kernel_rfl) (hp.cell 3 (by rfl) 0 _ (by rfl)))) ?_
  refine sxq_nil ?_
  refine treeI_ev rfl ?_
  refine sx_call 23 (by rfl) (by kernel_rfl) ((impl_sorted.calls Ah ch hd _ _ (row_C (hp.at_ 1 _ (by rfl))) (row_len (hp.at_ 1 _ (by rfl))).2 (sorted_eq hall hnd (by omega))).mono ?_)
  rintro _ W_13 ⟨v_9, rfl, hR_8, hb⟩
  refine ⟨_, rfl, ?_⟩
  obtain ⟨A_10, c_11, rfl, hcc_c_11, _⟩ := Kd.R_reads hR_8
  obtain ⟨F_12, hp⟩ : ∃ F, Hp w0 (row k55 55 w0.heap.size (.slice A_10 (sortT hd).length c_11) (sortT hd) F :: tileG Tryz.prog 55 bm nn goodT m :: row k55 55 w0.heap.size (.slice Ah hd.length ch) hd Fh :: blk gu #[.map (some bm)] 81 :: blk gs #[.map (some tm)] 82 :: txtM Tryz.prog 9 tm nt L :: row (Kd.int .u8) 5 w0.heap.size (.slice (some ⟨gL, 0, none⟩) n cL) b FL :: cs) _ := ⟨_, Hp.made hp hb hR_8⟩
  refine step_fin hp.tail ?_
  refine treeI_ev rfl ?_
  obtain ⟨k_14, hk_k_14⟩ := Ev.rounds (hand_mtx hsm)
  refine sx_call 24 (by rfl) (by kernel_rfl) ((impl_handText.calls k_14 A_10 c_11 (sortT hd) _ _ (row_C (hp.at_ 0 _ (by rfl))) (row_len (hp.at_ 0 _ (by rfl))).2 hk_k_14).mono ?_)
  rintro _ W_15 ⟨rfl, hb⟩
  refine ⟨_, rfl, ?_⟩
  replace hp := hp.below hb
  clear hb
  refine step_fin hp.tail ?_
  refine treeI_fin ?_
  refine tail_of [4] (by rfl) ?_
  refine tailI_op rfl ?_
  refine sx_txput (n := nt) tx_key (by rfl) (by rfl) (by rfl) (x := (mtx m)) (v := true) (by rfl) (by rfl) Tryz.underlying82 (by simp only [maxLen]; omega) (tx_some (mtx_size m)) 5 (by rfl) hp ?_
  intro W_16 hp; simp only [List.set_cons_succ, List.set_cons_zero] at hp
  refine tailI_next ?_
  refine tailI_nil ?_
  refine ex_then_n ?_
  refine wp_seq ?_
  refine sx_region ?_
  refine sx_rd 4 (.bool true) (by rfl) (by kernel_rfl) ?_
  refine sx_nil ?_
  refine ex_then_n ?_
  refine wp_ret ?_
  refine sx_end (.bool true) (res1 4 (by rfl)) ?_
  exact ⟨rfl, (hp.take [1, 3, 4, 5, 6] 7 (by decide) (by simp))⟩
 ·
  simp only [List.set_cons_succ, List.set_cons_zero] at hp
  refine sx_rd 12 (.bool true) (by rfl) (by kernel_rfl) ?_
  refine sx_nil ?_
  refine ex_then_n ?_
  refine wp_seq ?_
  refine sx_then true (by rfl) rfl ?_
  refine wp_skip ?_
  refine ex_then_n ?_
  refine wp_block ?_
  refine wp_seq ?_
  refine sx_region ?_
  refine sx_rd 13 (.tuple #[.agg #[.int .i64 x.f0, .int .i64 x.f1], .bool (m x)]) (by rfl) (entry_run (by rfl) (by rfl) hen) ?_
  refine sx_rd 14 (.agg #[.int .i64 x.f0, .int .i64 x.f1]) (by rfl) (by kernel_rfl) ?_
  refine sx_rd 15 (.bool (m x)) (by rfl) (by kernel_rfl) ?_
  refine sx_box 6 hp #[.int .i64 0, .int .i64 0] 55 (by rfl) (fun W => by kernel_rfl) ?_
  intro g_17 W_18 hp
  refine sx_store (t := 55) (p := (.tmp 6)) (x := (.tmp 14)) (by rfl) (by rfl) 0 (by rfl) 0 [.int .i64 x.f0, .int .i64 x.f1] (by rfl) (by rfl) (by kernel_rfl) (by simp [Value.oneCell']) (by show 2 ≤ 2; omega) #[.int .i64 x.f0, .int .i64 x.f1] (by rfl) hp ?_
  intro W_19 hp; simp only [List.set_cons_succ, List.set_cons_zero] at hp
  refine sx_rd 7 (.bool (m x)) (by rfl) (by kernel_rfl) ?_
  refine sx_nil ?_
  refine ex_then_n ?_
  refine wp_seq ?_
  refine sx_region ?_
  refine sx_rd 16 (.bool (m x)) (by rfl) (by kernel_rfl) ?_
  refine sx_nil ?_
  refine ex_then_n ?_
  refine sx_cond (m x) (by rfl) (fun c_20 => ?_) (fun c_20 => ?_)
  ·
   refine sx_region ?_
   refine sx_rd 17 (.slice Ah hd.length ch) (by rfl) (by kernel_rfl) ?_
   refine sx_rd 18 (.agg #[.int .i64 x.f0, .int .i64 x.f1]) (by rfl) (ldn (t := 55) (p := (.tmp 6)) (by rfl) (by rfl) (by kernel_rfl) (by kernel_rfl) (by kernel_rfl) (hp.at_ 0 _ (by rfl))) ?_
   refine sx_lit 19 (by rfl) k55 w0.heap.size 55 ([x]) [.int .i64 x.f0, .int .i64 x.f1] (fun W => by kernel_rfl) (tile_reps _ _ _) (by simp) hp.size hp ?_
   intro g_21 F_22 W_23 hp hz; clear hz
   refine sx_append 20 (by rfl) k55 2 (by rfl) (.agg #[.int .i64 0, .int .i64 0]) 16 (by rfl) Tryz.underlying27 (by kernel_rfl) rfl (by decide) (by decide) ([x]) (by rfl) (by rfl) (row_C (hp.at_ 0 _ (by rfl))) tile_kp hp.size (by first | omega | (simp; done) | (simp; omega)) hp ?_
   intro A_24 c_25 F_26 W_27 hp hz; clear hz; simp only [List.set_cons_succ, List.set_cons_zero] at hp
   refine sx_rd 5 (.slice A_24 ((hd ++ [x]).length) c_25) (by rfl) (by kernel_rfl) ?_
   refine sx_nil ?_
   refine ex_blk_n ?_
   refine ex_then_n ?_
   rw [if_pos c_20] at hp
   exact ⟨_, hlt, _, _, _, _, _, _, _, rfl, fr_front [(2, .pointer (some ⟨gs, 0, none⟩)), (5, .slice A_24 ((hd ++ [x]).length) c_25), (10, .pointer (some ⟨r, 0, none⟩))] ⟨rfl, rfl, rfl, trivial⟩, (hp.take [2, 3, 4, 5, 6, 7] 8 (by decide) (by simp)), (by simp; omega)⟩
  ·
   refine wp_skip ?_
   refine ex_blk_n ?_
   refine ex_then_n ?_
   rw [if_neg (by simp [c_20])] at hp
   exact ⟨_, hlt, _, _, _, _, _, _, _, rfl, fr_front [(2, .pointer (some ⟨gs, 0, none⟩)), (5, .slice Ah hd.length ch), (10, .pointer (some ⟨r, 0, none⟩))] ⟨rfl, rfl, rfl, trivial⟩, (hp.take [1, 2, 3, 4, 5, 6] 7 (by decide) (by simp)), (by omega)⟩
/-- HandsOfTable's three function values. -/
def htCb (s : ByteArray) (gc gu gs bm tm : Nat) : Cb ((S_Tile → Bool) × List ByteArray) (Nat × Nat) where
 ft := 53
 ct := #[.pointer (some ⟨gc, 0, none⟩), .pointer (some ⟨gu, 0, none⟩)]
 fb := 56
 cb := #[.pointer (some ⟨gu, 0, none⟩), .pointer (some ⟨gc, 0, none⟩)]
 fe := 57
 ce := #[.pointer (some ⟨gu, 0, none⟩), .pointer (some ⟨gs, 0, none⟩)]
 X t g := grp [tileG Tryz.prog 55 bm g.1 goodT t.1, blk gc #[.string (flatB s)] 9, blk gu #[.map (some bm)] 81, blk gs #[.map (some tm)] 82, txtM Tryz.prog 9 tm g.2 t.2]
 S := seaH s
 inv q t g := g.1 + q ≤ 1099511627776 ∧ g.2 + q ≤ 1099511627776
set_option maxRecDepth 100000 in
set_option maxHeartbeats 40000000 in
theorem ht_ok (w0 : World) (s : ByteArray) (ht : isTab s = true) (gc gu gs bm tm : Nat) : CbOk (htCb s gc gu gs bm tm) w0 (cells s).length where
 enT := fun args w => by kernel_rfl
 enB := fun args w => by kernel_rfl
 enE := fun args w => by kernel_rfl
 mono := fun q q' t g h hi => ⟨by have := hi.1; omega, by have := hi.2; omega⟩
 take := fun cs W q t g i j hi hin hjn hp => by
  obtain ⟨m, L⟩ := t
  obtain ⟨nn, nt⟩ := g
  obtain ⟨h1, h2⟩ := hi
  simp only at h1 h2
  have hp2 := hp.ungrp
  refine (httake_sx s ht gc gu bm nn m i j hin hjn (by omega) hp2).mono ?_
  rintro e W' ⟨rfl, h3⟩
  exact ⟨(nn + 1, nt), rfl, ⟨by show nn + 1 + q ≤ _; omega, by show nt + q ≤ _; omega⟩, Hp.grp [_, _, _, _, _] h3⟩
 back := fun cs W q t g i j hi hin hjn hp => by
  obtain ⟨m, L⟩ := t
  obtain ⟨nn, nt⟩ := g
  obtain ⟨h1, h2⟩ := hi
  simp only at h1 h2
  have hp2 := hp.ungrp
  refine (htback_sx s ht gc gu bm nn m i j hin hjn (by omega) hp2).mono ?_
  rintro e W' ⟨rfl, h3⟩
  exact ⟨(nn + 1, nt), rfl, ⟨by show nn + 1 + q ≤ _; omega, by show nt + q ≤ _; omega⟩, Hp.grp [_, _, _, _, _] h3⟩
 each := fun cs W q t g b gL cL FL hi hbl hbb hp => by
  obtain ⟨m, L⟩ := t
  obtain ⟨nn, nt⟩ := g
  obtain ⟨h1, h2⟩ := hi
  simp only at h1 h2
  have hp2 := hp.ungrp
  refine (hteach_sx gu gs bm tm nn nt gL (cells s).length cL m L b FL (by omega) (by omega) (hp2.take [0, 2, 3, 4, 5, 1] 6 (by decide) (by simp))).mono ?_
  rintro e W' ⟨rfl, h3⟩
  exact ⟨(nn, nt + 1), rfl, ⟨by show nn + q ≤ _; omega, by show nt + 1 + q ≤ _; omega⟩, Hp.grp [_, _, _, _, _] (h3.take [0, 5, 1, 2, 3, 4] 6 (by decide) (by simp))⟩
end Go.Proofs.YtokkiiepddhkiaaGreatDoor.Hd
