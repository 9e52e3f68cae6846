/- impl.apart, for any function value each, by hand. -/
import Derived.Test.YtokkiiepddhkiaaDoorMApI
namespace Go.Proofs.YtokkiiepddhkiaaDoor.Hd
open Go Go.RowKit Go.Proofs.YtokkiiepddhkiaaDoor.Pure Go.Proofs.YtokkiiepddhkiaaDoorW.PrintWords Go.Proofs.YtokkiiepddhkiaaDoorW.PrintLast Go.Proofs.YtokkiiepddhkiaaDoorW.PrintMore
set_option linter.unusedVariables false
set_option linter.unusedSimpArgs false
theorem cst31 : cst 31 + 0 = 10737418235 := rfl
theorem hand_at {l : List S_Tile} (h : ∀ t ∈ l, goodT t = true) {i : Nat} (hi : i < l.length) : (0 ≤ (rd_Tile l (i : Int)).f0 ∧ (rd_Tile l (i : Int)).f0 ≤ 9) ∧ 0 ≤ (rd_Tile l (i : Int)).f1 ∧ (rd_Tile l (i : Int)).f1 ≤ 9 := by
 have e : rd_Tile l (i : Int) = l[i] := by unfold rd_Tile; rw [Int.toNat_natCast]; simp [hi]
 have q := h l[i] (List.getElem_mem _)
 unfold goodT at q
 simp only [Bool.and_eq_true, decide_eq_true_eq] at q
 rw [e]
 omega
set_option maxRecDepth 100000 in
set_option maxHeartbeats 40000000 in
theorem apart_sx {α γ : Type} (E : Ec α γ) {w0 W : World} {cs : List Chunk} (hok : EcOk E w0) (hM : ∀ W, Hp w0 cs W → ∃ m, W.cell? ⟨0, 0, none⟩ = some (.int .i64 m)) (s : ByteArray) (hs : s.size ≤ 1048576) (ht : isTab s = true) (hand : List S_Tile) (hb : handB hand = true) (AH : Option Addr) (cH : Nat) (hcH : hand.length ≤ cH) (hH : ∀ W, Hp w0 cs W → Kd.C k54 W AH hand.length hand) (a : α) (g : γ) (hiv : E.inv (cst 31 + 0) a g) (hp : Hp w0 (E.Y a g :: cs) W) :
  Calls Tryd.prog 25 #[.string s, .slice AH hand.length cH, .func (.func E.fe) #[] E.ce] W fun e W' => ∃ g', e = .returned (.tuple #[]) ∧ E.inv 0 (apR s hand E.ea a) g' ∧ Hp w0 (E.Y (apR s hand E.ea a) g' :: cs) W' := by
 have hd := tab_dim ht
 have hl := hand_ok hb
 have hgd : ∀ i : Nat, i < hand.length → (0 ≤ (rd_Tile hand (i : Int)).f0 ∧ (rd_Tile hand (i : Int)).f0 ≤ 9) ∧ 0 ≤ (rd_Tile hand (i : Int)).f1 ∧ (rd_Tile hand (i : Int)).f1 ≤ 9 := fun i h => hand_at hl.2.1 h
 refine sx_enter (N := 44) (l := [.string s, .slice AH hand.length cH, .func (.func E.fe) #[] E.ce]) Tryd.func25 rfl rfl rfl ?_
 refine wp_seq ?_
 refine sx_region ?_
 refine sx_box 5 hp #[.func (.func E.fe) #[] E.ce] 24 (by rfl) (fun W => by kernel_rfl) ?_
 intro g_1 W_2 hp
 refine sx_nil ?_
 refine ex_then_n ?_
 refine wp_seq ?_
 refine sx_region ?_
 refine sx_rd 14 (.string s) (by rfl) (by kernel_rfl) ?_
 refine sx_call 15 (by rfl) (by kernel_rfl) ((impl_size.calls s _ _ _ (hM _ (hp.tail.tail)) (size_ev s hs (by omega))).mono ?_)
 rintro _ W_3 ⟨rfl, hb⟩
 refine ⟨_, rfl, ?_⟩
 replace hp := hp.below hb
 clear hb
 refine sx_rd 13 (.tuple #[.int .i64 (Pure.w0 (rowsB s) : Int), .int .i64 ((rowsB s).length : Int)]) (by rfl) (by kernel_rfl) ?_
 refine sx_rd 16 (.int .i64 (Pure.w0 (rowsB s) : Int)) (by rfl) (by kernel_rfl) ?_
 refine sx_rd 17 (.int .i64 ((rowsB s).length : Int)) (by rfl) (by kernel_rfl) ?_
 refine sx_box 6 hp #[.int .i64 0] 3 (by rfl) (fun W => by kernel_rfl) ?_
 intro g_4 W_5 hp
 refine sx_store (t := 3) (p := (.tmp 6)) (x := (.tmp 16)) (by rfl) (by rfl) 0 (by rfl) 0 [.int .i64 (Pure.w0 (rowsB s) : Int)] (by rfl) (by rfl) (by kernel_rfl) (by simp [Value.oneCell']) (by show 1 ≤ 1; omega) #[.int .i64 (Pure.w0 (rowsB s) : Int)] (by rfl) hp ?_
 intro W_6 hp; simp only [List.set_cons_succ, List.set_cons_zero] at hp
 refine sx_rd 7 (.int .i64 ((rowsB s).length : Int)) (by rfl) (by kernel_rfl) ?_
 refine sx_nil ?_
 refine ex_then_n ?_
 refine wp_seq ?_
 refine wp_seq ?_
 refine sx_region ?_
 refine sx_rd 18 (.slice AH hand.length cH) (by rfl) (by kernel_rfl) ?_
 refine sx_rd 19 (.int .i64 (hand.length : Int)) (by rfl) (by kernel_rfl) ?_
 refine sx_rd 20 (.int .i64 (2 * (hand.length : Int))) (by rfl) (wr_ok (by omega) (by kernel_rfl)) ?_
 refine sx_rd 21 (.int .i64 (Pure.w0 (rowsB s) : Int)) (by rfl) (ld1 (t := 3) (p := (.tmp 6)) (by rfl) (by rfl) (by kernel_rfl) (hp.cell 0 (by rfl) 0 _ (by rfl))) ?_
 refine sx_rd 22 (.int .i64 ((rowsB s).length : Int)) (by rfl) (by kernel_rfl) ?_
 refine sx_rd 23 (.int .i64 ((cells s).length : Int)) (by rfl) (mul_run (by rfl) (by rfl) (by rfl) hd.1 (by omega)) ?_
 refine sx_rd 24 (.bool ((2 * (hand.length : Int)) != ((cells s).length : Int))) (by rfl) (by kernel_rfl) ?_
 refine sx_nil ?_
 refine ex_then_n ?_
 refine sx_cond ((2 * (hand.length : Int)) != ((cells s).length : Int)) (by rfl) (fun c_7 => ?_) (fun c_7 => ?_)
 ·
  have c_7p := ne_of_bne_ c_7
  refine wp_ret ?_
  refine ex_then_r ?_
  refine sx_end (.tuple #[]) (res0 (by rfl)) ?_
  have hR : (apR s hand E.ea a) = a := by unfold apR; rw [if_neg (by have q := c_7; simpa using q)]
  rw [hR]
  exact ⟨g, rfl, hok.mono _ _ _ _ (Nat.zero_le _) hiv, (hp.take [2] 3 (by decide) (by simp))⟩
 ·
  have c_7p := eq_of_bne_ c_7
  refine wp_skip ?_
  refine ex_then_n ?_
  refine wp_seq ?_
  refine sx_region ?_
  refine sx_rd 25 (.string s) (by rfl) (by kernel_rfl) ?_
  refine sx_call 26 (by rfl) (by kernel_rfl) ((impl_flat.calls s _ _ (hM _ (hp.tail.tail.tail)) (flat_eq s hs)).mono ?_)
  rintro _ W_8 ⟨rfl, hb⟩
  refine ⟨_, rfl, ?_⟩
  replace hp := hp.below hb
  clear hb
  refine sx_mktm 27 (k := 54) (by rfl) (fun W => by kernel_rfl) hp ?_
  intro bm W_9 hp
  rw [← mkM_nil] at hp
  have hp : Hp w0 (tileM Tryd.prog 54 bm 0 (mkM (hand.take 0)) :: blk g_4 #[.int .i64 (Pure.w0 (rowsB s) : Int)] 3 :: blk g_1 #[.func (.func E.fe) #[] E.ce] 24 :: E.Y a g :: cs) W_9 := by rw [List.take_zero]; exact hp
  refine sx_box 8 hp #[.string ByteArray.empty] 9 (by rfl) (fun W => by kernel_rfl) ?_
  intro g_10 W_11 hp
  refine sx_box 9 hp #[.map none] 80 (by rfl) (fun W => by kernel_rfl) ?_
  intro g_12 W_13 hp
  refine sx_store (t := 9) (p := (.tmp 8)) (x := (.tmp 26)) (by rfl) (by rfl) 1 (by rfl) 0 [.string (flatB s)] (by rfl) (by rfl) (by kernel_rfl) (by simp [Value.oneCell']) (by show 1 ≤ 1; omega) #[.string (flatB s)] (by rfl) hp ?_
  intro W_14 hp; simp only [List.set_cons_succ, List.set_cons_zero] at hp
  refine sx_store (t := 80) (p := (.tmp 9)) (x := (.tmp 27)) (by rfl) (by rfl) 0 (by rfl) 0 [.map (some bm)] (by rfl) (by rfl) (by kernel_rfl) (by simp [Value.oneCell']) (by show 1 ≤ 1; omega) #[.map (some bm)] (by rfl) hp ?_
  intro W_15 hp; simp only [List.set_cons_succ, List.set_cons_zero] at hp
  refine sx_nil ?_
  refine ex_then_n ?_
  refine wp_seq ?_
  refine wp_seq ?_
  refine sx_region ?_
  refine sx_rd 28 (.slice AH hand.length cH) (by rfl) (by kernel_rfl) ?_
  refine sx_rd 29 (.int .i64 (hand.length : Int)) (by rfl) (by kernel_rfl) ?_
  refine sx_rd 30 (.int .i64 0) (by rfl) (by kernel_rfl) ?_
  refine sx_nil ?_
  refine ex_then_n ?_
  refine wp_block ?_
  refine wp_loop_ghost (fun n_ a_ W => ∃ (r_ : List (Nat × Value)) (i : Nat) , n_ = hand.length - i ∧ a_ = fr 44 ([(5, .pointer (some ⟨g_1, 0, none⟩)), (6, .pointer (some ⟨g_4, 0, none⟩)), (7, .int .i64 ((rowsB s).length : Int)), (8, .pointer (some ⟨g_10, 0, none⟩)), (9, .pointer (some ⟨g_12, 0, none⟩)), (28, .slice AH hand.length cH), (29, .int .i64 (hand.length : Int)), (30, .int .i64 (i : Int))] ++ r_) ∧ Hp w0 (tileM Tryd.prog 54 bm i (mkM (hand.take i)) :: blk g_12 #[.map (some bm)] 80 :: blk g_10 #[.string (flatB s)] 9 :: blk g_4 #[.int .i64 (Pure.w0 (rowsB s) : Int)] 3 :: blk g_1 #[.func (.func E.fe) #[] E.ce] 24 :: E.Y a g :: cs) W ∧ (i ≤ hand.length)) _ ⟨_, 0, rfl, fr_front [(5, .pointer (some ⟨g_1, 0, none⟩)), (6, .pointer (some ⟨g_4, 0, none⟩)), (7, .int .i64 ((rowsB s).length : Int)), (8, .pointer (some ⟨g_10, 0, none⟩)), (9, .pointer (some ⟨g_12, 0, none⟩)), (28, .slice AH hand.length cH), (29, .int .i64 (hand.length : Int)), (30, .int .i64 0)] ⟨rfl, rfl, rfl, rfl, rfl, rfl, rfl, rfl, trivial⟩, (hp.take [2, 0, 1, 3, 4, 5] 6 (by decide) (by simp)), Nat.zero_le _⟩ ?_
  rintro _ _ W_16 ⟨r_, i, rfl, rfl, hp, hi⟩
  refine wp_seq ?_
  refine sx_region ?_
  refine sx_rd 31 (.bool (decide ((i : Int) < (hand.length : Int)))) (by rfl) (by kernel_rfl) ?_
  refine sx_nil ?_
  refine ex_then_n ?_
  refine wp_seq ?_
  refine sx_cond (decide ((i : Int) < (hand.length : Int))) (by rfl) (fun c_17 => ?_) (fun c_17 => ?_)
  ·
   have c_17p := of_decide_eq_true c_17
   refine wp_skip ?_
   refine ex_then_n ?_
   refine wp_seq ?_
   refine wp_block ?_
   refine wp_seq ?_
   refine sx_region ?_
   refine sx_rd 32 (.pointer (some (adr AH (i : Int) 2))) (by rfl) (ix_run (d := k54) (hH _ hp.tail.tail.tail.tail.tail.tail) (t := 29) (by rfl) (by rfl) (by rfl) Tryd.underlying29 (by kernel_rfl) (by omega) (by omega)) ?_
   refine sx_rd 33 (.agg #[.int .i64 ((rd_Tile hand (i : Int)).f0), .int .i64 ((rd_Tile hand (i : Int)).f1)]) (by rfl) (el_run (d := k54) (hH _ hp.tail.tail.tail.tail.tail.tail) z54 (i : Int) (by omega) (by omega) (cells := [.int .i64 ((rd_Tile hand (i : Int)).f0), .int .i64 ((rd_Tile hand (i : Int)).f1)]) (fun cs h => k54_open h) 0 [.int .i64 ((rd_Tile hand (i : Int)).f0), .int .i64 ((rd_Tile hand (i : Int)).f1)] (by rfl) (t := 54) (p := (.tmp 32)) (by rfl) (by rfl) (by kernel_rfl) (by kernel_rfl)) ?_
   refine sx_box 11 hp #[.int .i64 0, .int .i64 0] 54 (by rfl) (fun W => by kernel_rfl) ?_
   intro g_18 W_19 hp
   refine sx_store (t := 54) (p := (.tmp 11)) (x := (.tmp 33)) (by rfl) (by rfl) 0 (by rfl) 0 [.int .i64 ((rd_Tile hand (i : Int)).f0), .int .i64 ((rd_Tile hand (i : Int)).f1)] (by rfl) (by rfl) (by kernel_rfl) (by simp [Value.oneCell']) (by show 2 ≤ 2; omega) #[.int .i64 ((rd_Tile hand (i : Int)).f0), .int .i64 ((rd_Tile hand (i : Int)).f1)] (by rfl) hp ?_
   intro W_20 hp; simp only [List.set_cons_succ, List.set_cons_zero] at hp
   refine sx_nil ?_
   refine ex_then_n ?_
   refine sx_region ?_
   refine sx_rd 34 (.map (some bm)) (by rfl) (ld1 (t := 80) (p := (.tmp 9)) (by rfl) (by rfl) (by kernel_rfl) (hp.cell 2 (by rfl) 0 _ (by rfl))) ?_
   refine sx_rd 35 (.agg #[.int .i64 ((rd_Tile hand (i : Int)).f0), .int .i64 ((rd_Tile hand (i : Int)).f1)]) (by rfl) (ldn (t := 54) (p := (.tmp 11)) (by rfl) (by rfl) (by kernel_rfl) (by kernel_rfl) (by kernel_rfl) (hp.at_ 0 _ (by rfl))) ?_
   refine sx_tmput (n := i) tl_key (by rfl) (by rfl) (by rfl) (x := (rd_Tile hand (i : Int))) (v := true) (by rfl) (by rfl) Tryd.underlying80 (by simp only [maxLen]; omega) (tl_some (hgd i (by omega))) 1 (by rfl) hp ?_
   intro W_21 hp; simp only [List.set_cons_succ, List.set_cons_zero] at hp
   refine sx_nil ?_
   refine ex_blk_n ?_
   refine ex_then_n ?_
   refine sx_region ?_
   refine sx_rd 36 (.int .i64 ((i : Int) + 1)) (by rfl) (wr_ok (by omega) (by kernel_rfl)) ?_
   refine sx_rd 30 (.int .i64 ((i : Int) + 1)) (by rfl) (by kernel_rfl) ?_
   refine sx_nil ?_
   refine ex_then_n ?_
   have hq_22 : (upd (mkM (hand.take i)) (rd_Tile hand (i : Int)) true) = (mkM (hand.take (i + 1))) := mkM_take (by omega)
   rw [hq_22] at hp
   exact ⟨_, (by omega), _, (i + 1), rfl, fr_front [(5, .pointer (some ⟨g_1, 0, none⟩)), (6, .pointer (some ⟨g_4, 0, none⟩)), (7, .int .i64 ((rowsB s).length : Int)), (8, .pointer (some ⟨g_10, 0, none⟩)), (9, .pointer (some ⟨g_12, 0, none⟩)), (28, .slice AH hand.length cH), (29, .int .i64 (hand.length : Int)), (30, .int .i64 ((i + 1 : Nat) : Int))] ⟨rfl, rfl, rfl, rfl, rfl, rfl, rfl, rfl, trivial⟩, (hp.take [1, 2, 3, 4, 5, 6] 7 (by decide) (by simp)), (by omega)⟩
  ·
   have c_17p := of_decide_eq_false c_17
   refine wp_exit ?_
   refine ex_then_e (ex_then_e (ex_blk_here ?_))
   refine ex_then_n ?_
   refine wp_seq ?_
   refine sx_region ?_
   refine sx_rd 37 (.func (.func 43) #[] #[.pointer (some ⟨g_10, 0, none⟩), .pointer (some ⟨g_12, 0, none⟩)]) (by rfl) (by kernel_rfl) ?_
   refine sx_rd 12 (.func (.func 43) #[] #[.pointer (some ⟨g_10, 0, none⟩), .pointer (some ⟨g_12, 0, none⟩)]) (by rfl) (by kernel_rfl) ?_
   refine sx_nil ?_
   refine ex_then_n ?_
   refine sx_region ?_
   refine sx_rd 38 (.int .i64 (Pure.w0 (rowsB s) : Int)) (by rfl) (ld1 (t := 3) (p := (.tmp 6)) (by rfl) (by rfl) (by kernel_rfl) (hp.cell 3 (by rfl) 0 _ (by rfl))) ?_
   refine sx_rd 39 (.int .i64 ((rowsB s).length : Int)) (by rfl) (by kernel_rfl) ?_
   refine sx_rd 40 (.func (.func 43) #[] #[.pointer (some ⟨g_10, 0, none⟩), .pointer (some ⟨g_12, 0, none⟩)]) (by rfl) (by kernel_rfl) ?_
   refine sx_rd 41 (.func (.func 46) #[] #[.pointer (some ⟨g_12, 0, none⟩), .pointer (some ⟨g_10, 0, none⟩)]) (by rfl) (by kernel_rfl) ?_
   refine sx_rd 42 (.func (.func 47) #[] #[.pointer (some ⟨g_1, 0, none⟩), .pointer (some ⟨g_4, 0, none⟩)]) (by rfl) (by kernel_rfl) ?_
   have hiN : i = hand.length := by omega
   have hp := Hp.grp [_, _, _, _, _, _] (hp.take [0, 2, 1, 4, 3, 5] 6 (by decide) (by simp))
   rw [hiN, List.take_length] at hp
   refine sx_call 43 (by rfl) (by kernel_rfl) ((layouts_sx (apCb E s g_10 g_12 g_1 g_4 bm) (Pure.w0 (rowsB s) : Int) ((rowsB s).length : Int) (cells s).length (ap_ok E w0 hok s ht g_10 g_12 g_1 g_4 bm) (mkM hand, a) (hand.length, g) (by omega) (by omega) (by omega) (by omega) hd.1 hd.2.2.1 ⟨by rw [cst31]; show hand.length + _ ≤ _; omega, hiv⟩ hp).mono ?_)
   rintro _ W_23 ⟨⟨n9, g9⟩, rfl, ⟨hi9, hi8⟩, hp⟩
   refine ⟨_, rfl, ?_⟩
   replace hp := hp.ungrp
   refine sx_nil ?_
   refine sx_end_n (.tuple #[]) (res0 (by rfl)) ?_
   have hR : (apR s hand E.ea a) = (layG (seaA s E.ea) (Pure.w0 (rowsB s) : Int) (cells s).length 31 (List.replicate (cells s).length 0) 0 (mkM hand, a)).2.2 := by unfold apR; rw [if_pos (by have q := c_7; simpa using q)]
   rw [hR]
   exact ⟨g9, rfl, hi8, (hp.take [5] 6 (by decide) (by simp))⟩
end Go.Proofs.YtokkiiepddhkiaaDoor.Hd
