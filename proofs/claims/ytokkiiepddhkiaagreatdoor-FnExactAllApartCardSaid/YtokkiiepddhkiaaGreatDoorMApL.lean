/- impl.AllApart, by hand. -/
import Derived.Test.YtokkiiepddhkiaaGreatDoorPTxtL
import Derived.Test.YtokkiiepddhkiaaGreatDoorMMx
import Derived.Test.YtokkiiepddhkiaaGreatDoorPApB
import Derived.Test.YtokkiiepddhkiaaGreatDoorG2
import Derived.Test.YtokkiiepddhkiaaGreatDoorMApI
namespace Go.Proofs.YtokkiiepddhkiaaGreatDoor.Hd
open Go Go.RowKit Go.Proofs.YtokkiiepddhkiaaGreatDoor.Pure Go.Proofs.YtokkiiepddhkiaaGreatDoorW.PrintWords Go.Proofs.YtokkiiepddhkiaaGreatDoorW.PrintLast Go.Proofs.YtokkiiepddhkiaaGreatDoorW.PrintMore
set_option linter.unusedVariables false
set_option linter.unusedSimpArgs false
theorem cst31 : cst 31 + 0 = 10737418235 := rfl
theorem hand_at {l : List S_Tile} (h : ∀ t ∈ l, goodT t = true) {i : Nat} (hi : i < l.length) : (0 ≤ (rd_Tile l (i : Int)).f0 ∧ (rd_Tile l (i : Int)).f0 ≤ 9) ∧ 0 ≤ (rd_Tile l (i : Int)).f1 ∧ (rd_Tile l (i : Int)).f1 ≤ 9 := by
 have e : rd_Tile l (i : Int) = l[i] := by unfold rd_Tile; rw [Int.toNat_natCast]; simp [hi]
 have q := h l[i] (List.getElem_mem _)
 unfold goodT at q
 simp only [Bool.and_eq_true, decide_eq_true_eq] at q
 rw [e]
 omega
set_option maxRecDepth 100000 in
set_option maxHeartbeats 40000000 in
theorem apart_sx {α γ : Type} (E : Ec α γ) {w0 W : World} {cs : List Chunk} (hok : EcOk E w0) (hM : ∀ W, Hp w0 cs W → ∃ m, W.cell? ⟨0, 0, none⟩ = some (.int .i64 m)) (s : ByteArray) (hs : s.size ≤ 1048576) (ht : isTab s = true) (hand : List S_Tile) (hb : handB hand = true) (AH : Option Addr) (cH : Nat) (hcH : hand.length ≤ cH) (hH : ∀ W, Hp w0 cs W → Kd.C k55 W AH hand.length hand) (a : α) (g : γ) (hiv : E.inv (cst 31 + 0) a g) (hp : Hp w0 (E.Y a g :: cs) W) :
  Calls Tryz.prog 27 #[.string s, .slice AH hand.length cH, .func (.func E.fe) #[] E.ce] W fun e W' => ∃ g', e = .returned (.tuple #[]) ∧ E.inv 0 (apR s hand E.ea a) g' ∧ Hp w0 (E.Y (apR s hand E.ea a) g' :: cs) W' := by
 have hd := tab_dim ht
 have hl := hand_ok hb
 have hgd : ∀ i : Nat, i < hand.length → (0 ≤ (rd_Tile hand (i : Int)).f0 ∧ (rd_Tile hand (i : Int)).f0 ≤ 9) ∧ 0 ≤ (rd_Tile hand (i : Int)).f1 ∧ (rd_Tile hand (i : Int)).f1 ≤ 9 := fun i h => hand_at hl.2.1 h
 refine sx_enter (N := 44) (l := [.string s, .slice AH hand.length cH, .func (.func E.fe) #[] E.ce]) Tryz.func27 rfl rfl rfl ?_
 refine wp_seq ?_
 refine sx_region ?_
 refine sx_box 5 hp #[.func (.func E.fe) #[] E.ce] 41 (by rfl) (fun W => by kernel_rfl) ?_
 intro g_1 W_2 hp
 refine sx_nil ?_
 refine ex_then_n ?_
 refine wp_seq ?_
 refine sx_region ?_
 refine sx_rd 14 (.string s) (by rfl) (by kernel_rfl) ?_
 refine sx_call 15 (by rfl) (by kernel_rfl) ((impl_size.calls s _ _ _ (hM _ (hp.tail.tail)) (size_ev s hs (by omega))).mono ?_)
 rintro _ W_3 ⟨rfl, hb⟩
 refine ⟨_, rfl, ?_⟩
 replace hp := hp.below hb
 clear hb
 refine sx_rd 13 (.tuple #[.int .i64 (Pure.w0 (rowsB s) : Int), .int .i64 ((rowsB s).length : Int)]) (by rfl) (by kernel_rfl) ?_
 refine sx_rd 16 (.int .i64 (Pure.w0 (rowsB s) : Int)) (by rfl) (by kernel_rfl) ?_
 refine sx_rd 17 (.int .i64 ((rowsB s).length : Int)) (by rfl) (by kernel_rfl) ?_
 refine sx_box 6 hp #[.int .i64 0] 3 (by rfl) (fun W => by kernel_rfl) ?_
 intro g_4 W_5 hp
 refine sx_store (t := 3) (p := (.tmp 6)) (x := (.tmp 16)) (by rfl) (by rfl) 0 (by rfl) 0 [.int .i64 (Pure.w0 (rowsB s) : Int)] (by rfl) (by rfl) (by kernel_rfl) (by simp [Value.oneCell']) (by show 1 ≤ 1; omega) #[.int .i64 (Pure.w0 (rowsB s) : Int)] (by rfl) hp ?_
 intro W_6 hp; simp only [List.set_cons_succ, List.set_cons_zero] at hp
 refine sx_rd 7 (.int .i64 ((rowsB s).length : Int)) (by rfl) (by kernel_rfl) ?_
 refine sx_nil ?_
 refine ex_then_n ?_
 refine wp_seq ?_
 refine wp_seq ?_
 refine sx_region ?_
 refine sx_rd 18 (.slice AH hand.length cH) (by rfl) (by kernel_rfl) ?_
 refine sx_rd 19 (.int .i64 (hand.length : Int)) (by rfl) (by kernel_rfl) ?_
 refine sx_rd 20 (.int .i64 (2 * (hand.length : Int))) (by rfl) (wr_ok (by omega) (by kernel_rfl)) ?_
 refine sx_rd 21 (.int .i64 (Pure.w0 (rowsB s) : Int)) (by rfl) (ld1 (t := 3) (p := (.tmp 6)) (by rfl) (by rfl) (by kernel_rfl) (hp.cell 0 (by rfl) 0 _ (by rfl))) ?_
 refine sx_rd 22 (.int .i64 ((rowsB s).length : Int)) (by rfl) (by kernel_rfl) ?_
 refine sx_rd 23 (.int .i64 ((cells s).length : Int)) (by rfl) (mul_run (by rfl) (by rfl) (by rfl) hd.1 (by omega)) ?_
 refine sx_rd 24 (.bool ((2 * (hand.length : Int)) != ((cells s).length : Int))) (by rfl) (by kernel_rfl) ?_
 refine sx_nil ?_
 refine ex_then_n ?_
 refine sx_cond ((2 * (hand.length : Int)) != ((cells s).length : Int)) (by rfl) (fun c_7 => ?_) (fun c_7 => ?_)
 ·
  have c_7p := ne_of_bne_ c_7
  refine wp_ret ?_
  refine ex_then_r ?_
  refine sx_end (.tuple #[]) (res0 (by rfl)) ?_
  have hR : (apR s hand E.ea a) = a := by unfold apR; rw [if_neg (by have q := c_7; simpa using q)]
  rw [hR]
  exact ⟨g, rfl, hok.mono _ _ _ _ (Nat.zero_le _) hiv, (hp.take [2] 3 (by decide) (by simp))⟩
 ·
  have c_7p := eq_of_bne_ c_7
  refine wp_skip ?_
  refine ex_then_n ?_
  refine wp_seq ?_
  refine sx_region ?_
  refine sx_rd 25 (.string s) (by rfl) (by kernel_rfl) ?_
  refine sx_call 26 (by rfl) (by kernel_rfl) ((impl_flat.calls s _ _ (hM _ (hp.tail.tail.tail)) (flat_eq s hs)).mono ?_)
  rintro _ W_8 ⟨rfl, hb⟩
  refine ⟨_, rfl, ?_⟩
  replace hp := hp.below hb
  clear hb
  refine sx_mktm 27 (k := 55) (by rfl) (fun W => by kernel_rfl) hp ?_
  intro bm W_9 hp
  rw [← mkM_nil] at hp
  have hp : Hp w0 (tileM Tryz.prog 55 bm 0 (mkM (hand.take 0)) :: blk g_4 #[.int .i64 (Pure.w0 (rowsB s) : Int)] 3 :: blk g_1 #[.func (.func E.fe) #[] E.ce] 41 :: E.Y a g :: cs) W_9 := by rw [List.take_zero]; exact hp
  refine sx_box 8 hp #[.string ByteArray.empty] 9 (by rfl) (fun W => by kernel_rfl) ?_
  intro g_10 W_11 hp
  refine sx_box 9 hp #[.map none] 81 (by rfl) (fun W => by kernel_rfl) ?_
  intro g_12 W_13 hp
  refine sx_store (t := 9) (p := (.tmp 8)) (x := (.tmp 26)) (by rfl) (by rfl) 1 (by rfl) 0 [.string (flatB s)] (by rfl) (by rfl) (by kernel_rfl) (by simp [Value.oneCell']) (by show 1 ≤ 1; omega) #[.string (flatB s)] (by rfl) hp ?_
  intro W_14 hp; simp only [List.set_cons_succ, List.set_cons_zero] at hp
  refine sx_store (t := 81) (p := (.tmp 9)) (x := (.tmp 27)) (by rfl) (by rfl) 0 (by rfl) 0 [.map (some bm)] (by rfl) (by rfl) (by kernel_rfl) (by simp [Value.oneCell']) (by show 1 ≤ 1; omega) #[.map (some bm)] (by rfl) hp ?_
  intro W_15 hp; simp only [List.set_cons_succ, List.set_cons_zero] at hp
  refine sx_nil ?_
  refine ex_then_n ?_
  refine wp_seq ?_
  refine wp_seq ?_
  refine sx_region ?_
  refine sx_rd 28 (.slice AH hand.length cH) (by rfl) (by kernel_rfl) ?_
  refine sx_rd 29 (.int .i64 (hand.length : Int)) (by rfl) (by kernel_rfl) ?_
  refine sx_rd 30 (.int .i64 0) (by rfl) (by kernel_rfl) ?_
  refine sx_nil ?_
  refine ex_then_n ?_
  refine wp_block ?_
  refine wp_loop_ghost (fun n_ a_ W => ∃ (r_ : List (Nat × Value)) (i : Nat) , n_ = hand.length - i ∧ a_ = fr 44 ([(5, .pointer (some ⟨g_1, 0, none⟩)), (6, .pointer (some ⟨g_4, 0, none⟩)), (7, .int .i64 ((rowsB s).length : Int)), (8, .pointer (some ⟨g_10, 0, none⟩)), (9, .pointer (some ⟨g_12, 0, none⟩)), (28, .slice AH hand.length cH), (29, .int .i64 (hand.length : Int)), (30, .int .i64 (i : Int))] ++ r_) ∧ Hp w0 (tileM Tryz.prog 55 bm i (mkM (hand.take i)) :: blk g_12 #[.map (some bm)] 81 :: blk g_10 #[.string (flatB s)] 9 :: blk g_4 #[.int .i64 (Pure.w0 (rowsB s) : Int)] 3 :: blk g_1 #[.func (.func E.fe) #[] E.ce] 41 :: E.Y a g :: cs) W ∧ (i ≤ hand.length)) _ ⟨_, 0, rfl, fr_front [(5, .pointer (some ⟨g_1, 0, none⟩)), (6, .pointer (some ⟨g_4, 0, none⟩)), (7, .int .i64 ((rowsB s).length : Int)), (8, .pointer (some ⟨g_10, 0, none⟩)), (9, .pointer (some ⟨g_12, 0, none⟩)), (28, .slice AH hand.length cH), (29, .int .i64 (hand.length : Int)), (30, .int .i64 0)] ⟨rfl, rfl, rfl, rfl, rfl, rfl, rfl, rfl, trivial⟩, (hp.take [2, 0, 1, 3, 4, 5] 6 (by decide) (by simp)), Nat.zero_le _⟩ ?_
  rintro _ _ W_16 ⟨r_, i, rfl, rfl, hp, hi⟩
  refine wp_seq ?_
  refine sx_region ?_
  refine sx_rd 31 (.bool (decide ((i : Int) < (hand.length : Int)))) (by rfl) (by kernel_rfl) ?_
  refine sx_nil ?_
  refine ex_then_n ?_
  refine wp_seq ?_
  refine sx_cond (decide ((i : Int) < (hand.length : Int))) (by rfl) (fun c_17 => ?_) (fun c_17 => ?_)
  ·
   have c_17p := of_decide_eq_true c_17
   refine wp_skip ?_
   refine ex_then_n ?_
   refine wp_seq ?_
   refine wp_block ?_
   refine wp_seq ?_
   refine sx_region ?_
   refine sx_rd 32 (.pointer (some (adr AH (i : Int) 2))) (by rfl) (ix_run (d := k55) (hH _ hp.tail.tail.tail.tail.tail.tail) (t := 27) (by rfl) (by rfl) (by rfl) Tryz.underlying27 (by kernel_rfl) (by omega) (by omega)) ?_
   refine sx_rd 33 (.agg #[.int .i64 ((rd_Tile hand (i : Int)).f0), .int .i64 ((rd_Tile hand (i : Int)).f1)]) (by rfl) (el_run (d := k55) (hH _ hp.tail.tail.tail.tail.tail.tail) z55 (i : Int) (by omega) (by omega) (cells := [.int .i64 ((rd_Tile hand (i : Int)).f0), .int .i64 ((rd_Tile hand (i : Int)).f1)]) (fun cs h => k55_open h) 0 [.int .i64 ((rd_Tile hand (i : Int)).f0), .int .i64 ((rd_Tile hand (i : Int)).f1)] (by rfl) (t := 55) (p := (.tmp 32)) (by rfl) (by rfl) (by kernel_rfl) (by kernel_rfl)) ?_
   refine sx_box 11 hp #[.int .i64 0, .int .i64 0] 55 (by rfl) (fun W => by kernel_rfl) ?_
   intro g_18 W_19 hp
   refine sx_store (t := 55) (p := (.tmp 11)) (x := (.tmp 33)) (by rfl) (by rfl) 0 (by rfl) 0 [.int .i64 ((rd_Tile hand (i : Int)).f0), .int .i64 ((rd_Tile hand (i : Int)).f1)] (by rfl) (by rfl) (by kernel_rfl) (by simp [Value.oneCell']) (by show 2 ≤ 2; omega) #[.int .i64 ((rd_Tile hand (i : Int)).f0), .int .i64 ((rd_Tile hand (i : Int)).f1)] (by rfl) hp ?_
   intro W_20 hp; simp only [List.set_cons_succ, List.set_cons_zero] at hp
   refine sx_nil ?_
   refine ex_then_n ?_
   refine sx_region ?_
   refine sx_rd 34 (.map (some bm)) (by rfl) (ld1 (t := 81) (p := (.tmp 9)) (by rfl) (by rfl) (by kernel_rfl) (hp.cell 2 (by rfl) 0 _ (by rfl))) ?_
   refine sx_rd 35 (.agg #[.int .i64 ((rd_Tile hand (i : Int)).f0), .int .i64 ((rd_Tile hand (i : Int)).f1)]) (by rfl) (ldn (t := 55) (p := (.tmp 11)) (by rfl) (by rfl) (by kernel_rfl) (by kernel_rfl) (by kernel_rfl) (hp.at_ 0 _ (by rfl))) ?_
   refine sx_tmput (n := i) tl_key (by rfl) (by rfl) (by rfl) (x := (rd_Tile hand (i : Int))) (v := true) (by rfl) (by rfl) Tryz.underlying81 (by simp only [maxLen]; omega) (tl_some (hgd i (by omega))) 1 (by rfl) hp ?_
   intro W_21 hp; simp only [List.set_cons_succ, List.set_cons_zero] at hp
   refine sx_nil ?_
   refine ex_blk_n ?_
   refine ex_then_n ?_
   refine sx_region ?_
   refine sx_rd 36 (.int .i64 ((i : Int) + 1)) (by rfl) (wr_ok (by omega) (by kernel_rfl)) ?_
   refine sx_rd 30 (.int .i64 ((i : Int) + 1)) (by rfl) (by kernel_rfl) ?_
   refine sx_nil ?_
   refine ex_then_n ?_
   have hq_22 : (upd (mkM (hand.take i)) (rd_Tile hand (i : Int)) true) = (mkM (hand.take (i + 1))) := mkM_take (by omega)
   rw [hq_22] at hp
   exact ⟨_, (by omega), _, (i + 1), rfl, fr_front [(5, .pointer (some ⟨g_1, 0, none⟩)), (6, .pointer (some ⟨g_4, 0, none⟩)), (7, .int .i64 ((rowsB s).length : Int)), (8, .pointer (some ⟨g_10, 0, none⟩)), (9, .pointer (some ⟨g_12, 0, none⟩)), (28, .slice AH hand.length cH), (29, .int .i64 (hand.length : Int)), (30, .int .i64 ((i + 1 : Nat) : Int))] ⟨rfl, rfl, rfl, rfl, rfl, rfl, rfl, rfl, trivial⟩, (hp.take [1, 2, 3, 4, 5, 6] 7 (by decide) (by simp)), (by omega)⟩
  ·
   have c_17p := of_decide_eq_false c_17
   refine wp_exit ?_
   refine ex_then_e (ex_then_e (ex_blk_here ?_))
   refine ex_then_n ?_
   refine wp_seq ?_
   refine sx_region ?_
   refine sx_rd 37 (.func (.func 62) #[] #[.pointer (some ⟨g_10, 0, none⟩), .pointer (some ⟨g_12, 0, none⟩)]) (by rfl) (by kernel_rfl) ?_
   refine sx_rd 12 (.func (.func 62) #[] #[.pointer (some ⟨g_10, 0, none⟩), .pointer (some ⟨g_12, 0, none⟩)]) (by rfl) (by kernel_rfl) ?_
   refine sx_nil ?_
   refine ex_then_n ?_
   refine sx_region ?_
   refine sx_rd 38 (.int .i64 (Pure.w0 (rowsB s) : Int)) (by rfl) (ld1 (t := 3) (p := (.tmp 6)) (by rfl) (by rfl) (by kernel_rfl) (hp.cell 3 (by rfl) 0 _ (by rfl))) ?_
   refine sx_rd 39 (.int .i64 ((rowsB s).length : Int)) (by rfl) (by kernel_rfl) ?_
   refine sx_rd 40 (.func (.func 62) #[] #[.pointer (some ⟨g_10, 0, none⟩), .pointer (some ⟨g_12, 0, none⟩)]) (by rfl) (by kernel_rfl) ?_
   refine sx_rd 41 (.func (.func 63) #[] #[.pointer (some ⟨g_12, 0, none⟩), .pointer (some ⟨g_10, 0, none⟩)]) (by rfl) (by kernel_rfl) ?_
   refine sx_rd 42 (.func (.func 64) #[] #[.pointer (some ⟨g_1, 0, none⟩), .pointer (some ⟨g_4, 0, none⟩)]) (by rfl) (by kernel_rfl) ?_
   have hiN : i = hand.length := by omega
   have hp := Hp.grp [_, _, _, _, _, _] (hp.take [0, 2, 1, 4, 3, 5] 6 (by decide) (by simp))
   rw [hiN, List.take_length] at hp
   refine sx_call 43 (by rfl) (by kernel_rfl) ((layouts_sx (apCb E s g_10 g_12 g_1 g_4 bm) (Pure.w0 (rowsB s) : Int) ((rowsB s).length : Int) (cells s).length (ap_ok E w0 hok s ht g_10 g_12 g_1 g_4 bm) (mkM hand, a) (hand.length, g) (by omega) (by omega) (by omega) (by omega) hd.1 hd.2.2.1 ⟨by rw [cst31]; show hand.length + _ ≤ _; omega, hiv⟩ hp).mono ?_)
   rintro _ W_23 ⟨⟨n9, g9⟩, rfl, ⟨hi9, hi8⟩, hp⟩
   refine ⟨_, rfl, ?_⟩
   replace hp := hp.ungrp
   refine sx_nil ?_
   refine sx_end_n (.tuple #[]) (res0 (by rfl)) ?_
   have hR : (apR s hand E.ea a) = (layG (seaA s E.ea) (Pure.w0 (rowsB s) : Int) (cells s).length 31 (List.replicate (cells s).length 0) 0 (mkM hand, a)).2.2 := by unfold apR; rw [if_pos (by have q := c_7; simpa using q)]
   rw [hR]
   exact ⟨g9, rfl, hi8, (hp.take [5] 6 (by decide) (by simp))⟩
end Go.Proofs.YtokkiiepddhkiaaGreatDoor.Hd
namespace Go.Proofs.YtokkiiepddhkiaaGreatDoor.Hd
open Go Go.RowKit Go.Proofs.YtokkiiepddhkiaaGreatDoor.Pure Go.Proofs.YtokkiiepddhkiaaGreatDoorW.PrintWords Go.Proofs.YtokkiiepddhkiaaGreatDoorW.PrintLast Go.Proofs.YtokkiiepddhkiaaGreatDoorW.PrintMore
set_option linter.unusedVariables false
set_option linter.unusedSimpArgs false
def ctE (gm : Nat) : Ec Int Unit where
 fe := 61
 ce := #[.pointer (some ⟨gm, 0, none⟩)]
 Y a _ := blk gm #[.int .i64 a] 3
 ea := ctF
 inv q a _ := 0 ≤ a ∧ a + (q : Int) ≤ 1099511627776
set_option maxRecDepth 100000 in
set_option maxHeartbeats 40000000 in
theorem ctE_ok (gm : Nat) (w0 : World) : EcOk (ctE gm) w0 where
 enE := fun args w => by kernel_rfl
 mono := fun q q' a g h hi => (by replace hi : 0 ≤ a ∧ a + (q : Int) ≤ 1099511627776 := hi; show 0 ≤ a ∧ a + (q' : Int) ≤ 1099511627776; omega)
 call := by
  intro cs W q a g x hiv hx hp
  replace hp : Hp w0 (blk gm #[.int .i64 a] 3 :: cs) W := hp
  replace hiv : 0 ≤ a ∧ a + ((q + 1 : Nat) : Int) ≤ 1099511627776 := hiv
  show Calls Tryz.prog 61 #[.string x, .pointer (some ⟨gm, 0, none⟩)] W _
  refine sx_enter (N := 6) (l := [.string x, .pointer (some ⟨gm, 0, none⟩)]) Tryz.func61 rfl rfl rfl ?_
  refine wp_seq ?_
  refine sx_region ?_
  refine sx_rd 3 (.bool false) (by rfl) (by kernel_rfl) ?_
  refine sx_nil ?_
  refine ex_then_n ?_
  refine wp_seq ?_
  refine sx_region ?_
  refine sx_rd 4 (.int .i64 a) (by rfl) (ld1 (t := 3) (p := (.tmp 1)) (by rfl) (by rfl) (by kernel_rfl) (hp.cell 0 (by rfl) 0 _ (by rfl))) ?_
  refine sx_rd 5 (.int .i64 (a + 1)) (by rfl) (wr_ok (by omega) (by kernel_rfl)) ?_
  refine sx_store (t := 3) (p := (.tmp 1)) (x := (.tmp 5)) (by rfl) (by rfl) 0 (by rfl) 0 [.int .i64 (a + 1)] (by rfl) (by rfl) (by kernel_rfl) (by simp [Value.oneCell']) (by show 1 ≤ 1; omega) #[.int .i64 (a + 1)] (by rfl) hp ?_
  intro W_1 hp; simp only [List.set_cons_succ, List.set_cons_zero] at hp
  refine sx_nil ?_
  refine ex_then_n ?_
  refine wp_seq ?_
  refine sx_region ?_
  refine sx_rd 3 (.bool true) (by rfl) (by kernel_rfl) ?_
  refine sx_nil ?_
  refine ex_then_n ?_
  refine wp_ret ?_
  refine sx_end (.bool true) (res1 3 (by rfl)) ?_
  exact ⟨(), rfl, (show 0 ≤ a + 1 ∧ a + 1 + (q : Int) ≤ 1099511627776 by omega), (hp.take [0] 1 (by decide) (by simp))⟩
def impl_CountApart.f (a0 : ByteArray) (l1 : List S_Tile) : Option (Int × Bool) := if a0.size ≤ 1048576 then (if (isTab a0 && handB l1) = true then some (apR a0 l1 ctF 0, true) else some (0, false)) else none
set_option maxRecDepth 100000 in
set_option maxHeartbeats 40000000 in
theorem impl_CountApart.calls (a0 : ByteArray) (A1 : Option Addr) (c1 : Nat) (l1 : List S_Tile) (r0 : Int) (r1 : Bool) (w : World) (hr1 : Kd.C k55 w A1 l1.length l1) (hc1 : l1.length ≤ c1) (hmx : ∃ m, w.cell? ⟨0, 0, none⟩ = some (.int .i64 m)) (h : impl_CountApart.f a0 l1 = some (r0, r1)) :
  Calls Tryz.prog 26 #[.string a0, .slice A1 l1.length c1] w fun e w' => e = .returned (.tuple #[.int .i64 r0, .bool r1]) ∧ Below w.heap.size w w' := by
 unfold impl_CountApart.f at h
 by_cases hsz : a0.size ≤ 1048576
 case neg => rw [if_neg hsz] at h; cases h
 rw [if_pos hsz] at h
 obtain ⟨cs, hcs⟩ : ∃ cs, cs = [old w w.heap.size] := ⟨_, rfl⟩
 have hp : Hp w cs w := by rw [hcs]; exact Hp.old_start w
 have hc2 : ∀ W, Hp w cs W → Below w.heap.size w W := fun W h => by rw [hcs] at h; exact h.since 0 _ rfl
 have hC1 : ∀ W, Hp w cs W → Kd.C k55 W A1 l1.length l1 := fun W h => Kd.C_below hr1 (hc2 W h)
 have hM : ∀ W, Hp w cs W → ∃ m, W.cell? ⟨0, 0, none⟩ = some (.int .i64 m) := fun W h => hmx.imp fun m q => ((hc2 W h).cell (World.block_lt_of_cell? _ _ q)).trans q
 clear hcs
 refine sx_enter (N := 16) (l := [.string a0, .slice A1 l1.length c1]) Tryz.func26 rfl rfl rfl ?_
 refine wp_seq ?_
 refine sx_region ?_
 refine sx_rd 4 (.int .i64 0) (by rfl) (by kernel_rfl) ?_
 refine sx_rd 5 (.bool false) (by rfl) (by kernel_rfl) ?_
 refine sx_nil ?_
 refine ex_then_n ?_
 refine wp_seq ?_
 refine wp_seq ?_
 refine sx_region ?_
 refine sx_rd 7 (.string a0) (by rfl) (by kernel_rfl) ?_
 refine sx_rd 8 (.slice A1 l1.length c1) (by rfl) (by kernel_rfl) ?_
 obtain ⟨k_1, hk_k_1⟩ := Ev.rounds (isApart_ev a0 l1 hsz)
 refine sx_call 9 (by rfl) (by kernel_rfl) ((impl_isApart.calls k_1 a0 A1 c1 l1 _ _ (hC1 _ hp) hc1 (hM _ (hp)) hk_k_1).mono ?_)
 rintro _ W_2 ⟨rfl, hb⟩
 refine ⟨_, rfl, ?_⟩
 replace hp := hp.below hb
 clear hb
 refine sx_rd 10 (.bool (!(isTab a0 && handB l1))) (by rfl) (by kernel_rfl) ?_
 refine sx_nil ?_
 refine ex_then_n ?_
 refine sx_cond (!(isTab a0 && handB l1)) (by rfl) (fun c_3 => ?_) (fun c_3 => ?_)
 ·
  refine wp_seq ?_
  refine sx_region ?_
  refine sx_rd 4 (.int .i64 0) (by rfl) (by kernel_rfl) ?_
  refine sx_rd 5 (.bool false) (by rfl) (by kernel_rfl) ?_
  refine sx_nil ?_
  refine ex_then_n ?_
  refine wp_ret ?_
  refine ex_then_r ?_
  refine sx_end (.tuple #[.int .i64 0, .bool false]) (res2 4 5 (by rfl)) ?_
  rw [if_neg (by rw [show (isTab a0 && handB l1) = false from (not_eq c_3)]; simp)] at h
  simp only [Option.some.injEq, Prod.mk.injEq] at h; obtain ⟨rfl, rfl⟩ := h
  exact ⟨rfl, hc2 _ (hp)⟩
 ·
  have hTH : isTab a0 = true ∧ handB l1 = true := by have q : (isTab a0 && handB l1) = true := (not_eq c_3); rwa [Bool.and_eq_true] at q
  refine wp_skip ?_
  refine ex_then_n ?_
  refine wp_seq ?_
  refine sx_region ?_
  refine sx_box 6 hp #[.int .i64 0] 3 (by rfl) (fun W => by kernel_rfl) ?_
  intro g_4 W_5 hp
  refine sx_store (t := 3) (p := (.tmp 6)) (x := (.const (Go.Value.int Go.IntKind.i64 0))) (by rfl) (by rfl) 0 (by rfl) 0 [.int .i64 0] (by rfl) (by rfl) (by kernel_rfl) (by simp [Value.oneCell']) (by show 1 ≤ 1; omega) #[.int .i64 0] (by rfl) hp ?_
  intro W_6 hp; simp only [List.set_cons_succ, List.set_cons_zero] at hp
  refine sx_nil ?_
  refine ex_then_n ?_
  refine wp_seq ?_
  refine sx_region ?_
  refine sx_rd 11 (.string a0) (by rfl) (by kernel_rfl) ?_
  refine sx_rd 12 (.slice A1 l1.length c1) (by rfl) (by kernel_rfl) ?_
  refine sx_rd 13 (.func (.func 61) #[] #[.pointer (some ⟨g_4, 0, none⟩)]) (by rfl) (by kernel_rfl) ?_
  refine sx_call 14 (by rfl) (by kernel_rfl) ((apart_sx (ctE g_4) (ctE_ok g_4 w) (fun W h => hM W h) a0 hsz hTH.1 l1 hTH.2 A1 c1 hc1 (fun W h => hC1 W h) 0 () (show (0 : Int) ≤ 0 ∧ (0 : Int) + ((cst 31 + 0 : Nat) : Int) ≤ 1099511627776 by rw [cst31]; decide) (hp.take [0] 1 (by decide) (by simp))).mono ?_)
  rintro _ W_7 ⟨_, rfl, hiv9, hp⟩
  refine ⟨_, rfl, ?_⟩
  replace hp : Hp w (blk g_4 #[.int .i64 (apR a0 l1 ctF 0)] 3 :: cs) W_7 := hp
  refine sx_nil ?_
  refine ex_then_n ?_
  refine wp_seq ?_
  refine sx_region ?_
  refine sx_rd 15 (.int .i64 (apR a0 l1 ctF 0)) (by rfl) (ld1 (t := 3) (p := (.tmp 6)) (by rfl) (by rfl) (by kernel_rfl) (hp.cell 0 (by rfl) 0 _ (by rfl))) ?_
  refine sx_rd 4 (.int .i64 (apR a0 l1 ctF 0)) (by rfl) (by kernel_rfl) ?_
  refine sx_rd 5 (.bool true) (by rfl) (by kernel_rfl) ?_
  refine sx_nil ?_
  refine ex_then_n ?_
  refine wp_ret ?_
  refine sx_end (.tuple #[.int .i64 (apR a0 l1 ctF 0), .bool true]) (res2 4 5 (by rfl)) ?_
  rw [if_pos (show (isTab a0 && handB l1) = true from (not_eq c_3))] at h
  simp only [Option.some.injEq, Prod.mk.injEq] at h; obtain ⟨rfl, rfl⟩ := h
  exact ⟨rfl, hc2 _ (hp.tail)⟩
end Go.Proofs.YtokkiiepddhkiaaGreatDoor.Hd
namespace Go.Proofs.YtokkiiepddhkiaaGreatDoor.Pure
open Go.RowKit Go.Proofs.YtokkiiepddhkiaaGreatDoor.Hd Go.Proofs.YtokkiiepddhkiaaGreatDoorW.PrintWords Go.Proofs.YtokkiiepddhkiaaGreatDoorW.PrintLast
set_option linter.unusedVariables false
theorem ca_t {s : ByteArray} {l : List S_Tile} (hs : s.size ≤ 1048576) (h : (isTab s && handB l) = true) : impl_CountApart.f s l = some (((lvsH s l).length : Int), true) := by
  unfold impl_CountApart.f
  rw [if_pos hs, if_pos h]
  rw [Bool.and_eq_true] at h
  rw [apR_count h.1 h.2]
theorem ca_f {s : ByteArray} {l : List S_Tile} (hs : s.size ≤ 1048576) (h : ¬ (isTab s && handB l) = true) : impl_CountApart.f s l = some (0, false) := by
  unfold impl_CountApart.f
  rw [if_pos hs, if_neg h]
end Go.Proofs.YtokkiiepddhkiaaGreatDoor.Pure
namespace Go.Proofs.YtokkiiepddhkiaaGreatDoor.Hd
open Go Go.RowKit Go.Proofs.YtokkiiepddhkiaaGreatDoor.Pure Go.Proofs.YtokkiiepddhkiaaGreatDoorW.PrintWords Go.Proofs.YtokkiiepddhkiaaGreatDoorW.PrintLast Go.Proofs.YtokkiiepddhkiaaGreatDoorW.PrintMore
set_option linter.unusedVariables false
set_option linter.unusedSimpArgs false
def alE (gm : Nat) (w0 : World) : Ec (List ByteArray) (Option Addr × Nat × (Nat → Prop)) where
 fe := 28
 ce := #[.pointer (some ⟨gm, 0, none⟩)]
 Y a g := grp [blk gm #[.slice g.1 a.length g.2.1] 24, row Kd.string 9 w0.heap.size (.slice g.1 a.length g.2.1) a g.2.2]
 ea := alF
 inv q a _ := a.length + q ≤ 1099511627776
set_option maxRecDepth 100000 in
set_option maxHeartbeats 40000000 in
theorem alE_ok (gm : Nat) (w0 : World) : EcOk (alE gm w0) w0 where
 enE := fun args w => by kernel_rfl
 mono := fun q q' a g h hi => (by replace hi : a.length + q ≤ 1099511627776 := hi; show a.length + q' ≤ 1099511627776; omega)
 call := by
  intro cs W q a g x hiv hx hp
  obtain ⟨Ag, cg, Fg⟩ := g
  replace hiv : a.length + (q + 1) ≤ 1099511627776 := hiv
  replace hp : Hp w0 (blk gm #[.slice Ag a.length cg] 24 :: row Kd.string 9 w0.heap.size (.slice Ag a.length cg) a Fg :: cs) W := hp.ungrp
  show Calls Tryz.prog 28 #[.string x, .pointer (some ⟨gm, 0, none⟩)] W _
  refine sx_enter (N := 8) (l := [.string x, .pointer (some ⟨gm, 0, none⟩)]) Tryz.func28 rfl rfl rfl ?_
  refine wp_seq ?_
  refine sx_region ?_
  refine sx_rd 3 (.bool false) (by rfl) (by kernel_rfl) ?_
  refine sx_nil ?_
  refine ex_then_n ?_
  refine wp_seq ?_
  refine sx_region ?_
  refine sx_rd 4 (.slice Ag a.length cg) (by rfl) (ld1 (t := 24) (p := (.tmp 1)) (by rfl) (by rfl) (by kernel_rfl) (hp.cell 0 (by rfl) 0 _ (by rfl))) ?_
  refine sx_rd 5 (.string x) (by rfl) (by kernel_rfl) ?_
  refine sx_lit 6 (by rfl) Kd.string w0.heap.size 9 ([x]) [.string x] (fun W => by kernel_rfl) (Reps.snoc (cs := []) (Reps.none _ _) rfl rfl) (by simp) hp.size hp ?_
  intro g_1 F_2 W_3 hp hz; clear hz
  refine sx_append 7 (by rfl) Kd.string 2 (by rfl) (.string ByteArray.empty) 16 (by rfl) Tryz.underlying24 (by kernel_rfl) rfl (by decide) (by decide) ([x]) (by rfl) (by rfl) (row_C (hp.at_ 0 _ (by rfl))) (fun x cs h => h) hp.size (by first | omega | (simp; done) | (simp; omega)) hp ?_
  intro A_4 c_5 F_6 W_7 hp hz; clear hz; simp only [List.set_cons_succ, List.set_cons_zero] at hp
  refine sx_store (t := 24) (p := (.tmp 1)) (x := (.tmp 7)) (by rfl) (by rfl) 1 (by rfl) 0 [.slice A_4 ((a ++ [x]).length) c_5] (by rfl) (by rfl) (by kernel_rfl) (by simp [Value.oneCell']) (by show 1 ≤ 1; omega) #[.slice A_4 ((a ++ [x]).length) c_5] (by rfl) hp ?_
  intro W_8 hp; simp only [List.set_cons_succ, List.set_cons_zero] at hp
  refine sx_nil ?_
  refine ex_then_n ?_
  refine wp_seq ?_
  refine sx_region ?_
  refine sx_rd 3 (.bool true) (by rfl) (by kernel_rfl) ?_
  refine sx_nil ?_
  refine ex_then_n ?_
  refine wp_ret ?_
  refine sx_end (.bool true) (res1 3 (by rfl)) ?_
  exact ⟨(A_4, c_5, F_6), rfl, (show (a ++ [x]).length + q ≤ 1099511627776 by simp; omega), Hp.grp [_, _] (hp.take [1, 2] 3 (by decide) (by simp))⟩
def impl_AllApart.f (a0 : ByteArray) (l1 : List S_Tile) : Option (List ByteArray × Bool) := if a0.size ≤ 1048576 then (if (isTab a0 && handB l1) = true then (if (lvsH a0 l1).length > 100 then some ([], false) else some (apR a0 l1 alF [], true)) else some ([], false)) else none
set_option maxRecDepth 100000 in
set_option maxHeartbeats 40000000 in
theorem impl_AllApart.calls (a0 : ByteArray) (A1 : Option Addr) (c1 : Nat) (l1 : List S_Tile) (r0 : List ByteArray) (r1 : Bool) (w : World) (hr1 : Kd.C k55 w A1 l1.length l1) (hc1 : l1.length ≤ c1) (hmx : ∃ m, w.cell? ⟨0, 0, none⟩ = some (.int .i64 m)) (h : impl_AllApart.f a0 l1 = some (r0, r1)) :
  Calls Tryz.prog 9 #[.string a0, .slice A1 l1.length c1] w fun e w' => ∃ v0_ : Value, e = .returned (.tuple #[v0_, .bool r1]) ∧ Kd.R Kd.string 9 w' w.heap.size (fun _ => True) v0_ r0 ∧ Below w.heap.size w w' := by
 unfold impl_AllApart.f at h
 by_cases hsz : a0.size ≤ 1048576
 case neg => rw [if_neg hsz] at h; cases h
 rw [if_pos hsz] at h
 obtain ⟨cs, hcs⟩ : ∃ cs, cs = [old w w.heap.size] := ⟨_, rfl⟩
 have hp : Hp w cs w := by rw [hcs]; exact Hp.old_start w
 have hc2 : ∀ W, Hp w cs W → Below w.heap.size w W := fun W h => by rw [hcs] at h; exact h.since 0 _ rfl
 have hC1 : ∀ W, Hp w cs W → Kd.C k55 W A1 l1.length l1 := fun W h => Kd.C_below hr1 (hc2 W h)
 have hM : ∀ W, Hp w cs W → ∃ m, W.cell? ⟨0, 0, none⟩ = some (.int .i64 m) := fun W h => hmx.imp fun m q => ((hc2 W h).cell (World.block_lt_of_cell? _ _ q)).trans q
 clear hcs
 by_cases hTB : (isTab a0 && handB l1) = true
 ·
  rw [if_pos hTB] at h
  have hTH : isTab a0 = true ∧ handB l1 = true := by rwa [Bool.and_eq_true] at hTB
  refine sx_enter (N := 27) (l := [.string a0, .slice A1 l1.length c1]) Tryz.func9 rfl rfl rfl ?_
  refine wp_seq ?_
  refine sx_region ?_
  refine sx_rd 4 (.slice none 0 0) (by rfl) (by kernel_rfl) ?_
  refine sx_rd 5 (.bool false) (by rfl) (by kernel_rfl) ?_
  refine sx_nil ?_
  refine ex_then_n ?_
  refine wp_seq ?_
  refine wp_seq ?_
  refine sx_region ?_
  refine sx_rd 10 (.string a0) (by rfl) (by kernel_rfl) ?_
  refine sx_rd 11 (.slice A1 l1.length c1) (by rfl) (by kernel_rfl) ?_
  refine sx_call 12 (by rfl) (by kernel_rfl) ((impl_CountApart.calls a0 A1 c1 l1 _ _ _ (hC1 _ hp) hc1 (hM _ (hp)) (ca_t hsz hTB)).mono ?_)
  rintro _ W_1 ⟨rfl, hb⟩
  refine ⟨_, rfl, ?_⟩
  replace hp := hp.below hb
  clear hb
  refine sx_rd 9 (.tuple #[.int .i64 ((lvsH a0 l1).length : Int), .bool true]) (by rfl) (by kernel_rfl) ?_
  refine sx_rd 13 (.int .i64 ((lvsH a0 l1).length : Int)) (by rfl) (by kernel_rfl) ?_
  refine sx_rd 14 (.bool true) (by rfl) (by kernel_rfl) ?_
  refine sx_rd 6 (.int .i64 ((lvsH a0 l1).length : Int)) (by rfl) (by kernel_rfl) ?_
  refine sx_rd 7 (.bool true) (by rfl) (by kernel_rfl) ?_
  refine sx_nil ?_
  refine ex_then_n ?_
  refine wp_seq ?_
  refine sx_region ?_
  refine sx_rd 15 (.bool true) (by rfl) (by kernel_rfl) ?_
  refine sx_rd 16 (.bool false) (by rfl) (by kernel_rfl) ?_
  refine sx_rd 17 (.bool false) (by rfl) (by kernel_rfl) ?_
  refine sx_want (by rfl) ?_
  refine sx_rd 18 (.int .i64 ((lvsH a0 l1).length : Int)) (by rfl) (by kernel_rfl) ?_
  refine sx_want (by rfl) ?_
  refine sx_rd 19 (.bool (decide (((lvsH a0 l1).length : Int) > 100))) (by rfl) (by kernel_rfl) ?_
  refine sx_rd 20 (.bool (decide (((lvsH a0 l1).length : Int) > 100))) (by rfl) (by kernel_rfl) ?_
  refine sx_nil ?_
  refine ex_then_n ?_
  refine sx_cond (decide (((lvsH a0 l1).length : Int) > 100)) (by rfl) (fun c_2 => ?_) (fun c_2 => ?_)
  ·
   have c_2p := of_decide_eq_true c_2
   refine wp_seq ?_
   refine sx_region ?_
   refine sx_rd 4 (.slice none 0 0) (by rfl) (by kernel_rfl) ?_
   refine sx_rd 5 (.bool false) (by rfl) (by kernel_rfl) ?_
   refine sx_nil ?_
   refine ex_then_n ?_
   refine wp_ret ?_
   refine ex_then_r ?_
   refine sx_end (.tuple #[.slice none 0 0, .bool false]) (res2 4 5 (by rfl)) ?_
   rw [if_pos (by have q := c_2p; omega)] at h
   simp only [Option.some.injEq, Prod.mk.injEq] at h; obtain ⟨rfl, rfl⟩ := h
   exact ⟨_, rfl, Kd.R_nil _ _ _ _ _, hc2 _ (hp)⟩
  ·
   have c_2p := of_decide_eq_false c_2
   refine wp_skip ?_
   refine ex_then_n ?_
   refine wp_seq ?_
   refine sx_region ?_
   refine sx_lit 21 (by rfl) Kd.string w.heap.size 9 ([] : List ByteArray) [] (fun W => by kernel_rfl) (Reps.none _ _) (by simp) hp.size hp ?_
   intro g_3 F_4 W_5 hp hz; clear hz
   refine sx_box 8 hp #[.slice none 0 0] 24 (by rfl) (fun W => by kernel_rfl) ?_
   intro g_6 W_7 hp
   refine sx_store (t := 24) (p := (.tmp 8)) (x := (.tmp 21)) (by rfl) (by rfl) 0 (by rfl) 0 [.slice (some ⟨g_3, 0, none⟩) (([] : List ByteArray).length) (([] : List ByteArray).length)] (by rfl) (by rfl) (by kernel_rfl) (by simp [Value.oneCell']) (by show 1 ≤ 1; omega) #[.slice (some ⟨g_3, 0, none⟩) (([] : List ByteArray).length) (([] : List ByteArray).length)] (by rfl) hp ?_
   intro W_8 hp; simp only [List.set_cons_succ, List.set_cons_zero] at hp
   refine sx_nil ?_
   refine ex_then_n ?_
   refine wp_seq ?_
   refine sx_region ?_
   refine sx_rd 22 (.string a0) (by rfl) (by kernel_rfl) ?_
   refine sx_rd 23 (.slice A1 l1.length c1) (by rfl) (by kernel_rfl) ?_
   refine sx_rd 24 (.func (.func 28) #[] #[.pointer (some ⟨g_6, 0, none⟩)]) (by rfl) (by kernel_rfl) ?_
   have hp := Hp.grp [_, _] (hp.take [0, 1] 2 (by decide) (by simp))
   refine sx_call 25 (by rfl) (by kernel_rfl) ((apart_sx (alE g_6 w) (alE_ok g_6 w) (fun W h => hM W h) a0 hsz hTH.1 l1 hTH.2 A1 c1 hc1 (fun W h => hC1 W h) [] ((some ⟨g_3, 0, none⟩), (([] : List ByteArray).length), F_4) (show 0 + (cst 31 + 0) ≤ 1099511627776 by rw [cst31]; decide) hp).mono ?_)
   rintro _ W_9 ⟨⟨A9, c9, F9⟩, rfl, hiv9, hp⟩
   refine ⟨_, rfl, ?_⟩
   replace hp := hp.ungrp
   replace hp : Hp w (blk g_6 #[.slice A9 ((apR a0 l1 alF []).length) c9] 24 :: row Kd.string 9 w.heap.size (.slice A9 ((apR a0 l1 alF []).length) c9) (apR a0 l1 alF []) F9 :: cs) W_9 := hp
   refine sx_nil ?_
   refine ex_then_n ?_
   refine wp_seq ?_
   refine sx_region ?_
   refine sx_rd 26 (.slice A9 ((apR a0 l1 alF []).length) c9) (by rfl) (ld1 (t := 24) (p := (.tmp 8)) (by rfl) (by rfl) (by kernel_rfl) (hp.cell 0 (by rfl) 0 _ (by rfl))) ?_
   refine sx_rd 4 (.slice A9 ((apR a0 l1 alF []).length) c9) (by rfl) (by kernel_rfl) ?_
   refine sx_rd 5 (.bool true) (by rfl) (by kernel_rfl) ?_
   refine sx_nil ?_
   refine ex_then_n ?_
   refine wp_ret ?_
   refine sx_end (.tuple #[.slice A9 ((apR a0 l1 alF []).length) c9, .bool true]) (res2 4 5 (by rfl)) ?_
   rw [if_neg (by have q := c_2p; omega)] at h
   simp only [Option.some.injEq, Prod.mk.injEq] at h; obtain ⟨rfl, rfl⟩ := h
   exact ⟨_, rfl, Kd.R_mono (row_R (hp.at_ 1 _ (by rfl))) (fun _ _ => trivial), hc2 _ (hp.tail.tail)⟩
 ·
  rw [if_neg hTB] at h
  refine sx_enter (N := 27) (l := [.string a0, .slice A1 l1.length c1]) Tryz.func9 rfl rfl rfl ?_
  refine wp_seq ?_
  refine sx_region ?_
  refine sx_rd 4 (.slice none 0 0) (by rfl) (by kernel_rfl) ?_
  refine sx_rd 5 (.bool false) (by rfl) (by kernel_rfl) ?_
  refine sx_nil ?_
  refine ex_then_n ?_
  refine wp_seq ?_
  refine wp_seq ?_
  refine sx_region ?_
  refine sx_rd 10 (.string a0) (by rfl) (by kernel_rfl) ?_
  refine sx_rd 11 (.slice A1 l1.length c1) (by rfl) (by kernel_rfl) ?_
  refine sx_call 12 (by rfl) (by kernel_rfl) ((impl_CountApart.calls a0 A1 c1 l1 _ _ _ (hC1 _ hp) hc1 (hM _ (hp)) (ca_f hsz hTB)).mono ?_)
  rintro _ W_1 ⟨rfl, hb⟩
  refine ⟨_, rfl, ?_⟩
  replace hp := hp.below hb
  clear hb
  refine sx_rd 9 (.tuple #[.int .i64 0, .bool false]) (by rfl) (by kernel_rfl) ?_
  refine sx_rd 13 (.int .i64 0) (by rfl) (by kernel_rfl) ?_
  refine sx_rd 14 (.bool false) (by rfl) (by kernel_rfl) ?_
  refine sx_rd 6 (.int .i64 0) (by rfl) (by kernel_rfl) ?_
  refine sx_rd 7 (.bool false) (by rfl) (by kernel_rfl) ?_
  refine sx_nil ?_
  refine ex_then_n ?_
  refine wp_seq ?_
  refine sx_region ?_
  refine sx_rd 15 (.bool false) (by rfl) (by kernel_rfl) ?_
  refine sx_rd 16 (.bool true) (by rfl) (by kernel_rfl) ?_
  refine sx_rd 17 (.bool true) (by rfl) (by kernel_rfl) ?_
  refine sx_skip 18 (by rfl) (by rfl) (by rfl) ?_
  refine sx_skip 19 (by rfl) (by rfl) (by rfl) ?_
  refine sx_rd 20 (.bool true) (by rfl) (by kernel_rfl) ?_
  refine sx_nil ?_
  refine ex_then_n ?_
  refine sx_then true (by rfl) rfl ?_
  refine wp_seq ?_
  refine sx_region ?_
  refine sx_rd 4 (.slice none 0 0) (by rfl) (by kernel_rfl) ?_
  refine sx_rd 5 (.bool false) (by rfl) (by kernel_rfl) ?_
  refine sx_nil ?_
  refine ex_then_n ?_
  refine wp_ret ?_
  refine ex_then_r ?_
  refine sx_end (.tuple #[.slice none 0 0, .bool false]) (res2 4 5 (by rfl)) ?_
  simp only [Option.some.injEq, Prod.mk.injEq] at h; obtain ⟨rfl, rfl⟩ := h
  exact ⟨_, rfl, Kd.R_nil _ _ _ _ _, hc2 _ (hp)⟩
end Go.Proofs.YtokkiiepddhkiaaGreatDoor.Hd
