/- spec.lyFor, by hand: the plays of a hand's tiles. -/
import Derived.Test.YtlphnpinpflaaaaMLyFive
import Derived.Test.YtlphnpinpflaaaaPSet
import Derived.Test.YtlphnpinpflaaaaG1
namespace Go.Proofs.Ytlphnpinpflaaaa.Hd
open Go.RowKit Go.Proofs.Ytlphnpinpflaaaa.Pure Go.Proofs.YtlphnpinpflaaaaW.PrintWords Go.Proofs.YtlphnpinpflaaaaW.PrintLast Go.Proofs.YtlphnpinpflaaaaW.PrintMore
set_option linter.unusedVariables false
set_option linter.unusedSimpArgs false
def armsTo (s : LySt) (t : S_Tile) (j : Nat) : List S_Play := ((List.range j).map fun (a : Nat) => (⟨t, (a : Int)⟩ : S_Play)).filter (lyCan s)
def forTile (s : LySt) (t : S_Tile) : List S_Play := armsTo s t (max 1 s.ar.length)
def forTo (s : LySt) (T : List S_Tile) (i : Nat) : List S_Play := (T.take i).flatMap (forTile s)
def lyForF (s : LySt) (hand : List S_Tile) : List S_Play := (sortT hand).flatMap (forTile s)
theorem armsTo_next (s : LySt) (t : S_Tile) (j : Nat) : armsTo s t (j + 1) = armsTo s t j ++ if lyCan s ⟨t, (j : Int)⟩ = true then [⟨t, (j : Int)⟩] else [] := by
 unfold armsTo
 rw [List.range_succ, List.map_append, List.filter_append]
 congr 1
 simp only [List.map_cons, List.map_nil, List.filter_cons, List.filter_nil]
theorem armsTo_len (s : LySt) (t : S_Tile) (j : Nat) : (armsTo s t j).length ≤ j := by
 unfold armsTo
 refine Nat.le_trans (List.length_filter_le _ _) ?_
 simp
theorem forTo_next (s : LySt) (T : List S_Tile) (i : Nat) (h : i < T.length) : forTo s T (i + 1) = forTo s T i ++ forTile s (rd_Tile T (i : Int)) := by
 unfold forTo rd_Tile
 rw [List.take_succ_eq_append_getElem h, List.flatMap_append]
 simp [h]
theorem forTo_len (s : LySt) (T : List S_Tile) (har : s.ar.length ≤ 100) : ∀ i, i ≤ T.length → (forTo s T i).length ≤ 100 * i := by
 intro i
 induction i with
 | zero => intro _; simp [forTo]
 | succ i ih =>
  intro h
  have h1 := ih (by omega)
  have h2 := armsTo_len s (rd_Tile T (i : Int)) (max 1 s.ar.length)
  rw [forTo_next s T i (by omega), List.length_append]
  unfold forTile
  omega
theorem tiSort_c (l : List S_Tile) (hl : l.length ≤ 1048576) (A : Option Addr) (c : Nat) (hc : l.length ≤ c) (w : World) (h : Kd.C k51 w A l.length l) :
  Calls Try.prog 86 #[.slice A l.length c] w fun e w' => ∃ v0_ : Value, e = .returned (v0_) ∧ Kd.R k51 51 w' w.heap.size (fun _ => True) v0_ (sortT l) ∧ Below w.heap.size w w' := by
 obtain ⟨k, hk⟩ := (tiSort_ev l hl).rounds
 exact spec_tiSort.calls k A c l _ w h hc hk
set_option maxRecDepth 100000 in
set_option maxHeartbeats 40000000 in
theorem lyFor_sx (w0 W : World) (cs : List Chunk) (g : Nat) (s : LySt) (A1 : Option Addr) (c1 : Nat) (A2 : Option Addr) (c2 : Nat) (b : Nat) (F1 F2 : Nat → Prop) (hand : List S_Tile) (AH : Option Addr) (cH : Nat) (hlen : hand.length ≤ 1048576) (hcH : hand.length ≤ cH) (hti : s.ti.length ≤ 28) (har : s.ar.length ≤ 100) (hH : ∀ W, Hp w0 cs W → Kd.C k51 W AH hand.length hand) (hp : Hp w0 (blk g #[.slice A1 s.ar.length c1, .slice A2 s.ti.length c2, .int .i64 s.sp, .int .i64 s.wt, .bool s.fi, .bool s.l0, .bool s.l1] 83 :: row k85 85 b (.slice A1 s.ar.length c1) s.ar F1 :: row k51 51 b (.slice A2 s.ti.length c2) s.ti F2 :: cs) W) :
  Calls Try.prog 62 #[.pointer (some ⟨g, 0, none⟩), .slice AH hand.length cH] W fun e W' => ∃ A n c F, forTo s (sortT hand) (sortT hand).length = lyForF s hand ∧ e = .returned (.slice A n c) ∧ Hp w0 (row k53 53 w0.heap.size (.slice A n c) (forTo s (sortT hand) (sortT hand).length) F :: blk g #[.slice A1 s.ar.length c1, .slice A2 s.ti.length c2, .int .i64 s.sp, .int .i64 s.wt, .bool s.fi, .bool s.l0, .bool s.l1] 83 :: row k85 85 b (.slice A1 s.ar.length c1) s.ar F1 :: row k51 51 b (.slice A2 s.ti.length c2) s.ti F2 :: cs) W' := by
 refine sx_enter (N := 43) (l := [.pointer (some ⟨g, 0, none⟩), .slice AH hand.length cH]) Try.func62 rfl rfl rfl ?_
 refine wp_seq ?_
 refine sx_region ?_
 refine sx_rd 4 (.slice none 0 0) (by rfl) (by kernel_rfl) ?_
 refine sx_nil ?_
 refine ex_then_n ?_
 refine wp_seq ?_
 refine sx_region ?_
 refine sx_rd 5 (.slice none 0 0) (by rfl) (by kernel_rfl) ?_
 refine sx_nil ?_
 refine ex_then_n ?_
 refine wp_seq ?_
 refine wp_seq ?_
 refine sx_region ?_
 refine sx_rd 10 (.slice AH hand.length cH) (by rfl) (by kernel_rfl) ?_
 refine sx_call 11 (by rfl) (by kernel_rfl) ((tiSort_c hand hlen _ _ hcH _ (hH _ hp.tail.tail.tail)).mono ?_)
 rintro _ W_1 ⟨v0, rfl, hR, hb⟩
 refine ⟨_, rfl, ?_⟩
 obtain ⟨AT, cT, rfl, hcc, _⟩ := Kd.R_reads hR
 obtain ⟨FT, hp⟩ : ∃ F, Hp w0 (row k51 51 w0.heap.size (.slice AT (sortT hand).length cT) (sortT hand) F :: blk g #[.slice A1 s.ar.length c1, .slice A2 s.ti.length c2, .int .i64 s.sp, .int .i64 s.wt, .bool s.fi, .bool s.l0, .bool s.l1] 83 :: row k85 85 b (.slice A1 s.ar.length c1) s.ar F1 :: row k51 51 b (.slice A2 s.ti.length c2) s.ti F2 :: cs) _ := ⟨_, Hp.made hp hb hR⟩
 refine sx_rd 12 (.int .i64 ((sortT hand).length : Int)) (by rfl) (by kernel_rfl) ?_
 refine sx_rd 13 (.int .i64 0) (by rfl) (by kernel_rfl) ?_
 refine sx_nil ?_
 refine ex_then_n ?_
 refine wp_block ?_
 replace hp := hp.nilrow k53 53 w0.heap.size
 refine wp_loop_ghost (fun n a W => ∃ (r : List (Nat × Value)) (i : Nat) (AO : Option Addr) (nO cO : Nat) (FO : Nat → Prop), n = (sortT hand).length - i ∧ a = fr 43 ([(0, .pointer (some ⟨g, 0, none⟩)), (5, .slice AO nO cO), (11, .slice AT ((sortT hand).length) cT), (12, .int .i64 ((sortT hand).length : Int)), (13, .int .i64 (i : Int))] ++ r) ∧ Hp w0 (row k53 53 w0.heap.size (.slice AO nO cO) (forTo s (sortT hand) i) FO :: row k51 51 w0.heap.size (.slice AT ((sortT hand).length) cT) (sortT hand) FT :: blk g #[.slice A1 s.ar.length c1, .slice A2 s.ti.length c2, .int .i64 s.sp, .int .i64 s.wt, .bool s.fi, .bool s.l0, .bool s.l1] 83 :: row k85 85 b (.slice A1 s.ar.length c1) s.ar F1 :: row k51 51 b (.slice A2 s.ti.length c2) s.ti F2 :: cs) W ∧ (i ≤ (sortT hand).length)) _ ⟨_, 0, _, _, _, _, rfl, fr_front [(0, .pointer (some ⟨g, 0, none⟩)), (5, .slice none 0 0), (11, .slice AT ((sortT hand).length) cT), (12, .int .i64 ((sortT hand).length : Int)), (13, .int .i64 0)] ⟨rfl, rfl, rfl, rfl, rfl, trivial⟩, (hp.take [0, 1, 2, 3, 4] 5 (by decide) (by simp)), Nat.zero_le _⟩ ?_
 rintro _ _ W_2 ⟨r, i, AO, nO, cO, FO, rfl, rfl, hp, hi⟩
 have hfl := forTo_len s (sortT hand) har i hi
 have hTl := sortT_len hand
 refine wp_seq ?_
 refine sx_region ?_
 refine sx_rd 14 (.bool (decide ((i : Int) < ((sortT hand).length : Int)))) (by rfl) (by kernel_rfl) ?_
 refine sx_nil ?_
 refine ex_then_n ?_
 refine wp_seq ?_
 refine sx_cond (decide ((i : Int) < ((sortT hand).length : Int))) (by rfl) (fun c_3 => ?_) (fun c_3 => ?_)
 ·
  have c_3p := of_decide_eq_true c_3
  refine wp_skip ?_
  refine ex_then_n ?_
  refine wp_seq ?_
  refine wp_block ?_
  refine wp_seq ?_
  refine sx_region ?_
  refine sx_rd 15 (.pointer (some (adr AT (i : Int) 2))) (by rfl) (ix_run (d := k51) (row_C (hp.at_ 1 _ (by rfl))) (t := 44) (by rfl) (by rfl) (by rfl) Try.underlying44 (by kernel_rfl) (by omega) (by omega)) ?_
  refine sx_rd 16 (.agg #[.int .i64 ((rd_Tile (sortT hand) (i : Int)).f0), .int .i64 ((rd_Tile (sortT hand) (i : Int)).f1)]) (by rfl) (el_run (d := k51) (row_C (hp.at_ 1 _ (by rfl))) z51 (i : Int) (by omega) (by omega) (cells := [.int .i64 ((rd_Tile (sortT hand) (i : Int)).f0), .int .i64 ((rd_Tile (sortT hand) (i : Int)).f1)]) (fun cs h => k51_open h) 0 [.int .i64 ((rd_Tile (sortT hand) (i : Int)).f0), .int .i64 ((rd_Tile (sortT hand) (i : Int)).f1)] (by rfl) (t := 51) (p := (.tmp 15)) (by rfl) (by rfl) (by kernel_rfl) (by kernel_rfl)) ?_
  refine sx_box 7 hp #[.int .i64 0, .int .i64 0] 51 (by rfl) (fun W => by kernel_rfl) ?_
  intro g_4 W_5 hp
  refine sx_store (t := 51) (p := (.tmp 7)) (x := (.tmp 16)) (by rfl) (by rfl) 0 (by rfl) 0 [.int .i64 ((rd_Tile (sortT hand) (i : Int)).f0), .int .i64 ((rd_Tile (sortT hand) (i : Int)).f1)] (by rfl) (by rfl) (by kernel_rfl) (by simp [Value.oneCell']) (by show 2 ≤ 2; omega) #[.int .i64 ((rd_Tile (sortT hand) (i : Int)).f0), .int .i64 ((rd_Tile (sortT hand) (i : Int)).f1)] (by rfl) hp ?_
  intro W_6 hp; simp only [List.set_cons_succ, List.set_cons_zero] at hp
  refine sx_nil ?_
  refine ex_then_n ?_
  refine wp_seq ?_
  refine sx_region ?_
  refine sx_rd 8 (.int .i64 0) (by rfl) (by kernel_rfl) ?_
  refine sx_nil ?_
  refine ex_then_n ?_
  refine wp_block ?_
  have e0 : forTo s (sortT hand) i = forTo s (sortT hand) i ++ armsTo s (rd_Tile (sortT hand) (i : Int)) 0 := by simp [armsTo]
  rw [e0] at hp
  refine wp_loop_ghost (fun n a W => ∃ (r : List (Nat × Value)) (j : Nat) (AP : Option Addr) (nP cP : Nat) (FP : Nat → Prop), n = 101 - j ∧ a = fr 43 ([(0, .pointer (some ⟨g, 0, none⟩)), (5, .slice AP nP cP), (7, .pointer (some ⟨g_4, 0, none⟩)), (8, .int .i64 (j : Int)), (11, .slice AT ((sortT hand).length) cT), (12, .int .i64 ((sortT hand).length : Int)), (13, .int .i64 (i : Int))] ++ r) ∧ Hp w0 (row k53 53 w0.heap.size (.slice AP nP cP) (forTo s (sortT hand) i ++ armsTo s (rd_Tile (sortT hand) (i : Int)) j) FP :: blk g_4 #[.int .i64 ((rd_Tile (sortT hand) (i : Int)).f0), .int .i64 ((rd_Tile (sortT hand) (i : Int)).f1)] 51 :: row k51 51 w0.heap.size (.slice AT ((sortT hand).length) cT) (sortT hand) FT :: blk g #[.slice A1 s.ar.length c1, .slice A2 s.ti.length c2, .int .i64 s.sp, .int .i64 s.wt, .bool s.fi, .bool s.l0, .bool s.l1] 83 :: row k85 85 b (.slice A1 s.ar.length c1) s.ar F1 :: row k51 51 b (.slice A2 s.ti.length c2) s.ti F2 :: cs) W ∧ (j ≤ max 1 s.ar.length)) _ ⟨_, 0, _, _, _, _, rfl, fr_front [(0, .pointer (some ⟨g, 0, none⟩)), (5, .slice AO nO cO), (7, .pointer (some ⟨g_4, 0, none⟩)), (8, .int .i64 0), (11, .slice AT ((sortT hand).length) cT), (12, .int .i64 ((sortT hand).length : Int)), (13, .int .i64 (i : Int))] ⟨rfl, rfl, rfl, rfl, rfl, rfl, rfl, trivial⟩, (hp.take [1, 0, 2, 3, 4, 5] 6 (by decide) (by simp)), Nat.zero_le _⟩ ?_
  rintro _ _ W_7 ⟨r, j, AP, nP, cP, FP, rfl, rfl, hp, hj⟩
  have hal := armsTo_len s (rd_Tile (sortT hand) (i : Int)) j
  refine wp_seq ?_
  refine wp_seq ?_
  rcases Bool.eq_false_or_eq_true ((j : Int) == 0) with c_8 | c_8
  ·
   have c_8p := eq_of_beq_ c_8
   refine sx_region ?_
   refine sx_rd 17 (.int .i64 (j : Int)) (by rfl) (by kernel_rfl) ?_
   refine sx_rd 18 (.bool true) (by rfl) (bv c_8 (by kernel_rfl)) ?_
   refine sx_rd 19 (.bool true) (by rfl) (by kernel_rfl) ?_
   refine sx_skip 20 (by rfl) (by rfl) (by rfl) ?_
   refine sx_skip 21 (by rfl) (by rfl) (by rfl) ?_
   refine sx_skip 22 (by rfl) (by rfl) (by rfl) ?_
   refine sx_skip 23 (by rfl) (by rfl) (by rfl) ?_
   refine sx_skip 24 (by rfl) (by rfl) (by rfl) ?_
   refine sx_skip 25 (by rfl) (by rfl) (by rfl) ?_
   refine sx_skip 26 (by rfl) (by rfl) (by rfl) ?_
   refine sx_rd 27 (.bool true) (by rfl) (by kernel_rfl) ?_
   refine sx_nil ?_
   refine ex_then_n ?_
   refine sx_then true (by rfl) rfl ?_
   refine wp_skip ?_
   refine ex_then_n ?_
   refine wp_seq ?_
   refine wp_block ?_
   refine wp_seq ?_
   refine sx_region ?_
   refine sx_rd 30 (.agg #[.int .i64 ((rd_Tile (sortT hand) (i : Int)).f0), .int .i64 ((rd_Tile (sortT hand) (i : Int)).f1)]) (by rfl) (ldn (t := 51) (p := (.tmp 7)) (by rfl) (by rfl) (by kernel_rfl) (by kernel_rfl) (by kernel_rfl) (hp.at_ 1 _ (by rfl))) ?_
   refine sx_rd 31 (.int .i64 (j : Int)) (by rfl) (by kernel_rfl) ?_
   refine sx_rd 32 (.agg #[.int .i64 ((rd_Tile (sortT hand) (i : Int)).f0), .int .i64 ((rd_Tile (sortT hand) (i : Int)).f1), .int .i64 (j : Int)]) (by rfl) (by kernel_rfl) ?_
   refine sx_box 9 hp #[.int .i64 0, .int .i64 0, .int .i64 0] 53 (by rfl) (fun W => by kernel_rfl) ?_
   intro g_9 W_10 hp
   refine sx_store (t := 53) (p := (.tmp 9)) (x := (.tmp 32)) (by rfl) (by rfl) 0 (by rfl) 0 [.int .i64 ((rd_Tile (sortT hand) (i : Int)).f0), .int .i64 ((rd_Tile (sortT hand) (i : Int)).f1), .int .i64 (j : Int)] (by rfl) (by rfl) (by kernel_rfl) (by simp [Value.oneCell']) (by show 3 ≤ 3; omega) #[.int .i64 ((rd_Tile (sortT hand) (i : Int)).f0), .int .i64 ((rd_Tile (sortT hand) (i : Int)).f1), .int .i64 (j : Int)] (by rfl) hp ?_
   intro W_11 hp; simp only [List.set_cons_succ, List.set_cons_zero] at hp
   refine sx_nil ?_
   refine ex_then_n ?_
   refine wp_seq ?_
   refine sx_draw [0] [(true, 2), (false, 1), (false, 3)] 4 (C := Hp w0 (blk g_9 #[.int .i64 ((rd_Tile (sortT hand) (i : Int)).f0), .int .i64 ((rd_Tile (sortT hand) (i : Int)).f1), .int .i64 (j : Int)] 53 :: row k53 53 w0.heap.size (.slice AP nP cP) (forTo s (sortT hand) i ++ armsTo s (rd_Tile (sortT hand) (i : Int)) j) FP :: blk g_4 #[.int .i64 ((rd_Tile (sortT hand) (i : Int)).f0), .int .i64 ((rd_Tile (sortT hand) (i : Int)).f1)] 51 :: row k51 51 w0.heap.size (.slice AT ((sortT hand).length) cT) (sortT hand) FT :: blk g #[.slice A1 s.ar.length c1, .slice A2 s.ti.length c2, .int .i64 s.sp, .int .i64 s.wt, .bool s.fi, .bool s.l0, .bool s.l1] 83 :: row k85 85 b (.slice A1 s.ar.length c1) s.ar F1 :: row k51 51 b (.slice A2 s.ti.length c2) s.ti F2 :: cs)) (by kernel_rfl) (by kernel_rfl) (fun d _ _ _ _ h => by cases d <;> exact h) (fun W h => h.drew) hp ?_
   refine preI_read rfl ?_
   refine sxq_val 33 (.pointer (some ⟨g, 0, none⟩)) (by rfl) (fun W _ => (by kernel_rfl)) ?_
   refine sxq_nil ?_
   refine preI_nil ?_
   intro W_12 hp
   refine stepsI_read rfl ?_
   refine sxq_val 35 (.agg #[.int .i64 ((rd_Tile (sortT hand) (i : Int)).f0), .int .i64 ((rd_Tile (sortT hand) (i : Int)).f1), .int .i64 (j : Int)]) (by rfl) (fun W hp => (ldn (t := 53) (p := (.tmp 9)) (by rfl) (by rfl) (by kernel_rfl) (by kernel_rfl) (by kernel_rfl) (hp.at_ 0 _ (by rfl)))) ?_
   refine sxq_nil ?_
   refine stepsI_event rfl ?_
   refine sx_call 34 (by rfl) (by kernel_rfl) ((lyCopy_sx w0 _ (blk g_9 #[.int .i64 ((rd_Tile (sortT hand) (i : Int)).f0), .int .i64 ((rd_Tile (sortT hand) (i : Int)).f1), .int .i64 (j : Int)] 53 :: row k53 53 w0.heap.size (.slice AP nP cP) (forTo s (sortT hand) i ++ armsTo s (rd_Tile (sortT hand) (i : Int)) j) FP :: blk g_4 #[.int .i64 ((rd_Tile (sortT hand) (i : Int)).f0), .int .i64 ((rd_Tile (sortT hand) (i : Int)).f1)] 51 :: row k51 51 w0.heap.size (.slice AT ((sortT hand).length) cT) (sortT hand) FT :: cs) g s A1 c1 A2 c2 b F1 F2 hti har (hp.take [4, 5, 6, 0, 1, 2, 3] 7 (by decide) (by simp))).mono ?_)
   rintro _ W_13 ⟨g2, A3, c3, F3, A4, c4, F4, rfl, hp⟩
   refine ⟨_, rfl, ?_⟩
   replace hp := (hp.take [2, 1, 0, 6, 7, 8, 9, 3, 4, 5] 10 (by decide) (by simp))
   refine step_fin hp.tail.tail.tail ?_
   refine stepsI_event rfl ?_
   refine sx_call 36 (by rfl) (by kernel_rfl) ((lyAdd_sx w0 _ (blk g_9 #[.int .i64 ((rd_Tile (sortT hand) (i : Int)).f0), .int .i64 ((rd_Tile (sortT hand) (i : Int)).f1), .int .i64 (j : Int)] 53 :: row k53 53 w0.heap.size (.slice AP nP cP) (forTo s (sortT hand) i ++ armsTo s (rd_Tile (sortT hand) (i : Int)) j) FP :: blk g_4 #[.int .i64 ((rd_Tile (sortT hand) (i : Int)).f0), .int .i64 ((rd_Tile (sortT hand) (i : Int)).f1)] 51 :: row k51 51 w0.heap.size (.slice AT ((sortT hand).length) cT) (sortT hand) FT :: blk g #[.slice A1 s.ar.length c1, .slice A2 s.ti.length c2, .int .i64 s.sp, .int .i64 s.wt, .bool s.fi, .bool s.l0, .bool s.l1] 83 :: row k85 85 b (.slice A1 s.ar.length c1) s.ar F1 :: row k51 51 b (.slice A2 s.ti.length c2) s.ti F2 :: cs) g2 s A3 c3 A4 c4 w0.heap.size F3 F4 (⟨(rd_Tile (sortT hand) (i : Int)), (j : Int)⟩ : S_Play) (Nat.le_refl _) hti har (hp.take [0, 1, 2, 3, 4, 5, 6, 7, 8, 9] 10 (by decide) (by simp))).mono ?_)
   rintro _ W_14 ⟨s', A5, c5, A6, c6, F5, F6, rfl, hs', hp⟩
   refine ⟨_, rfl, ?_⟩
   refine step_fin hp.tail.tail.tail ?_
   refine stepsI_nil ?_
   refine sx_nil ?_
   refine ex_then_n ?_
   refine sx_cond (lyCan s (⟨(rd_Tile (sortT hand) (i : Int)), (j : Int)⟩ : S_Play)) (by rfl) (fun c_15 => ?_) (fun c_15 => ?_)
   ·
    refine sx_region ?_
    refine sx_rd 37 (.slice AP nP cP) (by rfl) (by kernel_rfl) ?_
    refine sx_rd 38 (.agg #[.int .i64 ((rd_Tile (sortT hand) (i : Int)).f0), .int .i64 ((rd_Tile (sortT hand) (i : Int)).f1), .int .i64 (j : Int)]) (by rfl) (ldn (t := 53) (p := (.tmp 9)) (by rfl) (by rfl) (by kernel_rfl) (by kernel_rfl) (by kernel_rfl) (hp.at_ 3 _ (by rfl))) ?_
    refine sx_lit 39 (by rfl) k53 w0.heap.size 53 ([(⟨⟨(rd_Tile (sortT hand) (i : Int)).f0, (rd_Tile (sortT hand) (i : Int)).f1⟩, (j : Int)⟩ : S_Play)]) [.int .i64 ((rd_Tile (sortT hand) (i : Int)).f0), .int .i64 ((rd_Tile (sortT hand) (i : Int)).f1), .int .i64 (j : Int)] (fun W => by kernel_rfl) (play_reps _ _ _) (by simp) hp.size hp ?_
    intro g_16 F_17 W_18 hp hz; clear hz
    refine sx_append 40 (by rfl) k53 5 (by rfl) (.agg #[.int .i64 0, .int .i64 0, .int .i64 0]) 24 (by rfl) Try.underlying26 (by kernel_rfl) rfl (by decide) (by decide) ([(⟨⟨(rd_Tile (sortT hand) (i : Int)).f0, (rd_Tile (sortT hand) (i : Int)).f1⟩, (j : Int)⟩ : S_Play)]) (by rfl) (by rfl) (row_C (hp.at_ 0 _ (by rfl))) play_kp hp.size (by simp; omega) hp ?_
    intro A_19 c_20 F_21 W_22 hp hz; clear hz; simp only [List.set_cons_succ, List.set_cons_zero] at hp
    refine sx_rd 5 (.slice A_19 (((forTo s (sortT hand) i ++ armsTo s (rd_Tile (sortT hand) (i : Int)) j) ++ [(⟨⟨(rd_Tile (sortT hand) (i : Int)).f0, (rd_Tile (sortT hand) (i : Int)).f1⟩, (j : Int)⟩ : S_Play)]).length) c_20) (by rfl) (by kernel_rfl) ?_
    refine sx_nil ?_
    refine ex_blk_n ?_
    refine ex_then_n ?_
    refine sx_region ?_
    refine sx_rd 28 (.int .i64 (j : Int)) (by rfl) (by kernel_rfl) ?_
    refine sx_rd 29 (.int .i64 ((j : Int) + 1)) (by rfl) (wr_ok (by omega) (by kernel_rfl)) ?_
    refine sx_rd 8 (.int .i64 ((j : Int) + 1)) (by rfl) (by kernel_rfl) ?_
    refine sx_nil ?_
    refine ex_then_n ?_
    have hnj : ((forTo s (sortT hand) i ++ armsTo s (rd_Tile (sortT hand) (i : Int)) j) ++ [(⟨⟨(rd_Tile (sortT hand) (i : Int)).f0, (rd_Tile (sortT hand) (i : Int)).f1⟩, (j : Int)⟩ : S_Play)]) = forTo s (sortT hand) i ++ armsTo s (rd_Tile (sortT hand) (i : Int)) (j + 1) := by rw [armsTo_next, c_15]; simp
    rw [hnj] at hp
    exact ⟨_, (show 101 - (j + 1) < 101 - j by omega), _, j + 1, _, _, _, _, rfl, fr_front [(0, .pointer (some ⟨g, 0, none⟩)), (5, .slice A_19 ((forTo s (sortT hand) i ++ armsTo s (rd_Tile (sortT hand) (i : Int)) (j + 1)).length) c_20), (7, .pointer (some ⟨g_4, 0, none⟩)), (8, .int .i64 ((j + 1 : Nat) : Int)), (11, .slice AT ((sortT hand).length) cT), (12, .int .i64 ((sortT hand).length : Int)), (13, .int .i64 (i : Int))] ⟨rfl, congrArg (fun z : List S_Play => Value.slice A_19 z.length c_20) hnj, rfl, rfl, rfl, rfl, rfl, trivial⟩, (hp.take [5, 6, 7, 8, 9, 10] 11 (by decide) (by simp)), (by omega)⟩
   ·
    refine wp_skip ?_
    refine ex_blk_n ?_
    refine ex_then_n ?_
    refine sx_region ?_
    refine sx_rd 28 (.int .i64 (j : Int)) (by rfl) (by kernel_rfl) ?_
    refine sx_rd 29 (.int .i64 ((j : Int) + 1)) (by rfl) (wr_ok (by omega) (by kernel_rfl)) ?_
    refine sx_rd 8 (.int .i64 ((j : Int) + 1)) (by rfl) (by kernel_rfl) ?_
    refine sx_nil ?_
    refine ex_then_n ?_
    have hnj : (forTo s (sortT hand) i ++ armsTo s (rd_Tile (sortT hand) (i : Int)) j) = forTo s (sortT hand) i ++ armsTo s (rd_Tile (sortT hand) (i : Int)) (j + 1) := by rw [armsTo_next, c_15]; simp
    rw [hnj] at hp
    exact ⟨_, (show 101 - (j + 1) < 101 - j by omega), _, j + 1, _, _, _, _, rfl, fr_front [(0, .pointer (some ⟨g, 0, none⟩)), (5, .slice AP nP cP), (7, .pointer (some ⟨g_4, 0, none⟩)), (8, .int .i64 ((j + 1 : Nat) : Int)), (11, .slice AT ((sortT hand).length) cT), (12, .int .i64 ((sortT hand).length : Int)), (13, .int .i64 (i : Int))] ⟨rfl, rfl, rfl, rfl, rfl, rfl, rfl, trivial⟩, (hp.take [4, 5, 6, 7, 8, 9] 10 (by decide) (by simp)), (by omega)⟩
  ·
   have c_8p := ne_of_beq_ c_8
   refine sx_region ?_
   refine sx_rd 17 (.int .i64 (j : Int)) (by rfl) (by kernel_rfl) ?_
   refine sx_rd 18 (.bool false) (by rfl) (bv c_8 (by kernel_rfl)) ?_
   refine sx_rd 19 (.bool false) (by rfl) (by kernel_rfl) ?_
   refine sx_want (by rfl) ?_
   refine sx_rd 20 (.int .i64 (j : Int)) (by rfl) (by kernel_rfl) ?_
   refine sx_want (by rfl) ?_
   refine sx_rd 21 (.pointer (some ⟨g, 0, none⟩)) (by rfl) (by kernel_rfl) ?_
   refine sx_want (by rfl) ?_
   refine sx_rd 22 (.pointer (some ⟨g, 0, none⟩)) (by rfl) (by kernel_rfl) ?_
   refine sx_want (by rfl) ?_
   refine sx_rd 23 (.pointer (some ⟨g, 0, none⟩)) (by rfl) (by kernel_rfl) ?_
   refine sx_want (by rfl) ?_
   refine sx_rd 24 (.slice A1 s.ar.length c1) (by rfl) (ld1 (t := 67) (p := (.tmp 23)) (by rfl) (by rfl) (by kernel_rfl) (hp.cell 3 (by rfl) 0 _ (by rfl))) ?_
   refine sx_want (by rfl) ?_
   refine sx_rd 25 (.int .i64 (s.ar.length : Int)) (by rfl) (by kernel_rfl) ?_
   refine sx_want (by rfl) ?_
   refine sx_rd 26 (.bool (decide ((j : Int) < (s.ar.length : Int)))) (by rfl) (by kernel_rfl) ?_
   refine sx_rd 27 (.bool (decide ((j : Int) < (s.ar.length : Int)))) (by rfl) (by kernel_rfl) ?_
   refine sx_nil ?_
   refine ex_then_n ?_
   refine sx_cond (decide ((j : Int) < (s.ar.length : Int))) (by rfl) (fun c_23 => ?_) (fun c_23 => ?_)
   ·
    have c_23p := of_decide_eq_true c_23
    refine wp_skip ?_
    refine ex_then_n ?_
    refine wp_seq ?_
    refine wp_block ?_
    refine wp_seq ?_
    refine sx_region ?_
    refine sx_rd 30 (.agg #[.int .i64 ((rd_Tile (sortT hand) (i : Int)).f0), .int .i64 ((rd_Tile (sortT hand) (i : Int)).f1)]) (by rfl) (ldn (t := 51) (p := (.tmp 7)) (by rfl) (by rfl) (by kernel_rfl) (by kernel_rfl) (by kernel_rfl) (hp.at_ 1 _ (by rfl))) ?_
    refine sx_rd 31 (.int .i64 (j : Int)) (by rfl) (by kernel_rfl) ?_
    refine sx_rd 32 (.agg #[.int .i64 ((rd_Tile (sortT hand) (i : Int)).f0), .int .i64 ((rd_Tile (sortT hand) (i : Int)).f1), .int .i64 (j : Int)]) (by rfl) (by kernel_rfl) ?_
    refine sx_box 9 hp #[.int .i64 0, .int .i64 0, .int .i64 0] 53 (by rfl) (fun W => by kernel_rfl) ?_
    intro g_24 W_25 hp
    refine sx_store (t := 53) (p := (.tmp 9)) (x := (.tmp 32)) (by rfl) (by rfl) 0 (by rfl) 0 [.int .i64 ((rd_Tile (sortT hand) (i : Int)).f0), .int .i64 ((rd_Tile (sortT hand) (i : Int)).f1), .int .i64 (j : Int)] (by rfl) (by rfl) (by kernel_rfl) (by simp [Value.oneCell']) (by show 3 ≤ 3; omega) #[.int .i64 ((rd_Tile (sortT hand) (i : Int)).f0), .int .i64 ((rd_Tile (sortT hand) (i : Int)).f1), .int .i64 (j : Int)] (by rfl) hp ?_
    intro W_26 hp; simp only [List.set_cons_succ, List.set_cons_zero] at hp
    refine sx_nil ?_
    refine ex_then_n ?_
    refine wp_seq ?_
    refine sx_draw [0] [(true, 2), (false, 1), (false, 3)] 4 (C := Hp w0 (blk g_24 #[.int .i64 ((rd_Tile (sortT hand) (i : Int)).f0), .int .i64 ((rd_Tile (sortT hand) (i : Int)).f1), .int .i64 (j : Int)] 53 :: row k53 53 w0.heap.size (.slice AP nP cP) (forTo s (sortT hand) i ++ armsTo s (rd_Tile (sortT hand) (i : Int)) j) FP :: blk g_4 #[.int .i64 ((rd_Tile (sortT hand) (i : Int)).f0), .int .i64 ((rd_Tile (sortT hand) (i : Int)).f1)] 51 :: row k51 51 w0.heap.size (.slice AT ((sortT hand).length) cT) (sortT hand) FT :: blk g #[.slice A1 s.ar.length c1, .slice A2 s.ti.length c2, .int .i64 s.sp, .int .i64 s.wt, .bool s.fi, .bool s.l0, .bool s.l1] 83 :: row k85 85 b (.slice A1 s.ar.length c1) s.ar F1 :: row k51 51 b (.slice A2 s.ti.length c2) s.ti F2 :: cs)) (by kernel_rfl) (by kernel_rfl) (fun d _ _ _ _ h => by cases d <;> exact h) (fun W h => h.drew) hp ?_
    refine preI_read rfl ?_
    refine sxq_val 33 (.pointer (some ⟨g, 0, none⟩)) (by rfl) (fun W _ => (by kernel_rfl)) ?_
    refine sxq_nil ?_
    refine preI_nil ?_
    intro W_27 hp
    refine stepsI_read rfl ?_
    refine sxq_val 35 (.agg #[.int .i64 ((rd_Tile (sortT hand) (i : Int)).f0), .int .i64 ((rd_Tile (sortT hand) (i : Int)).f1), .int .i64 (j : Int)]) (by rfl) (fun W hp => (ldn (t := 53) (p := (.tmp 9)) (by rfl) (by rfl) (by kernel_rfl) (by kernel_rfl) (by kernel_rfl) (hp.at_ 0 _ (by rfl)))) ?_
    refine sxq_nil ?_
    refine stepsI_event rfl ?_
    refine sx_call 34 (by rfl) (by kernel_rfl) ((lyCopy_sx w0 _ (blk g_24 #[.int .i64 ((rd_Tile (sortT hand) (i : Int)).f0), .int .i64 ((rd_Tile (sortT hand) (i : Int)).f1), .int .i64 (j : Int)] 53 :: row k53 53 w0.heap.size (.slice AP nP cP) (forTo s (sortT hand) i ++ armsTo s (rd_Tile (sortT hand) (i : Int)) j) FP :: blk g_4 #[.int .i64 ((rd_Tile (sortT hand) (i : Int)).f0), .int .i64 ((rd_Tile (sortT hand) (i : Int)).f1)] 51 :: row k51 51 w0.heap.size (.slice AT ((sortT hand).length) cT) (sortT hand) FT :: cs) g s A1 c1 A2 c2 b F1 F2 hti har (hp.take [4, 5, 6, 0, 1, 2, 3] 7 (by decide) (by simp))).mono ?_)
    rintro _ W_28 ⟨g2, A3, c3, F3, A4, c4, F4, rfl, hp⟩
    refine ⟨_, rfl, ?_⟩
    replace hp := (hp.take [2, 1, 0, 6, 7, 8, 9, 3, 4, 5] 10 (by decide) (by simp))
    refine step_fin hp.tail.tail.tail ?_
    refine stepsI_event rfl ?_
    refine sx_call 36 (by rfl) (by kernel_rfl) ((lyAdd_sx w0 _ (blk g_24 #[.int .i64 ((rd_Tile (sortT hand) (i : Int)).f0), .int .i64 ((rd_Tile (sortT hand) (i : Int)).f1), .int .i64 (j : Int)] 53 :: row k53 53 w0.heap.size (.slice AP nP cP) (forTo s (sortT hand) i ++ armsTo s (rd_Tile (sortT hand) (i : Int)) j) FP :: blk g_4 #[.int .i64 ((rd_Tile (sortT hand) (i : Int)).f0), .int .i64 ((rd_Tile (sortT hand) (i : Int)).f1)] 51 :: row k51 51 w0.heap.size (.slice AT ((sortT hand).length) cT) (sortT hand) FT :: blk g #[.slice A1 s.ar.length c1, .slice A2 s.ti.length c2, .int .i64 s.sp, .int .i64 s.wt, .bool s.fi, .bool s.l0, .bool s.l1] 83 :: row k85 85 b (.slice A1 s.ar.length c1) s.ar F1 :: row k51 51 b (.slice A2 s.ti.length c2) s.ti F2 :: cs) g2 s A3 c3 A4 c4 w0.heap.size F3 F4 (⟨(rd_Tile (sortT hand) (i : Int)), (j : Int)⟩ : S_Play) (Nat.le_refl _) hti har (hp.take [0, 1, 2, 3, 4, 5, 6, 7, 8, 9] 10 (by decide) (by simp))).mono ?_)
    rintro _ W_29 ⟨s', A5, c5, A6, c6, F5, F6, rfl, hs', hp⟩
    refine ⟨_, rfl, ?_⟩
    refine step_fin hp.tail.tail.tail ?_
    refine stepsI_nil ?_
    refine sx_nil ?_
    refine ex_then_n ?_
    refine sx_cond (lyCan s (⟨(rd_Tile (sortT hand) (i : Int)), (j : Int)⟩ : S_Play)) (by rfl) (fun c_30 => ?_) (fun c_30 => ?_)
    ·
     refine sx_region ?_
     refine sx_rd 37 (.slice AP nP cP) (by rfl) (by kernel_rfl) ?_
     refine sx_rd 38 (.agg #[.int .i64 ((rd_Tile (sortT hand) (i : Int)).f0), .int .i64 ((rd_Tile (sortT hand) (i : Int)).f1), .int .i64 (j : Int)]) (by rfl) (ldn (t := 53) (p := (.tmp 9)) (by rfl) (by rfl) (by kernel_rfl) (by kernel_rfl) (by kernel_rfl) (hp.at_ 3 _ (by rfl))) ?_
     refine sx_lit 39 (by rfl) k53 w0.heap.size 53 ([(⟨⟨(rd_Tile (sortT hand) (i : Int)).f0, (rd_Tile (sortT hand) (i : Int)).f1⟩, (j : Int)⟩ : S_Play)]) [.int .i64 ((rd_Tile (sortT hand) (i : Int)).f0), .int .i64 ((rd_Tile (sortT hand) (i : Int)).f1), .int .i64 (j : Int)] (fun W => by kernel_rfl) (play_reps _ _ _) (by simp) hp.size hp ?_
     intro g_31 F_32 W_33 hp hz; clear hz
     refine sx_append 40 (by rfl) k53 5 (by rfl) (.agg #[.int .i64 0, .int .i64 0, .int .i64 0]) 24 (by rfl) Try.underlying26 (by kernel_rfl) rfl (by decide) (by decide) ([(⟨⟨(rd_Tile (sortT hand) (i : Int)).f0, (rd_Tile (sortT hand) (i : Int)).f1⟩, (j : Int)⟩ : S_Play)]) (by rfl) (by rfl) (row_C (hp.at_ 0 _ (by rfl))) play_kp hp.size (by simp; omega) hp ?_
     intro A_34 c_35 F_36 W_37 hp hz; clear hz; simp only [List.set_cons_succ, List.set_cons_zero] at hp
     refine sx_rd 5 (.slice A_34 (((forTo s (sortT hand) i ++ armsTo s (rd_Tile (sortT hand) (i : Int)) j) ++ [(⟨⟨(rd_Tile (sortT hand) (i : Int)).f0, (rd_Tile (sortT hand) (i : Int)).f1⟩, (j : Int)⟩ : S_Play)]).length) c_35) (by rfl) (by kernel_rfl) ?_
     refine sx_nil ?_
     refine ex_blk_n ?_
     refine ex_then_n ?_
     refine sx_region ?_
     refine sx_rd 28 (.int .i64 (j : Int)) (by rfl) (by kernel_rfl) ?_
     refine sx_rd 29 (.int .i64 ((j : Int) + 1)) (by rfl) (wr_ok (by omega) (by kernel_rfl)) ?_
     refine sx_rd 8 (.int .i64 ((j : Int) + 1)) (by rfl) (by kernel_rfl) ?_
     refine sx_nil ?_
     refine ex_then_n ?_
     have hnj : ((forTo s (sortT hand) i ++ armsTo s (rd_Tile (sortT hand) (i : Int)) j) ++ [(⟨⟨(rd_Tile (sortT hand) (i : Int)).f0, (rd_Tile (sortT hand) (i : Int)).f1⟩, (j : Int)⟩ : S_Play)]) = forTo s (sortT hand) i ++ armsTo s (rd_Tile (sortT hand) (i : Int)) (j + 1) := by rw [armsTo_next, c_30]; simp
     rw [hnj] at hp
     exact ⟨_, (show 101 - (j + 1) < 101 - j by omega), _, j + 1, _, _, _, _, rfl, fr_front [(0, .pointer (some ⟨g, 0, none⟩)), (5, .slice A_34 ((forTo s (sortT hand) i ++ armsTo s (rd_Tile (sortT hand) (i : Int)) (j + 1)).length) c_35), (7, .pointer (some ⟨g_4, 0, none⟩)), (8, .int .i64 ((j + 1 : Nat) : Int)), (11, .slice AT ((sortT hand).length) cT), (12, .int .i64 ((sortT hand).length : Int)), (13, .int .i64 (i : Int))] ⟨rfl, congrArg (fun z : List S_Play => Value.slice A_34 z.length c_35) hnj, rfl, rfl, rfl, rfl, rfl, trivial⟩, (hp.take [5, 6, 7, 8, 9, 10] 11 (by decide) (by simp)), (by omega)⟩
    ·
     refine wp_skip ?_
     refine ex_blk_n ?_
     refine ex_then_n ?_
     refine sx_region ?_
     refine sx_rd 28 (.int .i64 (j : Int)) (by rfl) (by kernel_rfl) ?_
     refine sx_rd 29 (.int .i64 ((j : Int) + 1)) (by rfl) (wr_ok (by omega) (by kernel_rfl)) ?_
     refine sx_rd 8 (.int .i64 ((j : Int) + 1)) (by rfl) (by kernel_rfl) ?_
     refine sx_nil ?_
     refine ex_then_n ?_
     have hnj : (forTo s (sortT hand) i ++ armsTo s (rd_Tile (sortT hand) (i : Int)) j) = forTo s (sortT hand) i ++ armsTo s (rd_Tile (sortT hand) (i : Int)) (j + 1) := by rw [armsTo_next, c_30]; simp
     rw [hnj] at hp
     exact ⟨_, (show 101 - (j + 1) < 101 - j by omega), _, j + 1, _, _, _, _, rfl, fr_front [(0, .pointer (some ⟨g, 0, none⟩)), (5, .slice AP nP cP), (7, .pointer (some ⟨g_4, 0, none⟩)), (8, .int .i64 ((j + 1 : Nat) : Int)), (11, .slice AT ((sortT hand).length) cT), (12, .int .i64 ((sortT hand).length : Int)), (13, .int .i64 (i : Int))] ⟨rfl, rfl, rfl, rfl, rfl, rfl, rfl, trivial⟩, (hp.take [4, 5, 6, 7, 8, 9] 10 (by decide) (by simp)), (by omega)⟩
   ·
    have c_23p := of_decide_eq_false c_23
    refine wp_exit ?_
    refine ex_then_e (ex_then_e (ex_blk_here ?_))
    refine ex_blk_n ?_
    refine ex_then_n ?_
    refine sx_region ?_
    refine sx_rd 41 (.int .i64 ((i : Int) + 1)) (by rfl) (wr_ok (by omega) (by kernel_rfl)) ?_
    refine sx_rd 13 (.int .i64 ((i : Int) + 1)) (by rfl) (by kernel_rfl) ?_
    refine sx_nil ?_
    refine ex_then_n ?_
    have hnx : (forTo s (sortT hand) i ++ armsTo s (rd_Tile (sortT hand) (i : Int)) j) = forTo s (sortT hand) (i + 1) := by rw [forTo_next s _ i (by omega)]; unfold forTile; rw [show max 1 s.ar.length = j by omega]
    rw [hnx] at hp
    exact ⟨_, (show (sortT hand).length - (i + 1) < (sortT hand).length - i by omega), _, i + 1, _, _, _, _, rfl, fr_front [(0, .pointer (some ⟨g, 0, none⟩)), (5, .slice AP nP cP), (11, .slice AT ((sortT hand).length) cT), (12, .int .i64 ((sortT hand).length : Int)), (13, .int .i64 ((i + 1 : Nat) : Int))] ⟨rfl, rfl, rfl, rfl, rfl, trivial⟩, (hp.take [0, 2, 3, 4, 5] 6 (by decide) (by simp)), (by omega)⟩
 ·
  have c_3p := of_decide_eq_false c_3
  refine wp_exit ?_
  refine ex_then_e (ex_then_e (ex_blk_here ?_))
  refine ex_then_n ?_
  refine wp_seq ?_
  refine sx_region ?_
  refine sx_rd 42 (.slice AO nO cO) (by rfl) (by kernel_rfl) ?_
  refine sx_rd 4 (.slice AO nO cO) (by rfl) (by kernel_rfl) ?_
  refine sx_nil ?_
  refine ex_then_n ?_
  refine wp_ret ?_
  refine sx_end (.slice AO nO cO) (res1 4 (by rfl)) ?_
  obtain rfl : i = (sortT hand).length := by omega
  have hfin : forTo s (sortT hand) (sortT hand).length = lyForF s hand := by unfold forTo lyForF; rw [List.take_length]
  exact ⟨_, _, _, _, hfin, rfl, (hp.take [0, 2, 3, 4] 5 (by decide) (by simp))⟩
end Go.Proofs.Ytlphnpinpflaaaa.Hd
