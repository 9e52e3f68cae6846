/- impl.laidOut's recursion with the closure of windows, by hand. -/
import Derived.Test.YtbkaedmabdgdhaaMDelete
import Derived.Test.YtbkaedmabdgdhaaMSx3
import Derived.Test.YtbkaedmabdgdhaaPWinA
import Derived.Test.YtbkaedmabdgdhaaMSxW
import Derived.Test.YtbkaedmabdgdhaaMSx2
import Derived.Test.YtbkaedmabdgdhaaMTileR
namespace Go.Proofs.Ytbkaedmabdgdhaa.Hd
open Go.RowKit Go.Proofs.Ytbkaedmabdgdhaa.Pure Go.Proofs.YtbkaedmabdgdhaaW.PrintWords Go.Proofs.YtbkaedmabdgdhaaW.PrintLast Go.Proofs.YtbkaedmabdgdhaaW.PrintMore
set_option linter.unusedVariables false
set_option linter.unusedSimpArgs false
set_option maxRecDepth 100000 in
set_option maxHeartbeats 40000000 in
theorem keep_sx (gO : Nat) (w0 W : World) (cs : List Chunk) (out : List (List Int)) (Ao : Option Addr) (co : Nat) (Fo : Nat → Prop) (l : List Int) (Al : Option Addr) (cl : Nat) (Fl : Nat → Prop) (hl8 : l.length = 8) (h9 : ∀ x ∈ l, 0 ≤ x ∧ x ≤ 9) (hn : out.length ≤ 1000000) (hp : Hp w0 (row (Kd.int .i64) 3 w0.heap.size (.slice Al l.length cl) l Fl :: blk gO #[.slice Ao out.length co] 30 :: rowS (Kd.slice 3 (Kd.int .i64)) 39 w0.heap.size (.slice Ao out.length co) out Fo :: cs) W) :
    Calls Try.prog 55 #[.slice Al l.length cl, .pointer (some ⟨gO, 0, none⟩)] W fun e W' => ∃ A' c' F', e = .returned (.tuple #[]) ∧ Hp w0 (blk gO #[.slice A' ((stepW out l).length) c'] 30 :: rowS (Kd.slice 3 (Kd.int .i64)) 39 w0.heap.size (.slice A' ((stepW out l).length) c') (stepW out l) F' :: cs) W' := by
  refine sx_enter (N := 15) (l := [.slice Al l.length cl, .pointer (some ⟨gO, 0, none⟩)]) Try.func55 rfl rfl rfl ?_
  refine wp_seq ?_
  rcases Bool.eq_false_or_eq_true (one (sid l)) with c_1 | c_1
  ·
    refine sx_region ?_
    refine sx_rd 3 (.slice Al l.length cl) (by rfl) (by kernel_rfl) ?_
    obtain ⟨k_2, hk_k_2⟩ := Ev.rounds (isFair_ev l hl8 h9)
    refine sx_call 4 (by rfl) (by kernel_rfl) ((impl_isFair.calls k_2 Al cl l _ _ (row_C (hp.at_ 0 _ (by rfl))) (row_len (hp.at_ 0 _ (by rfl))).2 hk_k_2).mono ?_)
    rintro _ W_3 ⟨rfl, hb⟩
    refine ⟨.bool true, congrArg (fun b => Ending.returned (.bool b)) c_1, ?_⟩
    replace hp := hp.below hb
    clear hb
    refine sx_rd 5 (.bool true) (by rfl) (by kernel_rfl) ?_
    refine sx_want (by rfl) ?_
    refine sx_rd 6 (.slice Al l.length cl) (by rfl) (by kernel_rfl) ?_
    refine sx_want (by rfl) ?_
    obtain ⟨k_4, hk_k_4⟩ := Ev.rounds (leastWindow_ev l hl8)
    refine sx_call 7 (by rfl) (by kernel_rfl) ((impl_leastWindow.calls k_4 Al cl l _ _ (row_C (hp.at_ 0 _ (by rfl))) (row_len (hp.at_ 0 _ (by rfl))).2 hk_k_4).mono ?_)
    rintro _ W_10 ⟨v_6, rfl, hR_5, hb⟩
    refine ⟨_, rfl, ?_⟩
    obtain ⟨A_7, c_8, rfl, hcc_c_8, _⟩ := Kd.R_reads hR_5
    obtain ⟨F_9, hp⟩ : ∃ F, Hp w0 (row (Kd.int .i64) 3 w0.heap.size (.slice A_7 (leastW l 3 1 l).length c_8) (leastW l 3 1 l) F :: row (Kd.int .i64) 3 w0.heap.size (.slice Al l.length cl) l Fl :: blk gO #[.slice Ao out.length co] 30 :: rowS (Kd.slice 3 (Kd.int .i64)) 39 w0.heap.size (.slice Ao out.length co) out Fo :: cs) _ := ⟨_, Hp.made hp hb hR_5⟩
    refine sx_want (by rfl) ?_
    refine sx_rd 8 (.slice Al l.length cl) (by rfl) (by kernel_rfl) ?_
    refine sx_want (by rfl) ?_
    obtain ⟨k_11, hk_k_11⟩ := Ev.rounds (equalI_ev _ _ (by rw [leastW_len l hl8 3 1 l (by omega) hl8]; omega))
    refine sx_call 9 (by rfl) (by kernel_rfl) ((slices_Equal_int_int.calls k_11 A_7 c_8 (leastW l 3 1 l) Al cl l _ _ (row_C (hp.at_ 0 _ (by rfl))) (row_len (hp.at_ 0 _ (by rfl))).2 (row_C (hp.at_ 1 _ (by rfl))) (row_len (hp.at_ 1 _ (by rfl))).2 hk_k_11).mono ?_)
    rintro _ W_12 ⟨rfl, hb⟩
    refine ⟨_, rfl, ?_⟩
    replace hp := hp.below hb.below
    clear hb
    refine sx_rd 10 (.bool (decide (leastW l 3 1 l = l))) (by rfl) (by kernel_rfl) ?_
    refine sx_nil ?_
    refine ex_then_n ?_
    refine sx_cond (decide (leastW l 3 1 l = l)) (by rfl) (fun c_13 => ?_) (fun c_13 => ?_)
    ·
      have c_13p := of_decide_eq_true c_13
      refine sx_region ?_
      refine sx_rd 11 (.slice Ao out.length co) (by rfl) (ld1 (t := 30) (p := (.tmp 1)) (by rfl) (by rfl) (by kernel_rfl) (hp.cell 2 (by rfl) 0 _ (by rfl))) ?_
      refine sx_rd 12 (.slice Al l.length cl) (by rfl) (by kernel_rfl) ?_
      have hp := (hp.take [3, 1, 0, 2] 4 (by decide) (by simp))
      refine sx_pushS 13 14 (by rfl) (by rfl) (fun W => by kernel_rfl) (t := 30) (.slice none 0 0) 24 (by rfl) Try.underlying30 (by kernel_rfl) rfl (by decide) (by rfl) (by rfl) hp.size (by omega) hp ?_
      intro A_14 c_15 F_16 W_17 hp
      refine sx_store (t := 30) (p := (.tmp 1)) (x := (.tmp 14)) (by rfl) (by rfl) 2 (by rfl) 0 [.slice A_14 ((out ++ [l]).length) c_15] (by rfl) (by rfl) (by kernel_rfl) (by simp [Value.oneCell']) (by show 1 ≤ 1; omega) #[.slice A_14 ((out ++ [l]).length) c_15] (by rfl) hp ?_
      intro W_18 hp; simp only [List.set_cons_succ, List.set_cons_zero] at hp
      refine sx_nil ?_
      refine sx_end_n (.tuple #[]) (res0 (by rfl)) ?_
      have hs : stepW out l = (out ++ [l]) := by unfold stepW keepW; simp [c_1, c_13]
      rw [hs]
      exact ⟨_, _, _, rfl, (hp.take [2, 0] 3 (by decide) (by simp))⟩
    ·
      have c_13p := of_decide_eq_false c_13
      refine wp_skip ?_
      refine sx_end_n (.tuple #[]) (res0 (by rfl)) ?_
      have hs : stepW out l = out := by unfold stepW keepW; simp [c_1, c_13]
      rw [hs]
      exact ⟨_, _, _, rfl, (hp.take [2, 3] 4 (by decide) (by simp))⟩
  ·
    refine sx_region ?_
    refine sx_rd 3 (.slice Al l.length cl) (by rfl) (by kernel_rfl) ?_
    obtain ⟨k_19, hk_k_19⟩ := Ev.rounds (isFair_ev l hl8 h9)
    refine sx_call 4 (by rfl) (by kernel_rfl) ((impl_isFair.calls k_19 Al cl l _ _ (row_C (hp.at_ 0 _ (by rfl))) (row_len (hp.at_ 0 _ (by rfl))).2 hk_k_19).mono ?_)
    rintro _ W_20 ⟨rfl, hb⟩
    refine ⟨.bool false, congrArg (fun b => Ending.returned (.bool b)) c_1, ?_⟩
    replace hp := hp.below hb
    clear hb
    refine sx_rd 5 (.bool false) (by rfl) (by kernel_rfl) ?_
    refine sx_skip 6 (by rfl) (by rfl) (by rfl) ?_
    refine sx_skip 7 (by rfl) (by rfl) (by rfl) ?_
    refine sx_skip 8 (by rfl) (by rfl) (by rfl) ?_
    refine sx_skip 9 (by rfl) (by rfl) (by rfl) ?_
    refine sx_rd 10 (.bool false) (by rfl) (by kernel_rfl) ?_
    refine sx_nil ?_
    refine ex_then_n ?_
    refine sx_else false (by rfl) rfl ?_
    refine wp_skip ?_
    refine sx_end_n (.tuple #[]) (res0 (by rfl)) ?_
    have hs : stepW out l = out := by unfold stepW keepW; simp [c_1]
    rw [hs]
    exact ⟨_, _, _, rfl, (hp.take [1, 2] 3 (by decide) (by simp))⟩
end Go.Proofs.Ytbkaedmabdgdhaa.Hd
namespace Go.Proofs.Ytbkaedmabdgdhaa.Hd
open Go.RowKit Go.Proofs.Ytbkaedmabdgdhaa.Pure Go.Proofs.YtbkaedmabdgdhaaW.PrintWords Go.Proofs.YtbkaedmabdgdhaaW.PrintLast Go.Proofs.YtbkaedmabdgdhaaW.PrintMore
set_option linter.unusedVariables false
set_option linter.unusedSimpArgs false
set_option maxRecDepth 100000 in
set_option maxHeartbeats 40000000 in
theorem add_sx (gO gN gE gA : Nat) : ∀ (n : Nat) (w0 W : World) (cs : List Chunk) (l : List Int) (Al : Option Addr) (cl : Nat) (Fl : Nat → Prop) (H : List S_Tile) (AH : Option Addr) (cH : Nat) (hHn : H.length = n) (hok : ∀ t ∈ H, goodT t = true) (h9 : ∀ x ∈ l, 0 ≤ x ∧ x ≤ 9) (hl8 : l.length + 2 * n ≤ 1000000) (hev : l.length % 2 = 0) (hcH : H.length ≤ cH)
  (hH : ∀ W, Hp w0 cs W → Kd.C k50 W AH H.length H) (out : List (List Int)) (Ao : Option Addr) (co : Nat) (Fo : Nat → Prop) (hbd : ((walkL stepW 4 n l H out)).length ≤ 1000000) (hp : Hp w0 (row (Kd.int .i64) 3 w0.heap.size (.slice Al l.length cl) l Fl :: blk gO #[.slice Ao out.length co] 30 :: rowS (Kd.slice 3 (Kd.int .i64)) 39 w0.heap.size (.slice Ao out.length co) out Fo :: blk gN #[.int .i64 4] 3 :: blk gE #[.func (.func 55) #[] #[.pointer (some ⟨gO, 0, none⟩)]] 59 :: blk gA #[.func (.func 77) #[] #[.pointer (some ⟨gN, 0, none⟩), .pointer (some ⟨gE, 0, none⟩), .pointer (some ⟨gA, 0, none⟩)]] 86 :: cs) W),
  Calls Try.prog 77 #[.slice Al l.length cl, .slice AH H.length cH, .pointer (some ⟨gN, 0, none⟩), .pointer (some ⟨gE, 0, none⟩), .pointer (some ⟨gA, 0, none⟩)] W fun e W' => ∃ A' c' F', e = .returned (.tuple #[]) ∧ Hp w0 (blk gO #[.slice A' ((walkL stepW 4 n l H out).length) c'] 30 :: rowS (Kd.slice 3 (Kd.int .i64)) 39 w0.heap.size (.slice A' ((walkL stepW 4 n l H out).length) c') (walkL stepW 4 n l H out) F' :: blk gN #[.int .i64 4] 3 :: blk gE #[.func (.func 55) #[] #[.pointer (some ⟨gO, 0, none⟩)]] 59 :: blk gA #[.func (.func 77) #[] #[.pointer (some ⟨gN, 0, none⟩), .pointer (some ⟨gE, 0, none⟩), .pointer (some ⟨gA, 0, none⟩)]] 86 :: cs) W' := by
 intro n
 induction n using Nat.strongRecOn with
 | ind n ih =>
  intro w0 W cs l Al cl Fl H AH cH hHn hok h9 hl8 hev hcH hH out Ao co Fo hbd hp
  refine sx_enter (N := 57) (l := [.slice Al l.length cl, .slice AH H.length cH, .pointer (some ⟨gN, 0, none⟩), .pointer (some ⟨gE, 0, none⟩), .pointer (some ⟨gA, 0, none⟩)]) Try.func77 rfl rfl rfl ?_
  refine wp_seq ?_
  refine wp_seq ?_
  refine sx_region ?_
  refine sx_rd 10 (.slice Al l.length cl) (by rfl) (by kernel_rfl) ?_
  refine sx_rd 11 (.int .i64 (l.length : Int)) (by rfl) (by kernel_rfl) ?_
  refine sx_rd 12 (.int .i64 4) (by rfl) (ld1 (t := 3) (p := (.tmp 2)) (by rfl) (by rfl) (by kernel_rfl) (hp.cell 3 (by rfl) 0 _ (by rfl))) ?_
  refine sx_rd 13 (.int .i64 8) (by rfl) (by kernel_rfl) ?_
  refine sx_rd 14 (.bool ((l.length : Int) == 8)) (by rfl) (by kernel_rfl) ?_
  refine sx_nil ?_
  refine ex_then_n ?_
  refine sx_cond ((l.length : Int) == 8) (by rfl) (fun c_1 => ?_) (fun c_1 => ?_)
  ·
   have c_1p := eq_of_beq_ c_1
   refine wp_seq ?_
   refine sx_region ?_
   refine sx_rd 15 (.func (.func 55) #[] #[.pointer (some ⟨gO, 0, none⟩)]) (by rfl) (ld1 (t := 59) (p := (.tmp 3)) (by rfl) (by rfl) (by kernel_rfl) (hp.cell 4 (by rfl) 0 _ (by rfl))) ?_
   refine sx_rd 16 (.slice Al l.length cl) (by rfl) (by kernel_rfl) ?_
   refine sx_call 17 (by rfl) (by kernel_rfl) ((keep_sx gO w0 _ (blk gN #[.int .i64 4] 3 :: blk gE #[.func (.func 55) #[] #[.pointer (some ⟨gO, 0, none⟩)]] 59 :: blk gA #[.func (.func 77) #[] #[.pointer (some ⟨gN, 0, none⟩), .pointer (some ⟨gE, 0, none⟩), .pointer (some ⟨gA, 0, none⟩)]] 86 :: cs) out Ao co Fo l Al cl Fl (by omega) h9 (Nat.le_trans (stepW_len out l).1 (by rw [← walkL_end stepW 4 n l H out (by omega)]; exact hbd)) (hp.take [0, 1, 2, 3, 4, 5] 6 (by decide) (by simp))).mono ?_)
   rintro _ W_2 ⟨A2, c2, F2, rfl, hp⟩
   refine ⟨_, rfl, ?_⟩
   refine sx_nil ?_
   refine ex_then_n ?_
   refine wp_ret ?_
   refine ex_then_r ?_
   refine sx_end (.tuple #[]) (res0 (by rfl)) ?_
   rw [walkL_end stepW 4 n l H out (by omega)]
   exact ⟨_, _, _, rfl, (hp.take [0, 1, 2, 3, 4] 5 (by decide) (by simp))⟩
  ·
   have c_1p := ne_of_beq_ c_1
   refine wp_skip ?_
   refine ex_then_n ?_
   refine wp_seq ?_
   refine sx_region ?_
   refine sx_rd 18 (.slice AH H.length cH) (by rfl) (by kernel_rfl) ?_
   refine sx_rd 19 (.int .i64 (H.length : Int)) (by rfl) (by kernel_rfl) ?_
   refine sx_rd 20 (.int .i64 0) (by rfl) (by kernel_rfl) ?_
   refine sx_nil ?_
   refine ex_then_n ?_
   refine wp_block ?_
   have e0_3 : out = (walkLTo stepW 4 (n - 1) l H out 0) := rfl
   have hp : Hp w0 (row (Kd.int .i64) 3 w0.heap.size (.slice Al l.length cl) l Fl :: blk gO #[.slice Ao out.length co] 30 :: rowS (Kd.slice 3 (Kd.int .i64)) 39 w0.heap.size (.slice Ao out.length co) (walkLTo stepW 4 (n - 1) l H out 0) Fo :: blk gN #[.int .i64 4] 3 :: blk gE #[.func (.func 55) #[] #[.pointer (some ⟨gO, 0, none⟩)]] 59 :: blk gA #[.func (.func 77) #[] #[.pointer (some ⟨gN, 0, none⟩), .pointer (some ⟨gE, 0, none⟩), .pointer (some ⟨gA, 0, none⟩)]] 86 :: cs) W := by rw [← e0_3]; exact hp
   refine wp_loop_ghost (fun n_ a_ W => ∃ (r_ : List (Nat × Value)) (i : Nat) (AixgOx0 : Option Addr) (nixgOx0 cixgOx0 : Nat) (FixgOx0 : Nat → Prop), n_ = H.length - i ∧ a_ = fr 57 ([(0, .slice Al l.length cl), (1, .slice AH H.length cH), (4, .pointer (some ⟨gA, 0, none⟩)), (18, .slice AH H.length cH), (19, .int .i64 (H.length : Int)), (20, .int .i64 (i : Int))] ++ r_) ∧ Hp w0 (rowS (Kd.slice 3 (Kd.int .i64)) 39 w0.heap.size (.slice AixgOx0 nixgOx0 cixgOx0) (walkLTo stepW 4 (n - 1) l H out i) FixgOx0 :: blk gO #[.slice AixgOx0 nixgOx0 cixgOx0] 30 :: row (Kd.int .i64) 3 w0.heap.size (.slice Al l.length cl) l Fl :: blk gN #[.int .i64 4] 3 :: blk gE #[.func (.func 55) #[] #[.pointer (some ⟨gO, 0, none⟩)]] 59 :: blk gA #[.func (.func 77) #[] #[.pointer (some ⟨gN, 0, none⟩), .pointer (some ⟨gE, 0, none⟩), .pointer (some ⟨gA, 0, none⟩)]] 86 :: cs) W ∧ (i ≤ H.length)) _ ⟨_, 0, _, _, _, _, rfl, fr_front [(0, .slice Al l.length cl), (1, .slice AH H.length cH), (4, .pointer (some ⟨gA, 0, none⟩)), (18, .slice AH H.length cH), (19, .int .i64 (H.length : Int)), (20, .int .i64 0)] ⟨rfl, rfl, rfl, rfl, rfl, rfl, trivial⟩, (hp.take [2, 1, 0, 3, 4, 5] 6 (by decide) (by simp)), Nat.zero_le _⟩ ?_
   rintro _ _ W_4 ⟨r_, i, AixgOx0, nixgOx0, cixgOx0, FixgOx0, rfl, rfl, hp, hi⟩
   obtain ⟨rfl, hccixgOx0⟩ := rowS_len (hp.at_ 0 _ (by rfl))
   have hmono : ∀ j, j ≤ H.length → ((walkLTo stepW 4 (n - 1) l H out j)).length ≤ 1000000 := fun j hj => Nat.le_trans (walkLTo_le stepW List.length (fun s l => (stepW_len s l).1) 4 (n - 1) l H out j H.length hj) (by rw [walkLTo_fin stepW 4 n l H out hHn (by omega)]; exact hbd)
   refine wp_seq ?_
   refine sx_region ?_
   refine sx_rd 21 (.bool (decide ((i : Int) < (H.length : Int)))) (by rfl) (by kernel_rfl) ?_
   refine sx_nil ?_
   refine ex_then_n ?_
   refine wp_seq ?_
   refine sx_cond (decide ((i : Int) < (H.length : Int))) (by rfl) (fun c_5 => ?_) (fun c_5 => ?_)
   ·
    have c_5p := of_decide_eq_true c_5
    have hHe : (H.eraseIdx i).length = n - 1 := by rw [erase_len (by omega), hHn]
    have hg9 := good9 hok (i := i) (by omega)
    have hbN := hmono (i + 1) (by omega)
    rw [walkLTo_next] at hbN
    have hbB : ∀ (q : ((rd_Tile H (i : Int)).f0 == (rd_Tile H (i : Int)).f1) = false), ((walkL stepW 4 (n - 1) (l ++ [(rd_Tile H (i : Int)).f1, (rd_Tile H (i : Int)).f0]) (H.eraseIdx i) (walkL stepW 4 (n - 1) (l ++ [(rd_Tile H (i : Int)).f0, (rd_Tile H (i : Int)).f1]) (H.eraseIdx i) (walkLTo stepW 4 (n - 1) l H out i)))).length ≤ 1000000 := fun q => by rw [if_neg (by rw [q]; exact Bool.false_ne_true)] at hbN; exact hbN
    have hbA : ((walkL stepW 4 (n - 1) (l ++ [(rd_Tile H (i : Int)).f0, (rd_Tile H (i : Int)).f1]) (H.eraseIdx i) (walkLTo stepW 4 (n - 1) l H out i))).length ≤ 1000000 := by
     cases q : ((rd_Tile H (i : Int)).f0 == (rd_Tile H (i : Int)).f1) with
     | true => rw [if_pos q] at hbN; exact hbN
     | false => exact Nat.le_trans (foldl_ge stepW List.length (fun s l => (stepW_len s l).1) _ _) (hbB q)
    refine wp_skip ?_
    refine ex_then_n ?_
    refine wp_seq ?_
    refine wp_block ?_
    refine wp_seq ?_
    refine sx_region ?_
    refine sx_rd 22 (.int .i64 (i : Int)) (by rfl) (by kernel_rfl) ?_
    refine sx_rd 23 (.pointer (some (adr AH (i : Int) 2))) (by rfl) (ix_run (d := k50) (hH _ hp.tail.tail.tail.tail.tail.tail) (t := 26) (by rfl) (by rfl) (by rfl) Try.underlying26 (by kernel_rfl) (by omega) (by omega)) ?_
    refine sx_rd 24 (.agg #[.int .i64 ((rd_Tile H (i : Int)).f0), .int .i64 ((rd_Tile H (i : Int)).f1)]) (by rfl) (el_run (d := k50) (hH _ hp.tail.tail.tail.tail.tail.tail) z50 (i : Int) (by omega) (by omega) (cells := [.int .i64 ((rd_Tile H (i : Int)).f0), .int .i64 ((rd_Tile H (i : Int)).f1)]) (fun cs h => k50_open h) 0 [.int .i64 ((rd_Tile H (i : Int)).f0), .int .i64 ((rd_Tile H (i : Int)).f1)] (by rfl) (t := 50) (p := (.tmp 23)) (by rfl) (by rfl) (by kernel_rfl) (by kernel_rfl)) ?_
    refine sx_box 8 hp #[.int .i64 0, .int .i64 0] 50 (by rfl) (fun W => by kernel_rfl) ?_
    intro g_6 W_7 hp
    refine sx_rd 7 (.int .i64 (i : Int)) (by rfl) (by kernel_rfl) ?_
    refine sx_store (t := 50) (p := (.tmp 8)) (x := (.tmp 24)) (by rfl) (by rfl) 0 (by rfl) 0 [.int .i64 ((rd_Tile H (i : Int)).f0), .int .i64 ((rd_Tile H (i : Int)).f1)] (by rfl) (by rfl) (by kernel_rfl) (by simp [Value.oneCell']) (by show 2 ≤ 2; omega) #[.int .i64 ((rd_Tile H (i : Int)).f0), .int .i64 ((rd_Tile H (i : Int)).f1)] (by rfl) hp ?_
    intro W_8 hp; simp only [List.set_cons_succ, List.set_cons_zero] at hp
    refine sx_nil ?_
    refine ex_then_n ?_
    refine wp_seq ?_
    refine sx_region ?_
    refine sx_rd 25 (.slice AH H.length cH) (by rfl) (by kernel_rfl) ?_
    refine sx_call 26 (by rfl) (by kernel_rfl) ((slices_Clone_impl_Tile_impl_Tile.calls AH cH H _ _ (hH _ hp.tail.tail.tail.tail.tail.tail.tail) hcH (cloneT_eq H (by omega))).mono ?_)
    rintro _ W_14 ⟨v_10, rfl, hR_9, hb⟩
    refine ⟨_, rfl, ?_⟩
    obtain ⟨A_11, c_12, rfl, hcc_c_12, _⟩ := Kd.R_reads hR_9
    obtain ⟨F_13, hp⟩ : ∃ F, Hp w0 (row k50 50 w0.heap.size (.slice A_11 H.length c_12) H F :: blk g_6 #[.int .i64 ((rd_Tile H (i : Int)).f0), .int .i64 ((rd_Tile H (i : Int)).f1)] 50 :: rowS (Kd.slice 3 (Kd.int .i64)) 39 w0.heap.size (.slice AixgOx0 ((walkLTo stepW 4 (n - 1) l H out i).length) cixgOx0) (walkLTo stepW 4 (n - 1) l H out i) FixgOx0 :: blk gO #[.slice AixgOx0 ((walkLTo stepW 4 (n - 1) l H out i).length) cixgOx0] 30 :: row (Kd.int .i64) 3 w0.heap.size (.slice Al l.length cl) l Fl :: blk gN #[.int .i64 4] 3 :: blk gE #[.func (.func 55) #[] #[.pointer (some ⟨gO, 0, none⟩)]] 59 :: blk gA #[.func (.func 77) #[] #[.pointer (some ⟨gN, 0, none⟩), .pointer (some ⟨gE, 0, none⟩), .pointer (some ⟨gA, 0, none⟩)]] 86 :: cs) _ := ⟨_, Hp.made hp hb hR_9⟩
    refine sx_rd 27 (.int .i64 (i : Int)) (by rfl) (by kernel_rfl) ?_
    refine sx_rd 28 (.int .i64 (i : Int)) (by rfl) (by kernel_rfl) ?_
    refine sx_rd 29 (.int .i64 ((i : Int) + 1)) (by rfl) (wr_ok (by omega) (by kernel_rfl)) ?_
    refine sx_call 30 (by rfl) (by kernel_rfl) ((delete_sx hp i (by omega) (by omega)).mono ?_)
    rintro _ W_16 ⟨F_15, rfl, hp⟩
    refine ⟨_, rfl, ?_⟩
    refine sx_rd 9 (.slice A_11 ((H.eraseIdx i).length) c_12) (by rfl) (by kernel_rfl) ?_
    refine sx_nil ?_
    refine ex_then_n ?_
    refine wp_seq ?_
    refine sx_drawI (fun a_ W => ∃ (r_ : List (Nat × Value)) (Am_31 : Option Addr) (cm_32 : Nat) (Fm_33 : Nat → Prop), a_ = fr 57 ([(0, .slice Al l.length cl), (1, .slice AH H.length cH), (4, .pointer (some ⟨gA, 0, none⟩)), (8, .pointer (some ⟨g_6, 0, none⟩)), (9, .slice A_11 ((H.eraseIdx i).length) c_12), (18, .slice AH H.length cH), (19, .int .i64 (H.length : Int)), (20, .int .i64 (i : Int)), (31, .func (.func 77) #[] #[.pointer (some ⟨gN, 0, none⟩), .pointer (some ⟨gE, 0, none⟩), .pointer (some ⟨gA, 0, none⟩)]), (39, .slice Am_31 ((l ++ [(rd_Tile H (i : Int)).f0, (rd_Tile H (i : Int)).f1]).length) cm_32), (40, .slice A_11 ((H.eraseIdx i).length) c_12)] ++ r_) ∧ Hp w0 (row (Kd.int .i64) 3 w0.heap.size (.slice Am_31 ((l ++ [(rd_Tile H (i : Int)).f0, (rd_Tile H (i : Int)).f1]).length) cm_32) (l ++ [(rd_Tile H (i : Int)).f0, (rd_Tile H (i : Int)).f1]) Fm_33 :: row k50 50 w0.heap.size (.slice A_11 ((H.eraseIdx i).length) c_12) (H.eraseIdx i) F_15 :: blk g_6 #[.int .i64 ((rd_Tile H (i : Int)).f0), .int .i64 ((rd_Tile H (i : Int)).f1)] 50 :: rowS (Kd.slice 3 (Kd.int .i64)) 39 w0.heap.size (.slice AixgOx0 ((walkLTo stepW 4 (n - 1) l H out i).length) cixgOx0) (walkLTo stepW 4 (n - 1) l H out i) FixgOx0 :: blk gO #[.slice AixgOx0 ((walkLTo stepW 4 (n - 1) l H out i).length) cixgOx0] 30 :: row (Kd.int .i64) 3 w0.heap.size (.slice Al l.length cl) l Fl :: blk gN #[.int .i64 4] 3 :: blk gE #[.func (.func 55) #[] #[.pointer (some ⟨gO, 0, none⟩)]] 59 :: blk gA #[.func (.func 77) #[] #[.pointer (some ⟨gN, 0, none⟩), .pointer (some ⟨gE, 0, none⟩), .pointer (some ⟨gA, 0, none⟩)]] 86 :: cs) W) [1, 3, 5, 9] (.rd 0 (.rd 4 (.rd 6 (.alt 2 (.alt 7 (.alt 8 (.fin) .non) .non) (.alt 7 (.alt 2 (.alt 8 (.fin) .non) .non) (.non)))))) 10 (C := Hp w0 (row k50 50 w0.heap.size (.slice A_11 ((H.eraseIdx i).length) c_12) (H.eraseIdx i) F_15 :: blk g_6 #[.int .i64 ((rd_Tile H (i : Int)).f0), .int .i64 ((rd_Tile H (i : Int)).f1)] 50 :: rowS (Kd.slice 3 (Kd.int .i64)) 39 w0.heap.size (.slice AixgOx0 ((walkLTo stepW 4 (n - 1) l H out i).length) cixgOx0) (walkLTo stepW 4 (n - 1) l H out i) FixgOx0 :: blk gO #[.slice AixgOx0 ((walkLTo stepW 4 (n - 1) l H out i).length) cixgOx0] 30 :: row (Kd.int .i64) 3 w0.heap.size (.slice Al l.length cl) l Fl :: blk gN #[.int .i64 4] 3 :: blk gE #[.func (.func 55) #[] #[.pointer (some ⟨gO, 0, none⟩)]] 59 :: blk gA #[.func (.func 77) #[] #[.pointer (some ⟨gN, 0, none⟩), .pointer (some ⟨gE, 0, none⟩), .pointer (some ⟨gA, 0, none⟩)]] 86 :: cs)) (by kernel_rfl) (by kernel_rfl) (fun d _ _ _ _ h => by cases d <;> exact h) (fun W h => h.drew) hp ?_ ?_
    ·
     refine preI_read rfl ?_
     refine sxq_val 32 (.slice Al l.length cl) (by rfl) (fun W _ => (by kernel_rfl)) ?_
     refine sxq_nil ?_
     refine preI_read rfl ?_
     refine sxq_val 34 (.pointer (some ⟨g_6, 0, none⟩)) (by rfl) (fun W _ => (by kernel_rfl)) ?_
     refine sxq_nil ?_
     refine preI_read rfl ?_
     refine sxq_val 36 (.pointer (some ⟨g_6, 1, none⟩)) (by rfl) (fun W _ => (by kernel_rfl)) ?_
     refine sxq_nil ?_
     refine preI_read rfl ?_
     refine sxq_val 40 (.slice A_11 ((H.eraseIdx i).length) c_12) (by rfl) (fun W _ => (by kernel_rfl)) ?_
     refine sxq_nil ?_
     refine preI_nil ?_
     intro W_17 hp
     refine treeI_rd rfl ?_
     refine sxq_val 31 (.func (.func 77) #[] #[.pointer (some ⟨gN, 0, none⟩), .pointer (some ⟨gE, 0, none⟩), .pointer (some ⟨gA, 0, none⟩)]) (by rfl) (fun W hp => (ld1 (t := 86) (p := (.tmp 4)) (by rfl) (by rfl) (by kernel_rfl) (hp.cell 7 (by rfl) 0 _ (by rfl)))) ?_
     refine sxq_nil ?_
     refine treeI_rd rfl ?_
     refine sxq_val 35 (.int .i64 ((rd_Tile H (i : Int)).f0)) (by rfl) (fun W hp => (ld1 (t := 3) (p := (.tmp 34)) (by rfl) (by rfl) (by kernel_rfl) (hp.cell 1 (by rfl) 0 _ (by rfl)))) ?_
     refine sxq_nil ?_
     refine treeI_rd rfl ?_
     refine sxq_val 37 (.int .i64 ((rd_Tile H (i : Int)).f1)) (by rfl) (fun W hp => (ld1 (t := 3) (p := (.tmp 36)) (by rfl) (by rfl) (by kernel_rfl) (hp.cell 1 (by rfl) 1 _ (by rfl)))) ?_
     refine sxq_nil ?_
     refine treeI_alt rfl ?_ ?_
     ·
      refine sx_call 33 (by rfl) (by kernel_rfl) ((slices_Clone_int_int.calls Al cl l _ _ (row_C (hp.at_ 4 _ (by rfl))) (row_len (hp.at_ 4 _ (by rfl))).2 (cloneI_eq l (by omega))).mono ?_)
      rintro _ W_23 ⟨v_19, rfl, hR_18, hb⟩
      refine ⟨_, rfl, ?_⟩
      obtain ⟨A_20, c_21, rfl, hcc_c_21, _⟩ := Kd.R_reads hR_18
      obtain ⟨F_22, hp⟩ : ∃ F, Hp w0 (row (Kd.int .i64) 3 w0.heap.size (.slice A_20 l.length c_21) l F :: row k50 50 w0.heap.size (.slice A_11 ((H.eraseIdx i).length) c_12) (H.eraseIdx i) F_15 :: blk g_6 #[.int .i64 ((rd_Tile H (i : Int)).f0), .int .i64 ((rd_Tile H (i : Int)).f1)] 50 :: rowS (Kd.slice 3 (Kd.int .i64)) 39 w0.heap.size (.slice AixgOx0 ((walkLTo stepW 4 (n - 1) l H out i).length) cixgOx0) (walkLTo stepW 4 (n - 1) l H out i) FixgOx0 :: blk gO #[.slice AixgOx0 ((walkLTo stepW 4 (n - 1) l H out i).length) cixgOx0] 30 :: row (Kd.int .i64) 3 w0.heap.size (.slice Al l.length cl) l Fl :: blk gN #[.int .i64 4] 3 :: blk gE #[.func (.func 55) #[] #[.pointer (some ⟨gO, 0, none⟩)]] 59 :: blk gA #[.func (.func 77) #[] #[.pointer (some ⟨gN, 0, none⟩), .pointer (some ⟨gE, 0, none⟩), .pointer (some ⟨gA, 0, none⟩)]] 86 :: cs) _ := ⟨_, Hp.made hp hb hR_18⟩
      refine step_fin hp.tail ?_
      refine treeI_ev rfl ?_
      refine sx_lit 38 (by rfl) (Kd.int .i64) w0.heap.size 3 ([(rd_Tile H (i : Int)).f0, (rd_Tile H (i : Int)).f1]) [.int .i64 ((rd_Tile H (i : Int)).f0), .int .i64 ((rd_Tile H (i : Int)).f1)] (fun W => by kernel_rfl) (reps_ints [(rd_Tile H (i : Int)).f0, (rd_Tile H (i : Int)).f1]) (by simp) hp.size hp ?_
      intro g_24 F_25 W_26 hp hz; clear hz
      refine step_fin hp.tail.tail ?_
      refine treeI_ev rfl ?_
      refine sx_append 39 (by rfl) (Kd.int .i64) 1 (by rfl) (.int .i64 0) 8 (by rfl) Try.underlying39 (by kernel_rfl) rfl (by decide) (by decide) ([(rd_Tile H (i : Int)).f0, (rd_Tile H (i : Int)).f1]) (by rfl) (by rfl) (row_C (hp.at_ 0 _ (by rfl))) (fun x cs h => h) hp.size (by first | omega | (simp; done) | (simp; omega)) hp ?_
      intro A_27 c_28 F_29 W_30 hp hz; clear hz; simp only [List.set_cons_succ, List.set_cons_zero] at hp
      refine step_fin hp.tail.tail ?_
      refine treeI_fin ?_
      exact ⟨_, A_27, c_28, F_29, fr_front [(0, .slice Al l.length cl), (1, .slice AH H.length cH), (4, .pointer (some ⟨gA, 0, none⟩)), (8, .pointer (some ⟨g_6, 0, none⟩)), (9, .slice A_11 ((H.eraseIdx i).length) c_12), (18, .slice AH H.length cH), (19, .int .i64 (H.length : Int)), (20, .int .i64 (i : Int)), (31, .func (.func 77) #[] #[.pointer (some ⟨gN, 0, none⟩), .pointer (some ⟨gE, 0, none⟩), .pointer (some ⟨gA, 0, none⟩)]), (39, .slice A_27 ((l ++ [(rd_Tile H (i : Int)).f0, (rd_Tile H (i : Int)).f1]).length) c_28), (40, .slice A_11 ((H.eraseIdx i).length) c_12)] ⟨rfl, rfl, rfl, rfl, rfl, rfl, rfl, rfl, rfl, rfl, rfl, trivial⟩, (hp.take [1, 2, 3, 4, 5, 6, 7, 8, 9] 10 (by decide) (by simp))⟩
     refine treeI_alt rfl ?_ ?_
     ·
      refine sx_lit 38 (by rfl) (Kd.int .i64) w0.heap.size 3 ([(rd_Tile H (i : Int)).f0, (rd_Tile H (i : Int)).f1]) [.int .i64 ((rd_Tile H (i : Int)).f0), .int .i64 ((rd_Tile H (i : Int)).f1)] (fun W => by kernel_rfl) (reps_ints [(rd_Tile H (i : Int)).f0, (rd_Tile H (i : Int)).f1]) (by simp) hp.size hp ?_
      intro g_34 F_35 W_36 hp hz; clear hz
      refine step_fin hp.tail ?_
      refine treeI_ev rfl ?_
      refine sx_call 33 (by rfl) (by kernel_rfl) ((slices_Clone_int_int.calls Al cl l _ _ (row_C (hp.at_ 5 _ (by rfl))) (row_len (hp.at_ 5 _ (by rfl))).2 (cloneI_eq l (by omega))).mono ?_)
      rintro _ W_42 ⟨v_38, rfl, hR_37, hb⟩
      refine ⟨_, rfl, ?_⟩
      obtain ⟨A_39, c_40, rfl, hcc_c_40, _⟩ := Kd.R_reads hR_37
      obtain ⟨F_41, hp⟩ : ∃ F, Hp w0 (row (Kd.int .i64) 3 w0.heap.size (.slice A_39 l.length c_40) l F :: row (Kd.int .i64) 3 w0.heap.size (.slice (some ⟨g_34, 0, none⟩) ([(rd_Tile H (i : Int)).f0, (rd_Tile H (i : Int)).f1].length) ([(rd_Tile H (i : Int)).f0, (rd_Tile H (i : Int)).f1].length)) ([(rd_Tile H (i : Int)).f0, (rd_Tile H (i : Int)).f1]) F_35 :: row k50 50 w0.heap.size (.slice A_11 ((H.eraseIdx i).length) c_12) (H.eraseIdx i) F_15 :: blk g_6 #[.int .i64 ((rd_Tile H (i : Int)).f0), .int .i64 ((rd_Tile H (i : Int)).f1)] 50 :: rowS (Kd.slice 3 (Kd.int .i64)) 39 w0.heap.size (.slice AixgOx0 ((walkLTo stepW 4 (n - 1) l H out i).length) cixgOx0) (walkLTo stepW 4 (n - 1) l H out i) FixgOx0 :: blk gO #[.slice AixgOx0 ((walkLTo stepW 4 (n - 1) l H out i).length) cixgOx0] 30 :: row (Kd.int .i64) 3 w0.heap.size (.slice Al l.length cl) l Fl :: blk gN #[.int .i64 4] 3 :: blk gE #[.func (.func 55) #[] #[.pointer (some ⟨gO, 0, none⟩)]] 59 :: blk gA #[.func (.func 77) #[] #[.pointer (some ⟨gN, 0, none⟩), .pointer (some ⟨gE, 0, none⟩), .pointer (some ⟨gA, 0, none⟩)]] 86 :: cs) _ := ⟨_, Hp.made hp hb hR_37⟩
      refine step_fin hp.tail.tail ?_
      refine treeI_ev rfl ?_
      refine sx_append 39 (by rfl) (Kd.int .i64) 0 (by rfl) (.int .i64 0) 8 (by rfl) Try.underlying39 (by kernel_rfl) rfl (by decide) (by decide) ([(rd_Tile H (i : Int)).f0, (rd_Tile H (i : Int)).f1]) (by rfl) (by rfl) (row_C (hp.at_ 1 _ (by rfl))) (fun x cs h => h) hp.size (by first | omega | (simp; done) | (simp; omega)) hp ?_
      intro A_43 c_44 F_45 W_46 hp hz; clear hz; simp only [List.set_cons_succ, List.set_cons_zero] at hp
      refine step_fin hp.tail.tail ?_
      refine treeI_fin ?_
      exact ⟨_, A_43, c_44, F_45, fr_front [(0, .slice Al l.length cl), (1, .slice AH H.length cH), (4, .pointer (some ⟨gA, 0, none⟩)), (8, .pointer (some ⟨g_6, 0, none⟩)), (9, .slice A_11 ((H.eraseIdx i).length) c_12), (18, .slice AH H.length cH), (19, .int .i64 (H.length : Int)), (20, .int .i64 (i : Int)), (31, .func (.func 77) #[] #[.pointer (some ⟨gN, 0, none⟩), .pointer (some ⟨gE, 0, none⟩), .pointer (some ⟨gA, 0, none⟩)]), (39, .slice A_43 ((l ++ [(rd_Tile H (i : Int)).f0, (rd_Tile H (i : Int)).f1]).length) c_44), (40, .slice A_11 ((H.eraseIdx i).length) c_12)] ⟨rfl, rfl, rfl, rfl, rfl, rfl, rfl, rfl, rfl, rfl, rfl, trivial⟩, (hp.take [0, 2, 3, 4, 5, 6, 7, 8, 9] 10 (by decide) (by simp))⟩
     exact treeI_non
    ·
     rintro _ W_47 ⟨r_, Am_31, cm_32, Fm_33, rfl, hp⟩
     refine tail_of [10] (by rfl) ?_
     refine tailI_op rfl ?_
     refine sx_call 41 (by rfl) (by kernel_rfl) ((ih (n - 1) (by omega) w0 _ (row k50 50 w0.heap.size (.slice A_11 ((H.eraseIdx i).length) c_12) (H.eraseIdx i) F_15 :: blk g_6 #[.int .i64 ((rd_Tile H (i : Int)).f0), .int .i64 ((rd_Tile H (i : Int)).f1)] 50 :: row (Kd.int .i64) 3 w0.heap.size (.slice Al l.length cl) l Fl :: cs) (l ++ [(rd_Tile H (i : Int)).f0, (rd_Tile H (i : Int)).f1]) Am_31 cm_32 Fm_33 (H.eraseIdx i) A_11 c_12 hHe (fun t ht => hok t (List.mem_of_mem_eraseIdx ht)) (app9 h9 hg9.1 hg9.2) (by simp; omega) (by simp; omega) (row_len (hp.at_ 1 _ (by rfl))).2 (fun W h => row_C (h.at_ 0 _ (by rfl))) (walkLTo stepW 4 (n - 1) l H out i) AixgOx0 cixgOx0 FixgOx0 hbA (hp.take [0, 4, 3, 6, 7, 8, 1, 2, 5] 9 (by decide) (by simp))).mono ?_)
     rintro _ W_48 ⟨A2_1, c2_1, F2_1, rfl, hp⟩
     refine ⟨_, rfl, ?_⟩
     refine tailI_next ?_
     refine tailI_nil ?_
     refine ex_then_n ?_
     refine wp_seq ?_
     refine sx_region ?_
     refine sx_rd 42 (.agg #[.int .i64 ((rd_Tile H (i : Int)).f0), .int .i64 ((rd_Tile H (i : Int)).f1)]) (by rfl) (ldn (t := 50) (p := (.tmp 8)) (by rfl) (by rfl) (by kernel_rfl) (by kernel_rfl) (by kernel_rfl) (hp.at_ 6 _ (by rfl))) ?_
     refine sx_call 43 (by rfl) (by kernel_rfl) ((impl_isDouble.calls ((rd_Tile H (i : Int)).f0) ((rd_Tile H (i : Int)).f1) _ _ rfl).mono ?_)
     rintro _ W_49 ⟨rfl, hb⟩
     refine ⟨_, rfl, ?_⟩
     replace hp := hp.below hb
     clear hb
     refine sx_rd 44 (.bool (!((rd_Tile H (i : Int)).f0 == (rd_Tile H (i : Int)).f1))) (by rfl) (by kernel_rfl) ?_
     refine sx_nil ?_
     refine ex_then_n ?_
     refine sx_cond (!((rd_Tile H (i : Int)).f0 == (rd_Tile H (i : Int)).f1)) (by rfl) (fun c_50 => ?_) (fun c_50 => ?_)
     ·
      refine sx_drawI (fun a_ W => ∃ (r_ : List (Nat × Value)) (Am_65 : Option Addr) (cm_66 : Nat) (Fm_67 : Nat → Prop), a_ = fr 57 ([(0, .slice Al l.length cl), (1, .slice AH H.length cH), (4, .pointer (some ⟨gA, 0, none⟩)), (18, .slice AH H.length cH), (19, .int .i64 (H.length : Int)), (20, .int .i64 (i : Int)), (45, .func (.func 77) #[] #[.pointer (some ⟨gN, 0, none⟩), .pointer (some ⟨gE, 0, none⟩), .pointer (some ⟨gA, 0, none⟩)]), (53, .slice Am_65 ((l ++ [(rd_Tile H (i : Int)).f1, (rd_Tile H (i : Int)).f0]).length) cm_66), (54, .slice A_11 ((H.eraseIdx i).length) c_12)] ++ r_) ∧ Hp w0 (row (Kd.int .i64) 3 w0.heap.size (.slice Am_65 ((l ++ [(rd_Tile H (i : Int)).f1, (rd_Tile H (i : Int)).f0]).length) cm_66) (l ++ [(rd_Tile H (i : Int)).f1, (rd_Tile H (i : Int)).f0]) Fm_67 :: blk gO #[.slice A2_1 ((walkL stepW 4 (n - 1) (l ++ [(rd_Tile H (i : Int)).f0, (rd_Tile H (i : Int)).f1]) (H.eraseIdx i) (walkLTo stepW 4 (n - 1) l H out i)).length) c2_1] 30 :: rowS (Kd.slice 3 (Kd.int .i64)) 39 w0.heap.size (.slice A2_1 ((walkL stepW 4 (n - 1) (l ++ [(rd_Tile H (i : Int)).f0, (rd_Tile H (i : Int)).f1]) (H.eraseIdx i) (walkLTo stepW 4 (n - 1) l H out i)).length) c2_1) (walkL stepW 4 (n - 1) (l ++ [(rd_Tile H (i : Int)).f0, (rd_Tile H (i : Int)).f1]) (H.eraseIdx i) (walkLTo stepW 4 (n - 1) l H out i)) F2_1 :: blk gN #[.int .i64 4] 3 :: blk gE #[.func (.func 55) #[] #[.pointer (some ⟨gO, 0, none⟩)]] 59 :: blk gA #[.func (.func 77) #[] #[.pointer (some ⟨gN, 0, none⟩), .pointer (some ⟨gE, 0, none⟩), .pointer (some ⟨gA, 0, none⟩)]] 86 :: row k50 50 w0.heap.size (.slice A_11 ((H.eraseIdx i).length) c_12) (H.eraseIdx i) F_15 :: blk g_6 #[.int .i64 ((rd_Tile H (i : Int)).f0), .int .i64 ((rd_Tile H (i : Int)).f1)] 50 :: row (Kd.int .i64) 3 w0.heap.size (.slice Al l.length cl) l Fl :: cs) W) [1, 3, 5, 9] (.rd 0 (.rd 4 (.rd 6 (.alt 2 (.alt 7 (.alt 8 (.fin) .non) .non) (.alt 7 (.alt 2 (.alt 8 (.fin) .non) .non) (.non)))))) 10 (C := Hp w0 (blk gO #[.slice A2_1 ((walkL stepW 4 (n - 1) (l ++ [(rd_Tile H (i : Int)).f0, (rd_Tile H (i : Int)).f1]) (H.eraseIdx i) (walkLTo stepW 4 (n - 1) l H out i)).length) c2_1] 30 :: rowS (Kd.slice 3 (Kd.int .i64)) 39 w0.heap.size (.slice A2_1 ((walkL stepW 4 (n - 1) (l ++ [(rd_Tile H (i : Int)).f0, (rd_Tile H (i : Int)).f1]) (H.eraseIdx i) (walkLTo stepW 4 (n - 1) l H out i)).length) c2_1) (walkL stepW 4 (n - 1) (l ++ [(rd_Tile H (i : Int)).f0, (rd_Tile H (i : Int)).f1]) (H.eraseIdx i) (walkLTo stepW 4 (n - 1) l H out i)) F2_1 :: blk gN #[.int .i64 4] 3 :: blk gE #[.func (.func 55) #[] #[.pointer (some ⟨gO, 0, none⟩)]] 59 :: blk gA #[.func (.func 77) #[] #[.pointer (some ⟨gN, 0, none⟩), .pointer (some ⟨gE, 0, none⟩), .pointer (some ⟨gA, 0, none⟩)]] 86 :: row k50 50 w0.heap.size (.slice A_11 ((H.eraseIdx i).length) c_12) (H.eraseIdx i) F_15 :: blk g_6 #[.int .i64 ((rd_Tile H (i : Int)).f0), .int .i64 ((rd_Tile H (i : Int)).f1)] 50 :: row (Kd.int .i64) 3 w0.heap.size (.slice Al l.length cl) l Fl :: cs)) (by kernel_rfl) (by kernel_rfl) (fun d _ _ _ _ h => by cases d <;> exact h) (fun W h => h.drew) hp ?_ ?_
      ·
       refine preI_read rfl ?_
       refine sxq_val 46 (.slice Al l.length cl) (by rfl) (fun W _ => (by kernel_rfl)) ?_
       refine sxq_nil ?_
       refine preI_read rfl ?_
       refine sxq_val 48 (.pointer (some ⟨g_6, 1, none⟩)) (by rfl) (fun W _ => (by kernel_rfl)) ?_
       refine sxq_nil ?_
       refine preI_read rfl ?_
       refine sxq_val 50 (.pointer (some ⟨g_6, 0, none⟩)) (by rfl) (fun W _ => (by kernel_rfl)) ?_
       refine sxq_nil ?_
       refine preI_read rfl ?_
       refine sxq_val 54 (.slice A_11 ((H.eraseIdx i).length) c_12) (by rfl) (fun W _ => (by kernel_rfl)) ?_
       refine sxq_nil ?_
       refine preI_nil ?_
       intro W_51 hp
       refine treeI_rd rfl ?_
       refine sxq_val 45 (.func (.func 77) #[] #[.pointer (some ⟨gN, 0, none⟩), .pointer (some ⟨gE, 0, none⟩), .pointer (some ⟨gA, 0, none⟩)]) (by rfl) (fun W hp => (ld1 (t := 86) (p := (.tmp 4)) (by rfl) (by rfl) (by kernel_rfl) (hp.cell 4 (by rfl) 0 _ (by rfl)))) ?_
       refine sxq_nil ?_
       refine treeI_rd rfl ?_
       refine sxq_val 49 (.int .i64 ((rd_Tile H (i : Int)).f1)) (by rfl) (fun W hp => (ld1 (t := 3) (p := (.tmp 48)) (by rfl) (by rfl) (by kernel_rfl) (hp.cell 6 (by rfl) 1 _ (by rfl)))) ?_
       refine sxq_nil ?_
       refine treeI_rd rfl ?_
       refine sxq_val 51 (.int .i64 ((rd_Tile H (i : Int)).f0)) (by rfl) (fun W hp => (ld1 (t := 3) (p := (.tmp 50)) (by rfl) (by rfl) (by kernel_rfl) (hp.cell 6 (by rfl) 0 _ (by rfl)))) ?_
       refine sxq_nil ?_
       refine treeI_alt rfl ?_ ?_
       ·
        refine sx_call 47 (by rfl) (by kernel_rfl) ((slices_Clone_int_int.calls Al cl l _ _ (row_C (hp.at_ 7 _ (by rfl))) (row_len (hp.at_ 7 _ (by rfl))).2 (cloneI_eq l (by omega))).mono ?_)
        rintro _ W_57 ⟨v_53, rfl, hR_52, hb⟩
        refine ⟨_, rfl, ?_⟩
        obtain ⟨A_54, c_55, rfl, hcc_c_55, _⟩ := Kd.R_reads hR_52
        obtain ⟨F_56, hp⟩ : ∃ F, Hp w0 (row (Kd.int .i64) 3 w0.heap.size (.slice A_54 l.length c_55) l F :: blk gO #[.slice A2_1 ((walkL stepW 4 (n - 1) (l ++ [(rd_Tile H (i : Int)).f0, (rd_Tile H (i : Int)).f1]) (H.eraseIdx i) (walkLTo stepW 4 (n - 1) l H out i)).length) c2_1] 30 :: rowS (Kd.slice 3 (Kd.int .i64)) 39 w0.heap.size (.slice A2_1 ((walkL stepW 4 (n - 1) (l ++ [(rd_Tile H (i : Int)).f0, (rd_Tile H (i : Int)).f1]) (H.eraseIdx i) (walkLTo stepW 4 (n - 1) l H out i)).length) c2_1) (walkL stepW 4 (n - 1) (l ++ [(rd_Tile H (i : Int)).f0, (rd_Tile H (i : Int)).f1]) (H.eraseIdx i) (walkLTo stepW 4 (n - 1) l H out i)) F2_1 :: blk gN #[.int .i64 4] 3 :: blk gE #[.func (.func 55) #[] #[.pointer (some ⟨gO, 0, none⟩)]] 59 :: blk gA #[.func (.func 77) #[] #[.pointer (some ⟨gN, 0, none⟩), .pointer (some ⟨gE, 0, none⟩), .pointer (some ⟨gA, 0, none⟩)]] 86 :: row k50 50 w0.heap.size (.slice A_11 ((H.eraseIdx i).length) c_12) (H.eraseIdx i) F_15 :: blk g_6 #[.int .i64 ((rd_Tile H (i : Int)).f0), .int .i64 ((rd_Tile H (i : Int)).f1)] 50 :: row (Kd.int .i64) 3 w0.heap.size (.slice Al l.length cl) l Fl :: cs) _ := ⟨_, Hp.made hp hb hR_52⟩
        refine step_fin hp.tail ?_
        refine treeI_ev rfl ?_
        refine sx_lit 52 (by rfl) (Kd.int .i64) w0.heap.size 3 ([(rd_Tile H (i : Int)).f1, (rd_Tile H (i : Int)).f0]) [.int .i64 ((rd_Tile H (i : Int)).f1), .int .i64 ((rd_Tile H (i : Int)).f0)] (fun W => by kernel_rfl) (reps_ints [(rd_Tile H (i : Int)).f1, (rd_Tile H (i : Int)).f0]) (by simp) hp.size hp ?_
        intro g_58 F_59 W_60 hp hz; clear hz
        refine step_fin hp.tail.tail ?_
        refine treeI_ev rfl ?_
        refine sx_append 53 (by rfl) (Kd.int .i64) 1 (by rfl) (.int .i64 0) 8 (by rfl) Try.underlying39 (by kernel_rfl) rfl (by decide) (by decide) ([(rd_Tile H (i : Int)).f1, (rd_Tile H (i : Int)).f0]) (by rfl) (by rfl) (row_C (hp.at_ 0 _ (by rfl))) (fun x cs h => h) hp.size (by first | omega | (simp; done) | (simp; omega)) hp ?_
        intro A_61 c_62 F_63 W_64 hp hz; clear hz; simp only [List.set_cons_succ, List.set_cons_zero] at hp
        refine step_fin hp.tail.tail ?_
        refine treeI_fin ?_
        exact ⟨_, A_61, c_62, F_63, fr_front [(0, .slice Al l.length cl), (1, .slice AH H.length cH), (4, .pointer (some ⟨gA, 0, none⟩)), (18, .slice AH H.length cH), (19, .int .i64 (H.length : Int)), (20, .int .i64 (i : Int)), (45, .func (.func 77) #[] #[.pointer (some ⟨gN, 0, none⟩), .pointer (some ⟨gE, 0, none⟩), .pointer (some ⟨gA, 0, none⟩)]), (53, .slice A_61 ((l ++ [(rd_Tile H (i : Int)).f1, (rd_Tile H (i : Int)).f0]).length) c_62), (54, .slice A_11 ((H.eraseIdx i).length) c_12)] ⟨rfl, rfl, rfl, rfl, rfl, rfl, rfl, rfl, rfl, trivial⟩, (hp.take [1, 2, 3, 4, 5, 6, 7, 8, 9] 10 (by decide) (by simp))⟩
       refine treeI_alt rfl ?_ ?_
       ·
        refine sx_lit 52 (by rfl) (Kd.int .i64) w0.heap.size 3 ([(rd_Tile H (i : Int)).f1, (rd_Tile H (i : Int)).f0]) [.int .i64 ((rd_Tile H (i : Int)).f1), .int .i64 ((rd_Tile H (i : Int)).f0)] (fun W => by kernel_rfl) (reps_ints [(rd_Tile H (i : Int)).f1, (rd_Tile H (i : Int)).f0]) (by simp) hp.size hp ?_
        intro g_68 F_69 W_70 hp hz; clear hz
        refine step_fin hp.tail ?_
        refine treeI_ev rfl ?_
        refine sx_call 47 (by rfl) (by kernel_rfl) ((slices_Clone_int_int.calls Al cl l _ _ (row_C (hp.at_ 8 _ (by rfl))) (row_len (hp.at_ 8 _ (by rfl))).2 (cloneI_eq l (by omega))).mono ?_)
        rintro _ W_76 ⟨v_72, rfl, hR_71, hb⟩
        refine ⟨_, rfl, ?_⟩
        obtain ⟨A_73, c_74, rfl, hcc_c_74, _⟩ := Kd.R_reads hR_71
        obtain ⟨F_75, hp⟩ : ∃ F, Hp w0 (row (Kd.int .i64) 3 w0.heap.size (.slice A_73 l.length c_74) l F :: row (Kd.int .i64) 3 w0.heap.size (.slice (some ⟨g_68, 0, none⟩) ([(rd_Tile H (i : Int)).f1, (rd_Tile H (i : Int)).f0].length) ([(rd_Tile H (i : Int)).f1, (rd_Tile H (i : Int)).f0].length)) ([(rd_Tile H (i : Int)).f1, (rd_Tile H (i : Int)).f0]) F_69 :: blk gO #[.slice A2_1 ((walkL stepW 4 (n - 1) (l ++ [(rd_Tile H (i : Int)).f0, (rd_Tile H (i : Int)).f1]) (H.eraseIdx i) (walkLTo stepW 4 (n - 1) l H out i)).length) c2_1] 30 :: rowS (Kd.slice 3 (Kd.int .i64)) 39 w0.heap.size (.slice A2_1 ((walkL stepW 4 (n - 1) (l ++ [(rd_Tile H (i : Int)).f0, (rd_Tile H (i : Int)).f1]) (H.eraseIdx i) (walkLTo stepW 4 (n - 1) l H out i)).length) c2_1) (walkL stepW 4 (n - 1) (l ++ [(rd_Tile H (i : Int)).f0, (rd_Tile H (i : Int)).f1]) (H.eraseIdx i) (walkLTo stepW 4 (n - 1) l H out i)) F2_1 :: blk gN #[.int .i64 4] 3 :: blk gE #[.func (.func 55) #[] #[.pointer (some ⟨gO, 0, none⟩)]] 59 :: blk gA #[.func (.func 77) #[] #[.pointer (some ⟨gN, 0, none⟩), .pointer (some ⟨gE, 0, none⟩), .pointer (some ⟨gA, 0, none⟩)]] 86 :: row k50 50 w0.heap.size (.slice A_11 ((H.eraseIdx i).length) c_12) (H.eraseIdx i) F_15 :: blk g_6 #[.int .i64 ((rd_Tile H (i : Int)).f0), .int .i64 ((rd_Tile H (i : Int)).f1)] 50 :: row (Kd.int .i64) 3 w0.heap.size (.slice Al l.length cl) l Fl :: cs) _ := ⟨_, Hp.made hp hb hR_71⟩
        refine step_fin hp.tail.tail ?_
        refine treeI_ev rfl ?_
        refine sx_append 53 (by rfl) (Kd.int .i64) 0 (by rfl) (.int .i64 0) 8 (by rfl) Try.underlying39 (by kernel_rfl) rfl (by decide) (by decide) ([(rd_Tile H (i : Int)).f1, (rd_Tile H (i : Int)).f0]) (by rfl) (by rfl) (row_C (hp.at_ 1 _ (by rfl))) (fun x cs h => h) hp.size (by first | omega | (simp; done) | (simp; omega)) hp ?_
        intro A_77 c_78 F_79 W_80 hp hz; clear hz; simp only [List.set_cons_succ, List.set_cons_zero] at hp
        refine step_fin hp.tail.tail ?_
        refine treeI_fin ?_
        exact ⟨_, A_77, c_78, F_79, fr_front [(0, .slice Al l.length cl), (1, .slice AH H.length cH), (4, .pointer (some ⟨gA, 0, none⟩)), (18, .slice AH H.length cH), (19, .int .i64 (H.length : Int)), (20, .int .i64 (i : Int)), (45, .func (.func 77) #[] #[.pointer (some ⟨gN, 0, none⟩), .pointer (some ⟨gE, 0, none⟩), .pointer (some ⟨gA, 0, none⟩)]), (53, .slice A_77 ((l ++ [(rd_Tile H (i : Int)).f1, (rd_Tile H (i : Int)).f0]).length) c_78), (54, .slice A_11 ((H.eraseIdx i).length) c_12)] ⟨rfl, rfl, rfl, rfl, rfl, rfl, rfl, rfl, rfl, trivial⟩, (hp.take [0, 2, 3, 4, 5, 6, 7, 8, 9] 10 (by decide) (by simp))⟩
       exact treeI_non
      ·
       rintro _ W_81 ⟨r_, Am_65, cm_66, Fm_67, rfl, hp⟩
       refine tail_of [10] (by rfl) ?_
       refine tailI_op rfl ?_
       refine sx_call 55 (by rfl) (by kernel_rfl) ((ih (n - 1) (by omega) w0 _ (row k50 50 w0.heap.size (.slice A_11 ((H.eraseIdx i).length) c_12) (H.eraseIdx i) F_15 :: blk g_6 #[.int .i64 ((rd_Tile H (i : Int)).f0), .int .i64 ((rd_Tile H (i : Int)).f1)] 50 :: row (Kd.int .i64) 3 w0.heap.size (.slice Al l.length cl) l Fl :: cs) (l ++ [(rd_Tile H (i : Int)).f1, (rd_Tile H (i : Int)).f0]) Am_65 cm_66 Fm_67 (H.eraseIdx i) A_11 c_12 hHe (fun t ht => hok t (List.mem_of_mem_eraseIdx ht)) (app9 h9 hg9.2 hg9.1) (by simp; omega) (by simp; omega) (row_len (hp.at_ 6 _ (by rfl))).2 (fun W h => row_C (h.at_ 0 _ (by rfl))) (walkL stepW 4 (n - 1) (l ++ [(rd_Tile H (i : Int)).f0, (rd_Tile H (i : Int)).f1]) (H.eraseIdx i) (walkLTo stepW 4 (n - 1) l H out i)) A2_1 c2_1 F2_1 (hbB (not_eq c_50)) (hp.take [0, 1, 2, 3, 4, 5, 6, 7, 8] 9 (by decide) (by simp))).mono ?_)
       rintro _ W_82 ⟨A2_2, c2_2, F2_2, rfl, hp⟩
       refine ⟨_, rfl, ?_⟩
       refine tailI_next ?_
       refine tailI_nil ?_
       refine ex_blk_n ?_
       refine ex_then_n ?_
       refine sx_region ?_
       refine sx_rd 56 (.int .i64 ((i : Int) + 1)) (by rfl) (wr_ok (by omega) (by kernel_rfl)) ?_
       refine sx_rd 20 (.int .i64 ((i : Int) + 1)) (by rfl) (by kernel_rfl) ?_
       refine sx_nil ?_
       refine ex_then_n ?_
       have hq_83 : (walkL stepW 4 (n - 1) (l ++ [(rd_Tile H (i : Int)).f1, (rd_Tile H (i : Int)).f0]) (H.eraseIdx i) (walkL stepW 4 (n - 1) (l ++ [(rd_Tile H (i : Int)).f0, (rd_Tile H (i : Int)).f1]) (H.eraseIdx i) (walkLTo stepW 4 (n - 1) l H out i))) = (walkLTo stepW 4 (n - 1) l H out (i + 1)) := (by rw [walkLTo_next, if_neg (by rw [show ((rd_Tile H (i : Int)).f0 == (rd_Tile H (i : Int)).f1) = false from (not_eq c_50)]; exact Bool.false_ne_true)])
       rw [hq_83] at hp
       exact ⟨_, (by omega), _, (i + 1), _, _, _, _, rfl, fr_front [(0, .slice Al l.length cl), (1, .slice AH H.length cH), (4, .pointer (some ⟨gA, 0, none⟩)), (18, .slice AH H.length cH), (19, .int .i64 (H.length : Int)), (20, .int .i64 ((i + 1 : Nat) : Int))] ⟨rfl, rfl, rfl, rfl, rfl, rfl, trivial⟩, (hp.take [1, 0, 7, 2, 3, 4] 8 (by decide) (by simp)), (by omega)⟩
     ·
      refine wp_skip ?_
      refine ex_blk_n ?_
      refine ex_then_n ?_
      refine sx_region ?_
      refine sx_rd 56 (.int .i64 ((i : Int) + 1)) (by rfl) (wr_ok (by omega) (by kernel_rfl)) ?_
      refine sx_rd 20 (.int .i64 ((i : Int) + 1)) (by rfl) (by kernel_rfl) ?_
      refine sx_nil ?_
      refine ex_then_n ?_
      have hq_84 : (walkL stepW 4 (n - 1) (l ++ [(rd_Tile H (i : Int)).f0, (rd_Tile H (i : Int)).f1]) (H.eraseIdx i) (walkLTo stepW 4 (n - 1) l H out i)) = (walkLTo stepW 4 (n - 1) l H out (i + 1)) := (by rw [walkLTo_next, if_pos (show ((rd_Tile H (i : Int)).f0 == (rd_Tile H (i : Int)).f1) = true from (not_eq c_50))])
      rw [hq_84] at hp
      exact ⟨_, (by omega), _, (i + 1), _, _, _, _, rfl, fr_front [(0, .slice Al l.length cl), (1, .slice AH H.length cH), (4, .pointer (some ⟨gA, 0, none⟩)), (18, .slice AH H.length cH), (19, .int .i64 (H.length : Int)), (20, .int .i64 ((i + 1 : Nat) : Int))] ⟨rfl, rfl, rfl, rfl, rfl, rfl, trivial⟩, (hp.take [1, 0, 7, 2, 3, 4] 8 (by decide) (by simp)), (by omega)⟩
   ·
    have c_5p := of_decide_eq_false c_5
    refine wp_exit ?_
    refine ex_then_e (ex_then_e (ex_blk_here ?_))
    refine sx_end_n (.tuple #[]) (res0 (by rfl)) ?_
    obtain rfl : i = H.length := by omega
    have hp := hp
    rw [walkLTo_fin stepW 4 n l H out hHn (by omega)] at hp
    exact ⟨_, _, _, rfl, (hp.take [1, 0, 3, 4, 5] 6 (by decide) (by simp))⟩
end Go.Proofs.Ytbkaedmabdgdhaa.Hd
