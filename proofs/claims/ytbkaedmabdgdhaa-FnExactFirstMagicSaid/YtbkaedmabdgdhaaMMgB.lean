/- spec.wiBlocks, by hand. -/
import Derived.Test.YtbkaedmabdgdhaaMMgK
import Derived.Test.YtbkaedmabdgdhaaMMx
import Derived.Test.YtbkaedmabdgdhaaG2
namespace Go.Proofs.Ytbkaedmabdgdhaa.Hd
open Go.RowKit Go.Proofs.Ytbkaedmabdgdhaa.Pure Go.Proofs.YtbkaedmabdgdhaaW.PrintWords Go.Proofs.YtbkaedmabdgdhaaW.PrintLast Go.Proofs.YtbkaedmabdgdhaaW.PrintMore
set_option linter.unusedVariables false
set_option linter.unusedSimpArgs false
set_option maxRecDepth 100000 in
set_option maxHeartbeats 40000000 in
theorem blocksF_sx (w0 W : World) (cs : List Chunk) (l0 : List S_Tile) (A0 : Option Addr) (c0 : Nat) (a1 : Int) (hl0 : l0.length ≤ 1048576) (hc0 : l0.length ≤ c0) (hC0 : ∀ W, Hp w0 cs W → Kd.C k50 W A0 l0.length l0) (hno : ¬ okMg l0 a1) (hp : Hp w0 cs W) :
  Calls Try.prog 28 #[.slice A0 l0.length c0, .int .i64 a1] W fun e W' => e = .returned (.tuple #[.pointer none, .bool false]) ∧ Hp w0 cs W' := by
 refine sx_enter (N := 46) (l := [.slice A0 l0.length c0, .int .i64 a1]) Try.func28 rfl rfl rfl ?_
 refine wp_seq ?_
 refine sx_region ?_
 refine sx_rd 4 (.pointer none) (by rfl) (by kernel_rfl) ?_
 refine sx_rd 5 (.bool false) (by rfl) (by kernel_rfl) ?_
 refine sx_nil ?_
 refine ex_then_n ?_
 refine sx_cut (fun a_ W => ∃ (r_ : List (Nat × Value)) , a_ = fr 46 ([(0, .slice A0 l0.length c0), (1, .int .i64 a1)] ++ r_) ∧ Hp w0 (cs) W ∧ (False)) ?_ ?_
 ·
  refine wp_seq ?_
  rcases Bool.eq_false_or_eq_true (!(handB l0)) with c_1 | c_1
  ·
   refine sx_region ?_
   refine sx_rd 7 (.slice A0 l0.length c0) (by rfl) (by kernel_rfl) ?_
   obtain ⟨k_2, hk_k_2⟩ := Ev.rounds (tiHand_ev l0)
   refine sx_call 8 (by rfl) (by kernel_rfl) ((spec_tiHand.calls k_2 A0 c0 l0 _ _ (hC0 _ hp) hc0 hk_k_2).mono ?_)
   rintro _ W_3 ⟨rfl, hb⟩
   refine ⟨.bool false, congrArg (fun b => Ending.returned (.bool b)) (not_eq c_1), ?_⟩
   replace hp := hp.below hb
   clear hb
   refine sx_rd 9 (.bool true) (by rfl) (by kernel_rfl) ?_
   refine sx_rd 10 (.bool true) (by rfl) (by kernel_rfl) ?_
   refine sx_skip 11 (by rfl) (by rfl) (by rfl) ?_
   refine sx_skip 12 (by rfl) (by rfl) (by rfl) ?_
   refine sx_skip 13 (by rfl) (by rfl) (by rfl) ?_
   refine sx_rd 14 (.bool true) (by rfl) (by kernel_rfl) ?_
   refine sx_rd 15 (.bool true) (by rfl) (by kernel_rfl) ?_
   refine sx_skip 16 (by rfl) (by rfl) (by rfl) ?_
   refine sx_skip 17 (by rfl) (by rfl) (by rfl) ?_
   refine sx_skip 18 (by rfl) (by rfl) (by rfl) ?_
   refine sx_skip 19 (by rfl) (by rfl) (by rfl) ?_
   refine sx_skip 20 (by rfl) (by rfl) (by rfl) ?_
   refine sx_skip 21 (by rfl) (by rfl) (by rfl) ?_
   refine sx_skip 22 (by rfl) (by rfl) (by rfl) ?_
   refine sx_skip 23 (by rfl) (by rfl) (by rfl) ?_
   refine sx_skip 24 (by rfl) (by rfl) (by rfl) ?_
   refine sx_skip 25 (by rfl) (by rfl) (by rfl) ?_
   refine sx_skip 26 (by rfl) (by rfl) (by rfl) ?_
   refine sx_rd 27 (.bool true) (by rfl) (by kernel_rfl) ?_
   refine sx_rd 28 (.bool true) (by rfl) (by kernel_rfl) ?_
   refine sx_skip 29 (by rfl) (by rfl) (by rfl) ?_
   refine sx_skip 30 (by rfl) (by rfl) (by rfl) ?_
   refine sx_skip 31 (by rfl) (by rfl) (by rfl) ?_
   refine sx_rd 32 (.bool true) (by rfl) (by kernel_rfl) ?_
   refine sx_nil ?_
   refine ex_then_n ?_
   refine sx_then true (by rfl) rfl ?_
   refine wp_seq ?_
   refine sx_region ?_
   refine sx_rd 4 (.pointer none) (by rfl) (by kernel_rfl) ?_
   refine sx_rd 5 (.bool false) (by rfl) (by kernel_rfl) ?_
   refine sx_nil ?_
   refine ex_then_n ?_
   refine wp_ret ?_
   refine ex_then_r ?_
   refine sx_end (.tuple #[.pointer none, .bool false]) (res2 4 5 (by rfl)) ?_
   exact ⟨rfl, hp⟩
  ·
   rcases Bool.eq_false_or_eq_true (!(inB 1 3 a1)) with c_4 | c_4
   ·
    refine sx_region ?_
    refine sx_rd 7 (.slice A0 l0.length c0) (by rfl) (by kernel_rfl) ?_
    obtain ⟨k_5, hk_k_5⟩ := Ev.rounds (tiHand_ev l0)
    refine sx_call 8 (by rfl) (by kernel_rfl) ((spec_tiHand.calls k_5 A0 c0 l0 _ _ (hC0 _ hp) hc0 hk_k_5).mono ?_)
    rintro _ W_6 ⟨rfl, hb⟩
    refine ⟨.bool true, congrArg (fun b => Ending.returned (.bool b)) (not_eq c_1), ?_⟩
    replace hp := hp.below hb
    clear hb
    refine sx_rd 9 (.bool false) (by rfl) (by kernel_rfl) ?_
    refine sx_rd 10 (.bool false) (by rfl) (by kernel_rfl) ?_
    refine sx_want (by rfl) ?_
    refine sx_rd 11 (.int .i64 a1) (by rfl) (by kernel_rfl) ?_
    refine sx_want (by rfl) ?_
    refine sx_call 12 (by rfl) (by kernel_rfl) ((spec_l1In.calls a1 1 3 _ _ (l1InM_eq a1 1 3)).mono ?_)
    rintro _ W_7 ⟨rfl, hb⟩
    refine ⟨.bool false, congrArg (fun b => Ending.returned (.bool b)) (not_eq c_4), ?_⟩
    replace hp := hp.below hb.below
    clear hb
    refine sx_want (by rfl) ?_
    refine sx_rd 13 (.bool true) (by rfl) (by kernel_rfl) ?_
    refine sx_rd 14 (.bool true) (by rfl) (by kernel_rfl) ?_
    refine sx_rd 15 (.bool true) (by rfl) (by kernel_rfl) ?_
    refine sx_skip 16 (by rfl) (by rfl) (by rfl) ?_
    refine sx_skip 17 (by rfl) (by rfl) (by rfl) ?_
    refine sx_skip 18 (by rfl) (by rfl) (by rfl) ?_
    refine sx_skip 19 (by rfl) (by rfl) (by rfl) ?_
    refine sx_skip 20 (by rfl) (by rfl) (by rfl) ?_
    refine sx_skip 21 (by rfl) (by rfl) (by rfl) ?_
    refine sx_skip 22 (by rfl) (by rfl) (by rfl) ?_
    refine sx_skip 23 (by rfl) (by rfl) (by rfl) ?_
    refine sx_skip 24 (by rfl) (by rfl) (by rfl) ?_
    refine sx_skip 25 (by rfl) (by rfl) (by rfl) ?_
    refine sx_skip 26 (by rfl) (by rfl) (by rfl) ?_
    refine sx_rd 27 (.bool true) (by rfl) (by kernel_rfl) ?_
    refine sx_rd 28 (.bool true) (by rfl) (by kernel_rfl) ?_
    refine sx_skip 29 (by rfl) (by rfl) (by rfl) ?_
    refine sx_skip 30 (by rfl) (by rfl) (by rfl) ?_
    refine sx_skip 31 (by rfl) (by rfl) (by rfl) ?_
    refine sx_rd 32 (.bool true) (by rfl) (by kernel_rfl) ?_
    refine sx_nil ?_
    refine ex_then_n ?_
    refine sx_then true (by rfl) rfl ?_
    refine wp_seq ?_
    refine sx_region ?_
    refine sx_rd 4 (.pointer none) (by rfl) (by kernel_rfl) ?_
    refine sx_rd 5 (.bool false) (by rfl) (by kernel_rfl) ?_
    refine sx_nil ?_
    refine ex_then_n ?_
    refine wp_ret ?_
    refine ex_then_r ?_
    refine sx_end (.tuple #[.pointer none, .bool false]) (res2 4 5 (by rfl)) ?_
    exact ⟨rfl, hp⟩
   ·
    have hib := inB_iff.1 (show inB 1 3 a1 = true from (not_eq c_4))
    rcases Bool.eq_false_or_eq_true ((l0.length : Int) != a1) with c_8 | c_8
    ·
     have c_8p := ne_of_bne_ c_8
     rcases Bool.eq_false_or_eq_true ((l0.length : Int) != (2 * a1)) with c_9 | c_9
     ·
      have c_9p := ne_of_bne_ c_9
      refine sx_region ?_
      refine sx_rd 7 (.slice A0 l0.length c0) (by rfl) (by kernel_rfl) ?_
      obtain ⟨k_10, hk_k_10⟩ := Ev.rounds (tiHand_ev l0)
      refine sx_call 8 (by rfl) (by kernel_rfl) ((spec_tiHand.calls k_10 A0 c0 l0 _ _ (hC0 _ hp) hc0 hk_k_10).mono ?_)
      rintro _ W_11 ⟨rfl, hb⟩
      refine ⟨.bool true, congrArg (fun b => Ending.returned (.bool b)) (not_eq c_1), ?_⟩
      replace hp := hp.below hb
      clear hb
      refine sx_rd 9 (.bool false) (by rfl) (by kernel_rfl) ?_
      refine sx_rd 10 (.bool false) (by rfl) (by kernel_rfl) ?_
      refine sx_want (by rfl) ?_
      refine sx_rd 11 (.int .i64 a1) (by rfl) (by kernel_rfl) ?_
      refine sx_want (by rfl) ?_
      refine sx_call 12 (by rfl) (by kernel_rfl) ((spec_l1In.calls a1 1 3 _ _ (l1InM_eq a1 1 3)).mono ?_)
      rintro _ W_12 ⟨rfl, hb⟩
      refine ⟨.bool true, congrArg (fun b => Ending.returned (.bool b)) (not_eq c_4), ?_⟩
      replace hp := hp.below hb.below
      clear hb
      refine sx_want (by rfl) ?_
      refine sx_rd 13 (.bool false) (by rfl) (by kernel_rfl) ?_
      refine sx_rd 14 (.bool false) (by rfl) (by kernel_rfl) ?_
      refine sx_rd 15 (.bool false) (by rfl) (by kernel_rfl) ?_
      refine sx_want (by rfl) ?_
      refine sx_rd 16 (.slice A0 l0.length c0) (by rfl) (by kernel_rfl) ?_
      refine sx_want (by rfl) ?_
      refine sx_rd 17 (.int .i64 (l0.length : Int)) (by rfl) (by kernel_rfl) ?_
      refine sx_want (by rfl) ?_
      refine sx_rd 18 (.int .i64 a1) (by rfl) (by kernel_rfl) ?_
      refine sx_want (by rfl) ?_
      refine sx_rd 19 (.bool true) (by rfl) (bv c_8 (by kernel_rfl)) ?_
      refine sx_want (by rfl) ?_
      refine sx_rd 20 (.bool true) (by rfl) (by kernel_rfl) ?_
      refine sx_want (by rfl) ?_
      refine sx_rd 21 (.slice A0 l0.length c0) (by rfl) (by kernel_rfl) ?_
      refine sx_want (by rfl) ?_
      refine sx_rd 22 (.int .i64 (l0.length : Int)) (by rfl) (by kernel_rfl) ?_
      refine sx_want (by rfl) ?_
      refine sx_rd 23 (.int .i64 a1) (by rfl) (by kernel_rfl) ?_
      refine sx_want (by rfl) ?_
      refine sx_rd 24 (.int .i64 (2 * a1)) (by rfl) (wr_ok (by omega) (by kernel_rfl)) ?_
      refine sx_want (by rfl) ?_
      refine sx_rd 25 (.bool true) (by rfl) (bv c_9 (by kernel_rfl)) ?_
      refine sx_want (by rfl) ?_
      refine sx_rd 26 (.bool true) (by rfl) (by kernel_rfl) ?_
      refine sx_rd 27 (.bool true) (by rfl) (by kernel_rfl) ?_
      refine sx_rd 28 (.bool true) (by rfl) (by kernel_rfl) ?_
      refine sx_skip 29 (by rfl) (by rfl) (by rfl) ?_
      refine sx_skip 30 (by rfl) (by rfl) (by rfl) ?_
      refine sx_skip 31 (by rfl) (by rfl) (by rfl) ?_
      refine sx_rd 32 (.bool true) (by rfl) (by kernel_rfl) ?_
      refine sx_nil ?_
      refine ex_then_n ?_
      refine sx_then true (by rfl) rfl ?_
      refine wp_seq ?_
      refine sx_region ?_
      refine sx_rd 4 (.pointer none) (by rfl) (by kernel_rfl) ?_
      refine sx_rd 5 (.bool false) (by rfl) (by kernel_rfl) ?_
      refine sx_nil ?_
      refine ex_then_n ?_
      refine wp_ret ?_
      refine ex_then_r ?_
      refine sx_end (.tuple #[.pointer none, .bool false]) (res2 4 5 (by rfl)) ?_
      exact ⟨rfl, hp⟩
     ·
      have c_9p := eq_of_bne_ c_9
      refine sx_region ?_
      refine sx_rd 7 (.slice A0 l0.length c0) (by rfl) (by kernel_rfl) ?_
      obtain ⟨k_13, hk_k_13⟩ := Ev.rounds (tiHand_ev l0)
      refine sx_call 8 (by rfl) (by kernel_rfl) ((spec_tiHand.calls k_13 A0 c0 l0 _ _ (hC0 _ hp) hc0 hk_k_13).mono ?_)
      rintro _ W_14 ⟨rfl, hb⟩
      refine ⟨.bool true, congrArg (fun b => Ending.returned (.bool b)) (not_eq c_1), ?_⟩
      replace hp := hp.below hb
      clear hb
      refine sx_rd 9 (.bool false) (by rfl) (by kernel_rfl) ?_
      refine sx_rd 10 (.bool false) (by rfl) (by kernel_rfl) ?_
      refine sx_want (by rfl) ?_
      refine sx_rd 11 (.int .i64 a1) (by rfl) (by kernel_rfl) ?_
      refine sx_want (by rfl) ?_
      refine sx_call 12 (by rfl) (by kernel_rfl) ((spec_l1In.calls a1 1 3 _ _ (l1InM_eq a1 1 3)).mono ?_)
      rintro _ W_15 ⟨rfl, hb⟩
      refine ⟨.bool true, congrArg (fun b => Ending.returned (.bool b)) (not_eq c_4), ?_⟩
      replace hp := hp.below hb.below
      clear hb
      refine sx_want (by rfl) ?_
      refine sx_rd 13 (.bool false) (by rfl) (by kernel_rfl) ?_
      refine sx_rd 14 (.bool false) (by rfl) (by kernel_rfl) ?_
      refine sx_rd 15 (.bool false) (by rfl) (by kernel_rfl) ?_
      refine sx_want (by rfl) ?_
      refine sx_rd 16 (.slice A0 l0.length c0) (by rfl) (by kernel_rfl) ?_
      refine sx_want (by rfl) ?_
      refine sx_rd 17 (.int .i64 (l0.length : Int)) (by rfl) (by kernel_rfl) ?_
      refine sx_want (by rfl) ?_
      refine sx_rd 18 (.int .i64 a1) (by rfl) (by kernel_rfl) ?_
      refine sx_want (by rfl) ?_
      refine sx_rd 19 (.bool true) (by rfl) (bv c_8 (by kernel_rfl)) ?_
      refine sx_want (by rfl) ?_
      refine sx_rd 20 (.bool true) (by rfl) (by kernel_rfl) ?_
      refine sx_want (by rfl) ?_
      refine sx_rd 21 (.slice A0 l0.length c0) (by rfl) (by kernel_rfl) ?_
      refine sx_want (by rfl) ?_
      refine sx_rd 22 (.int .i64 (l0.length : Int)) (by rfl) (by kernel_rfl) ?_
      refine sx_want (by rfl) ?_
      refine sx_rd 23 (.int .i64 a1) (by rfl) (by kernel_rfl) ?_
      refine sx_want (by rfl) ?_
      refine sx_rd 24 (.int .i64 (2 * a1)) (by rfl) (wr_ok (by omega) (by kernel_rfl)) ?_
      refine sx_want (by rfl) ?_
      refine sx_rd 25 (.bool false) (by rfl) (bv c_9 (by kernel_rfl)) ?_
      refine sx_want (by rfl) ?_
      refine sx_rd 26 (.bool false) (by rfl) (by kernel_rfl) ?_
      refine sx_rd 27 (.bool false) (by rfl) (by kernel_rfl) ?_
      refine sx_rd 28 (.bool false) (by rfl) (by kernel_rfl) ?_
      refine sx_want (by rfl) ?_
      refine sx_rd 29 (.slice A0 l0.length c0) (by rfl) (by kernel_rfl) ?_
      refine sx_want (by rfl) ?_
      refine sx_rd 30 (.int .i64 (l0.length : Int)) (by rfl) (by kernel_rfl) ?_
      refine sx_want (by rfl) ?_
      refine sx_rd 31 (.bool (decide ((l0.length : Int) > 6))) (by rfl) (by kernel_rfl) ?_
      refine sx_rd 32 (.bool (decide ((l0.length : Int) > 6))) (by rfl) (by kernel_rfl) ?_
      refine sx_nil ?_
      refine ex_then_n ?_
      refine sx_cond (decide ((l0.length : Int) > 6)) (by rfl) (fun c_16 => ?_) (fun c_16 => ?_)
      ·
       have c_16p := of_decide_eq_true c_16
       refine wp_seq ?_
       refine sx_region ?_
       refine sx_rd 4 (.pointer none) (by rfl) (by kernel_rfl) ?_
       refine sx_rd 5 (.bool false) (by rfl) (by kernel_rfl) ?_
       refine sx_nil ?_
       refine ex_then_n ?_
       refine wp_ret ?_
       refine ex_then_r ?_
       refine sx_end (.tuple #[.pointer none, .bool false]) (res2 4 5 (by rfl)) ?_
       exact ⟨rfl, hp⟩
      ·
       have c_16p := of_decide_eq_false c_16
       refine wp_skip ?_
       refine ex_then_n ?_
       have hi3 := inB_iff.1 (not_eq c_4)
       have hok2 : okMg l0 a1 := ⟨(not_eq c_1), by omega, by omega, by omega, by omega⟩
       exact ⟨_, fr_front [(0, .slice A0 l0.length c0), (1, .int .i64 a1)] ⟨rfl, rfl, trivial⟩, hp, hno hok2⟩
    ·
     have c_8p := eq_of_bne_ c_8
     refine sx_region ?_
     refine sx_rd 7 (.slice A0 l0.length c0) (by rfl) (by kernel_rfl) ?_
     obtain ⟨k_17, hk_k_17⟩ := Ev.rounds (tiHand_ev l0)
     refine sx_call 8 (by rfl) (by kernel_rfl) ((spec_tiHand.calls k_17 A0 c0 l0 _ _ (hC0 _ hp) hc0 hk_k_17).mono ?_)
     rintro _ W_18 ⟨rfl, hb⟩
     refine ⟨.bool true, congrArg (fun b => Ending.returned (.bool b)) (not_eq c_1), ?_⟩
     replace hp := hp.below hb
     clear hb
     refine sx_rd 9 (.bool false) (by rfl) (by kernel_rfl) ?_
     refine sx_rd 10 (.bool false) (by rfl) (by kernel_rfl) ?_
     refine sx_want (by rfl) ?_
     refine sx_rd 11 (.int .i64 a1) (by rfl) (by kernel_rfl) ?_
     refine sx_want (by rfl) ?_
     refine sx_call 12 (by rfl) (by kernel_rfl) ((spec_l1In.calls a1 1 3 _ _ (l1InM_eq a1 1 3)).mono ?_)
     rintro _ W_19 ⟨rfl, hb⟩
     refine ⟨.bool true, congrArg (fun b => Ending.returned (.bool b)) (not_eq c_4), ?_⟩
     replace hp := hp.below hb.below
     clear hb
     refine sx_want (by rfl) ?_
     refine sx_rd 13 (.bool false) (by rfl) (by kernel_rfl) ?_
     refine sx_rd 14 (.bool false) (by rfl) (by kernel_rfl) ?_
     refine sx_rd 15 (.bool false) (by rfl) (by kernel_rfl) ?_
     refine sx_want (by rfl) ?_
     refine sx_rd 16 (.slice A0 l0.length c0) (by rfl) (by kernel_rfl) ?_
     refine sx_want (by rfl) ?_
     refine sx_rd 17 (.int .i64 (l0.length : Int)) (by rfl) (by kernel_rfl) ?_
     refine sx_want (by rfl) ?_
     refine sx_rd 18 (.int .i64 a1) (by rfl) (by kernel_rfl) ?_
     refine sx_want (by rfl) ?_
     refine sx_rd 19 (.bool false) (by rfl) (bv c_8 (by kernel_rfl)) ?_
     refine sx_want (by rfl) ?_
     refine sx_rd 20 (.bool false) (by rfl) (by kernel_rfl) ?_
     refine sx_skip 21 (by rfl) (by rfl) (by rfl) ?_
     refine sx_skip 22 (by rfl) (by rfl) (by rfl) ?_
     refine sx_skip 23 (by rfl) (by rfl) (by rfl) ?_
     refine sx_skip 24 (by rfl) (by rfl) (by rfl) ?_
     refine sx_skip 25 (by rfl) (by rfl) (by rfl) ?_
     refine sx_want (by rfl) ?_
     refine sx_rd 26 (.bool false) (by rfl) (by kernel_rfl) ?_
     refine sx_rd 27 (.bool false) (by rfl) (by kernel_rfl) ?_
     refine sx_rd 28 (.bool false) (by rfl) (by kernel_rfl) ?_
     refine sx_want (by rfl) ?_
     refine sx_rd 29 (.slice A0 l0.length c0) (by rfl) (by kernel_rfl) ?_
     refine sx_want (by rfl) ?_
     refine sx_rd 30 (.int .i64 (l0.length : Int)) (by rfl) (by kernel_rfl) ?_
     refine sx_want (by rfl) ?_
     refine sx_rd 31 (.bool (decide ((l0.length : Int) > 6))) (by rfl) (by kernel_rfl) ?_
     refine sx_rd 32 (.bool (decide ((l0.length : Int) > 6))) (by rfl) (by kernel_rfl) ?_
     refine sx_nil ?_
     refine ex_then_n ?_
     refine sx_cond (decide ((l0.length : Int) > 6)) (by rfl) (fun c_20 => ?_) (fun c_20 => ?_)
     ·
      have c_20p := of_decide_eq_true c_20
      refine wp_seq ?_
      refine sx_region ?_
      refine sx_rd 4 (.pointer none) (by rfl) (by kernel_rfl) ?_
      refine sx_rd 5 (.bool false) (by rfl) (by kernel_rfl) ?_
      refine sx_nil ?_
      refine ex_then_n ?_
      refine wp_ret ?_
      refine ex_then_r ?_
      refine sx_end (.tuple #[.pointer none, .bool false]) (res2 4 5 (by rfl)) ?_
      exact ⟨rfl, hp⟩
     ·
      have c_20p := of_decide_eq_false c_20
      refine wp_skip ?_
      refine ex_then_n ?_
      have hi3 := inB_iff.1 (not_eq c_4)
      have hok2 : okMg l0 a1 := ⟨(not_eq c_1), by omega, by omega, by omega, by omega⟩
      exact ⟨_, fr_front [(0, .slice A0 l0.length c0), (1, .int .i64 a1)] ⟨rfl, rfl, trivial⟩, hp, hno hok2⟩
 ·
  rintro _ W_21 ⟨r_, rfl, hp, hF⟩
  exact hF.elim
set_option maxRecDepth 100000 in
set_option maxHeartbeats 40000000 in
theorem blocksT_sx (w0 W : World) (cs : List Chunk) (l0 : List S_Tile) (A0 : Option Addr) (c0 : Nat) (a1 : Int) (hl0 : l0.length ≤ 1048576) (hc0 : l0.length ≤ c0) (hC0 : ∀ W, Hp w0 cs W → Kd.C k50 W A0 l0.length l0) (hok : okMg l0 a1) (hbd : (stFg l0 a1).2 ≤ 1000000000) (hp : Hp w0 cs W) :
  Calls Try.prog 28 #[.slice A0 l0.length c0, .int .i64 a1] W fun e W' => ∃ (g R wd : Nat) (A' : Option Addr) (c' : Nat) (F' : Nat → Prop), e = .returned (.tuple #[.pointer (some ⟨g, 0, none⟩), .bool true]) ∧ a1 = (R : Int) ∧ wdM l0 a1 = wd ∧ Hp w0 (blk g #[.int .i64 (R : Int), .int .i64 (wd : Int), .int .i64 ((stFg l0 a1).2 : Int), .slice A' ((stFg l0 a1).1.length) c'] 48 :: rowS (Kd.slice 3 (Kd.int .i64)) 39 w0.heap.size (.slice A' ((stFg l0 a1).1.length) c') ((stFg l0 a1).1) F' :: cs) W' := by
 refine sx_enter (N := 46) (l := [.slice A0 l0.length c0, .int .i64 a1]) Try.func28 rfl rfl rfl ?_
 refine wp_seq ?_
 refine sx_region ?_
 refine sx_rd 4 (.pointer none) (by rfl) (by kernel_rfl) ?_
 refine sx_rd 5 (.bool false) (by rfl) (by kernel_rfl) ?_
 refine sx_nil ?_
 refine ex_then_n ?_
 refine sx_cut (fun a_ W => ∃ (r_ : List (Nat × Value)) , a_ = fr 46 ([(0, .slice A0 l0.length c0), (1, .int .i64 a1)] ++ r_) ∧ Hp w0 (cs) W ∧ (True)) ?_ ?_
 ·
  refine wp_seq ?_
  rcases Bool.eq_false_or_eq_true (!(handB l0)) with c_1 | c_1
  ·
   refine sx_region ?_
   refine sx_rd 7 (.slice A0 l0.length c0) (by rfl) (by kernel_rfl) ?_
   obtain ⟨k_2, hk_k_2⟩ := Ev.rounds (tiHand_ev l0)
   refine sx_call 8 (by rfl) (by kernel_rfl) ((spec_tiHand.calls k_2 A0 c0 l0 _ _ (hC0 _ hp) hc0 hk_k_2).mono ?_)
   rintro _ W_3 ⟨rfl, hb⟩
   refine ⟨.bool false, congrArg (fun b => Ending.returned (.bool b)) (not_eq c_1), ?_⟩
   replace hp := hp.below hb
   clear hb
   refine sx_rd 9 (.bool true) (by rfl) (by kernel_rfl) ?_
   refine sx_rd 10 (.bool true) (by rfl) (by kernel_rfl) ?_
   refine sx_skip 11 (by rfl) (by rfl) (by rfl) ?_
   refine sx_skip 12 (by rfl) (by rfl) (by rfl) ?_
   refine sx_skip 13 (by rfl) (by rfl) (by rfl) ?_
   refine sx_rd 14 (.bool true) (by rfl) (by kernel_rfl) ?_
   refine sx_rd 15 (.bool true) (by rfl) (by kernel_rfl) ?_
   refine sx_skip 16 (by rfl) (by rfl) (by rfl) ?_
   refine sx_skip 17 (by rfl) (by rfl) (by rfl) ?_
   refine sx_skip 18 (by rfl) (by rfl) (by rfl) ?_
   refine sx_skip 19 (by rfl) (by rfl) (by rfl) ?_
   refine sx_skip 20 (by rfl) (by rfl) (by rfl) ?_
   refine sx_skip 21 (by rfl) (by rfl) (by rfl) ?_
   refine sx_skip 22 (by rfl) (by rfl) (by rfl) ?_
   refine sx_skip 23 (by rfl) (by rfl) (by rfl) ?_
   refine sx_skip 24 (by rfl) (by rfl) (by rfl) ?_
   refine sx_skip 25 (by rfl) (by rfl) (by rfl) ?_
   refine sx_skip 26 (by rfl) (by rfl) (by rfl) ?_
   refine sx_rd 27 (.bool true) (by rfl) (by kernel_rfl) ?_
   refine sx_rd 28 (.bool true) (by rfl) (by kernel_rfl) ?_
   refine sx_skip 29 (by rfl) (by rfl) (by rfl) ?_
   refine sx_skip 30 (by rfl) (by rfl) (by rfl) ?_
   refine sx_skip 31 (by rfl) (by rfl) (by rfl) ?_
   refine sx_rd 32 (.bool true) (by rfl) (by kernel_rfl) ?_
   refine sx_nil ?_
   refine ex_then_n ?_
   refine sx_then true (by rfl) rfl ?_
   refine wp_seq ?_
   refine sx_region ?_
   refine sx_rd 4 (.pointer none) (by rfl) (by kernel_rfl) ?_
   refine sx_rd 5 (.bool false) (by rfl) (by kernel_rfl) ?_
   refine sx_nil ?_
   refine ex_then_n ?_
   refine wp_ret ?_
   refine ex_then_r ?_
   refine sx_end (.tuple #[.pointer none, .bool false]) (res2 4 5 (by rfl)) ?_
   exfalso
   obtain ⟨q1, q2, q3, q4, q5⟩ := hok
   first | omega | (have z : handB l0 = false := (not_eq c_1); rw [q1] at z; cases z)
  ·
   rcases Bool.eq_false_or_eq_true (!(inB 1 3 a1)) with c_4 | c_4
   ·
    refine sx_region ?_
    refine sx_rd 7 (.slice A0 l0.length c0) (by rfl) (by kernel_rfl) ?_
    obtain ⟨k_5, hk_k_5⟩ := Ev.rounds (tiHand_ev l0)
    refine sx_call 8 (by rfl) (by kernel_rfl) ((spec_tiHand.calls k_5 A0 c0 l0 _ _ (hC0 _ hp) hc0 hk_k_5).mono ?_)
    rintro _ W_6 ⟨rfl, hb⟩
    refine ⟨.bool true, congrArg (fun b => Ending.returned (.bool b)) (not_eq c_1), ?_⟩
    replace hp := hp.below hb
    clear hb
    refine sx_rd 9 (.bool false) (by rfl) (by kernel_rfl) ?_
    refine sx_rd 10 (.bool false) (by rfl) (by kernel_rfl) ?_
    refine sx_want (by rfl) ?_
    refine sx_rd 11 (.int .i64 a1) (by rfl) (by kernel_rfl) ?_
    refine sx_want (by rfl) ?_
    refine sx_call 12 (by rfl) (by kernel_rfl) ((spec_l1In.calls a1 1 3 _ _ (l1InM_eq a1 1 3)).mono ?_)
    rintro _ W_7 ⟨rfl, hb⟩
    refine ⟨.bool false, congrArg (fun b => Ending.returned (.bool b)) (not_eq c_4), ?_⟩
    replace hp := hp.below hb.below
    clear hb
    refine sx_want (by rfl) ?_
    refine sx_rd 13 (.bool true) (by rfl) (by kernel_rfl) ?_
    refine sx_rd 14 (.bool true) (by rfl) (by kernel_rfl) ?_
    refine sx_rd 15 (.bool true) (by rfl) (by kernel_rfl) ?_
    refine sx_skip 16 (by rfl) (by rfl) (by rfl) ?_
    refine sx_skip 17 (by rfl) (by rfl) (by rfl) ?_
    refine sx_skip 18 (by rfl) (by rfl) (by rfl) ?_
    refine sx_skip 19 (by rfl) (by rfl) (by rfl) ?_
    refine sx_skip 20 (by rfl) (by rfl) (by rfl) ?_
    refine sx_skip 21 (by rfl) (by rfl) (by rfl) ?_
    refine sx_skip 22 (by rfl) (by rfl) (by rfl) ?_
    refine sx_skip 23 (by rfl) (by rfl) (by rfl) ?_
    refine sx_skip 24 (by rfl) (by rfl) (by rfl) ?_
    refine sx_skip 25 (by rfl) (by rfl) (by rfl) ?_
    refine sx_skip 26 (by rfl) (by rfl) (by rfl) ?_
    refine sx_rd 27 (.bool true) (by rfl) (by kernel_rfl) ?_
    refine sx_rd 28 (.bool true) (by rfl) (by kernel_rfl) ?_
    refine sx_skip 29 (by rfl) (by rfl) (by rfl) ?_
    refine sx_skip 30 (by rfl) (by rfl) (by rfl) ?_
    refine sx_skip 31 (by rfl) (by rfl) (by rfl) ?_
    refine sx_rd 32 (.bool true) (by rfl) (by kernel_rfl) ?_
    refine sx_nil ?_
    refine ex_then_n ?_
    refine sx_then true (by rfl) rfl ?_
    refine wp_seq ?_
    refine sx_region ?_
    refine sx_rd 4 (.pointer none) (by rfl) (by kernel_rfl) ?_
    refine sx_rd 5 (.bool false) (by rfl) (by kernel_rfl) ?_
    refine sx_nil ?_
    refine ex_then_n ?_
    refine wp_ret ?_
    refine ex_then_r ?_
    refine sx_end (.tuple #[.pointer none, .bool false]) (res2 4 5 (by rfl)) ?_
    exfalso
    obtain ⟨q1, q2, q3, q4, q5⟩ := hok
    first | omega | (have z : handB l0 = false := (not_eq c_1); rw [q1] at z; cases z) | (have z : inB 1 3 a1 = false := (not_eq c_4); rw [inB_iff.2 ⟨q2, q3⟩] at z; cases z)
   ·
    have hib := inB_iff.1 (show inB 1 3 a1 = true from (not_eq c_4))
    rcases Bool.eq_false_or_eq_true ((l0.length : Int) != a1) with c_8 | c_8
    ·
     have c_8p := ne_of_bne_ c_8
     rcases Bool.eq_false_or_eq_true ((l0.length : Int) != (2 * a1)) with c_9 | c_9
     ·
      have c_9p := ne_of_bne_ c_9
      refine sx_region ?_
      refine sx_rd 7 (.slice A0 l0.length c0) (by rfl) (by kernel_rfl) ?_
      obtain ⟨k_10, hk_k_10⟩ := Ev.rounds (tiHand_ev l0)
      refine sx_call 8 (by rfl) (by kernel_rfl) ((spec_tiHand.calls k_10 A0 c0 l0 _ _ (hC0 _ hp) hc0 hk_k_10).mono ?_)
      rintro _ W_11 ⟨rfl, hb⟩
      refine ⟨.bool true, congrArg (fun b => Ending.returned (.bool b)) (not_eq c_1), ?_⟩
      replace hp := hp.below hb
      clear hb
      refine sx_rd 9 (.bool false) (by rfl) (by kernel_rfl) ?_
      refine sx_rd 10 (.bool false) (by rfl) (by kernel_rfl) ?_
      refine sx_want (by rfl) ?_
      refine sx_rd 11 (.int .i64 a1) (by rfl) (by kernel_rfl) ?_
      refine sx_want (by rfl) ?_
      refine sx_call 12 (by rfl) (by kernel_rfl) ((spec_l1In.calls a1 1 3 _ _ (l1InM_eq a1 1 3)).mono ?_)
      rintro _ W_12 ⟨rfl, hb⟩
      refine ⟨.bool true, congrArg (fun b => Ending.returned (.bool b)) (not_eq c_4), ?_⟩
      replace hp := hp.below hb.below
      clear hb
      refine sx_want (by rfl) ?_
      refine sx_rd 13 (.bool false) (by rfl) (by kernel_rfl) ?_
      refine sx_rd 14 (.bool false) (by rfl) (by kernel_rfl) ?_
      refine sx_rd 15 (.bool false) (by rfl) (by kernel_rfl) ?_
      refine sx_want (by rfl) ?_
      refine sx_rd 16 (.slice A0 l0.length c0) (by rfl) (by kernel_rfl) ?_
      refine sx_want (by rfl) ?_
      refine sx_rd 17 (.int .i64 (l0.length : Int)) (by rfl) (by kernel_rfl) ?_
      refine sx_want (by rfl) ?_
      refine sx_rd 18 (.int .i64 a1) (by rfl) (by kernel_rfl) ?_
      refine sx_want (by rfl) ?_
      refine sx_rd 19 (.bool true) (by rfl) (bv c_8 (by kernel_rfl)) ?_
      refine sx_want (by rfl) ?_
      refine sx_rd 20 (.bool true) (by rfl) (by kernel_rfl) ?_
      refine sx_want (by rfl) ?_
      refine sx_rd 21 (.slice A0 l0.length c0) (by rfl) (by kernel_rfl) ?_
      refine sx_want (by rfl) ?_
      refine sx_rd 22 (.int .i64 (l0.length : Int)) (by rfl) (by kernel_rfl) ?_
      refine sx_want (by rfl) ?_
      refine sx_rd 23 (.int .i64 a1) (by rfl) (by kernel_rfl) ?_
      refine sx_want (by rfl) ?_
      refine sx_rd 24 (.int .i64 (2 * a1)) (by rfl) (wr_ok (by omega) (by kernel_rfl)) ?_
      refine sx_want (by rfl) ?_
      refine sx_rd 25 (.bool true) (by rfl) (bv c_9 (by kernel_rfl)) ?_
      refine sx_want (by rfl) ?_
      refine sx_rd 26 (.bool true) (by rfl) (by kernel_rfl) ?_
      refine sx_rd 27 (.bool true) (by rfl) (by kernel_rfl) ?_
      refine sx_rd 28 (.bool true) (by rfl) (by kernel_rfl) ?_
      refine sx_skip 29 (by rfl) (by rfl) (by rfl) ?_
      refine sx_skip 30 (by rfl) (by rfl) (by rfl) ?_
      refine sx_skip 31 (by rfl) (by rfl) (by rfl) ?_
      refine sx_rd 32 (.bool true) (by rfl) (by kernel_rfl) ?_
      refine sx_nil ?_
      refine ex_then_n ?_
      refine sx_then true (by rfl) rfl ?_
      refine wp_seq ?_
      refine sx_region ?_
      refine sx_rd 4 (.pointer none) (by rfl) (by kernel_rfl) ?_
      refine sx_rd 5 (.bool false) (by rfl) (by kernel_rfl) ?_
      refine sx_nil ?_
      refine ex_then_n ?_
      refine wp_ret ?_
      refine ex_then_r ?_
      refine sx_end (.tuple #[.pointer none, .bool false]) (res2 4 5 (by rfl)) ?_
      exfalso
      obtain ⟨q1, q2, q3, q4, q5⟩ := hok
      first | omega | (have z : handB l0 = false := (not_eq c_1); rw [q1] at z; cases z) | (have z : inB 1 3 a1 = false := (not_eq c_4); rw [inB_iff.2 ⟨q2, q3⟩] at z; cases z)
     ·
      have c_9p := eq_of_bne_ c_9
      refine sx_region ?_
      refine sx_rd 7 (.slice A0 l0.length c0) (by rfl) (by kernel_rfl) ?_
      obtain ⟨k_13, hk_k_13⟩ := Ev.rounds (tiHand_ev l0)
      refine sx_call 8 (by rfl) (by kernel_rfl) ((spec_tiHand.calls k_13 A0 c0 l0 _ _ (hC0 _ hp) hc0 hk_k_13).mono ?_)
      rintro _ W_14 ⟨rfl, hb⟩
      refine ⟨.bool true, congrArg (fun b => Ending.returned (.bool b)) (not_eq c_1), ?_⟩
      replace hp := hp.below hb
      clear hb
      refine sx_rd 9 (.bool false) (by rfl) (by kernel_rfl) ?_
      refine sx_rd 10 (.bool false) (by rfl) (by kernel_rfl) ?_
      refine sx_want (by rfl) ?_
      refine sx_rd 11 (.int .i64 a1) (by rfl) (by kernel_rfl) ?_
      refine sx_want (by rfl) ?_
      refine sx_call 12 (by rfl) (by kernel_rfl) ((spec_l1In.calls a1 1 3 _ _ (l1InM_eq a1 1 3)).mono ?_)
      rintro _ W_15 ⟨rfl, hb⟩
      refine ⟨.bool true, congrArg (fun b => Ending.returned (.bool b)) (not_eq c_4), ?_⟩
      replace hp := hp.below hb.below
      clear hb
      refine sx_want (by rfl) ?_
      refine sx_rd 13 (.bool false) (by rfl) (by kernel_rfl) ?_
      refine sx_rd 14 (.bool false) (by rfl) (by kernel_rfl) ?_
      refine sx_rd 15 (.bool false) (by rfl) (by kernel_rfl) ?_
      refine sx_want (by rfl) ?_
      refine sx_rd 16 (.slice A0 l0.length c0) (by rfl) (by kernel_rfl) ?_
      refine sx_want (by rfl) ?_
      refine sx_rd 17 (.int .i64 (l0.length : Int)) (by rfl) (by kernel_rfl) ?_
      refine sx_want (by rfl) ?_
      refine sx_rd 18 (.int .i64 a1) (by rfl) (by kernel_rfl) ?_
      refine sx_want (by rfl) ?_
      refine sx_rd 19 (.bool true) (by rfl) (bv c_8 (by kernel_rfl)) ?_
      refine sx_want (by rfl) ?_
      refine sx_rd 20 (.bool true) (by rfl) (by kernel_rfl) ?_
      refine sx_want (by rfl) ?_
      refine sx_rd 21 (.slice A0 l0.length c0) (by rfl) (by kernel_rfl) ?_
      refine sx_want (by rfl) ?_
      refine sx_rd 22 (.int .i64 (l0.length : Int)) (by rfl) (by kernel_rfl) ?_
      refine sx_want (by rfl) ?_
      refine sx_rd 23 (.int .i64 a1) (by rfl) (by kernel_rfl) ?_
      refine sx_want (by rfl) ?_
      refine sx_rd 24 (.int .i64 (2 * a1)) (by rfl) (wr_ok (by omega) (by kernel_rfl)) ?_
      refine sx_want (by rfl) ?_
      refine sx_rd 25 (.bool false) (by rfl) (bv c_9 (by kernel_rfl)) ?_
      refine sx_want (by rfl) ?_
      refine sx_rd 26 (.bool false) (by rfl) (by kernel_rfl) ?_
      refine sx_rd 27 (.bool false) (by rfl) (by kernel_rfl) ?_
      refine sx_rd 28 (.bool false) (by rfl) (by kernel_rfl) ?_
      refine sx_want (by rfl) ?_
      refine sx_rd 29 (.slice A0 l0.length c0) (by rfl) (by kernel_rfl) ?_
      refine sx_want (by rfl) ?_
      refine sx_rd 30 (.int .i64 (l0.length : Int)) (by rfl) (by kernel_rfl) ?_
      refine sx_want (by rfl) ?_
      refine sx_rd 31 (.bool (decide ((l0.length : Int) > 6))) (by rfl) (by kernel_rfl) ?_
      refine sx_rd 32 (.bool (decide ((l0.length : Int) > 6))) (by rfl) (by kernel_rfl) ?_
      refine sx_nil ?_
      refine ex_then_n ?_
      refine sx_cond (decide ((l0.length : Int) > 6)) (by rfl) (fun c_16 => ?_) (fun c_16 => ?_)
      ·
       have c_16p := of_decide_eq_true c_16
       refine wp_seq ?_
       refine sx_region ?_
       refine sx_rd 4 (.pointer none) (by rfl) (by kernel_rfl) ?_
       refine sx_rd 5 (.bool false) (by rfl) (by kernel_rfl) ?_
       refine sx_nil ?_
       refine ex_then_n ?_
       refine wp_ret ?_
       refine ex_then_r ?_
       refine sx_end (.tuple #[.pointer none, .bool false]) (res2 4 5 (by rfl)) ?_
       exfalso
       obtain ⟨q1, q2, q3, q4, q5⟩ := hok
       first | omega | (have z : handB l0 = false := (not_eq c_1); rw [q1] at z; cases z) | (have z : inB 1 3 a1 = false := (not_eq c_4); rw [inB_iff.2 ⟨q2, q3⟩] at z; cases z)
      ·
       have c_16p := of_decide_eq_false c_16
       refine wp_skip ?_
       refine ex_then_n ?_
       have hi3 := inB_iff.1 (not_eq c_4)
       have hok2 : okMg l0 a1 := ⟨(not_eq c_1), by omega, by omega, by omega, by omega⟩
       exact ⟨_, fr_front [(0, .slice A0 l0.length c0), (1, .int .i64 a1)] ⟨rfl, rfl, trivial⟩, hp, trivial⟩
    ·
     have c_8p := eq_of_bne_ c_8
     refine sx_region ?_
     refine sx_rd 7 (.slice A0 l0.length c0) (by rfl) (by kernel_rfl) ?_
     obtain ⟨k_17, hk_k_17⟩ := Ev.rounds (tiHand_ev l0)
     refine sx_call 8 (by rfl) (by kernel_rfl) ((spec_tiHand.calls k_17 A0 c0 l0 _ _ (hC0 _ hp) hc0 hk_k_17).mono ?_)
     rintro _ W_18 ⟨rfl, hb⟩
     refine ⟨.bool true, congrArg (fun b => Ending.returned (.bool b)) (not_eq c_1), ?_⟩
     replace hp := hp.below hb
     clear hb
     refine sx_rd 9 (.bool false) (by rfl) (by kernel_rfl) ?_
     refine sx_rd 10 (.bool false) (by rfl) (by kernel_rfl) ?_
     refine sx_want (by rfl) ?_
     refine sx_rd 11 (.int .i64 a1) (by rfl) (by kernel_rfl) ?_
     refine sx_want (by rfl) ?_
     refine sx_call 12 (by rfl) (by kernel_rfl) ((spec_l1In.calls a1 1 3 _ _ (l1InM_eq a1 1 3)).mono ?_)
     rintro _ W_19 ⟨rfl, hb⟩
     refine ⟨.bool true, congrArg (fun b => Ending.returned (.bool b)) (not_eq c_4), ?_⟩
     replace hp := hp.below hb.below
     clear hb
     refine sx_want (by rfl) ?_
     refine sx_rd 13 (.bool false) (by rfl) (by kernel_rfl) ?_
     refine sx_rd 14 (.bool false) (by rfl) (by kernel_rfl) ?_
     refine sx_rd 15 (.bool false) (by rfl) (by kernel_rfl) ?_
     refine sx_want (by rfl) ?_
     refine sx_rd 16 (.slice A0 l0.length c0) (by rfl) (by kernel_rfl) ?_
     refine sx_want (by rfl) ?_
     refine sx_rd 17 (.int .i64 (l0.length : Int)) (by rfl) (by kernel_rfl) ?_
     refine sx_want (by rfl) ?_
     refine sx_rd 18 (.int .i64 a1) (by rfl) (by kernel_rfl) ?_
     refine sx_want (by rfl) ?_
     refine sx_rd 19 (.bool false) (by rfl) (bv c_8 (by kernel_rfl)) ?_
     refine sx_want (by rfl) ?_
     refine sx_rd 20 (.bool false) (by rfl) (by kernel_rfl) ?_
     refine sx_skip 21 (by rfl) (by rfl) (by rfl) ?_
     refine sx_skip 22 (by rfl) (by rfl) (by rfl) ?_
     refine sx_skip 23 (by rfl) (by rfl) (by rfl) ?_
     refine sx_skip 24 (by rfl) (by rfl) (by rfl) ?_
     refine sx_skip 25 (by rfl) (by rfl) (by rfl) ?_
     refine sx_want (by rfl) ?_
     refine sx_rd 26 (.bool false) (by rfl) (by kernel_rfl) ?_
     refine sx_rd 27 (.bool false) (by rfl) (by kernel_rfl) ?_
     refine sx_rd 28 (.bool false) (by rfl) (by kernel_rfl) ?_
     refine sx_want (by rfl) ?_
     refine sx_rd 29 (.slice A0 l0.length c0) (by rfl) (by kernel_rfl) ?_
     refine sx_want (by rfl) ?_
     refine sx_rd 30 (.int .i64 (l0.length : Int)) (by rfl) (by kernel_rfl) ?_
     refine sx_want (by rfl) ?_
     refine sx_rd 31 (.bool (decide ((l0.length : Int) > 6))) (by rfl) (by kernel_rfl) ?_
     refine sx_rd 32 (.bool (decide ((l0.length : Int) > 6))) (by rfl) (by kernel_rfl) ?_
     refine sx_nil ?_
     refine ex_then_n ?_
     refine sx_cond (decide ((l0.length : Int) > 6)) (by rfl) (fun c_20 => ?_) (fun c_20 => ?_)
     ·
      have c_20p := of_decide_eq_true c_20
      refine wp_seq ?_
      refine sx_region ?_
      refine sx_rd 4 (.pointer none) (by rfl) (by kernel_rfl) ?_
      refine sx_rd 5 (.bool false) (by rfl) (by kernel_rfl) ?_
      refine sx_nil ?_
      refine ex_then_n ?_
      refine wp_ret ?_
      refine ex_then_r ?_
      refine sx_end (.tuple #[.pointer none, .bool false]) (res2 4 5 (by rfl)) ?_
      exfalso
      obtain ⟨q1, q2, q3, q4, q5⟩ := hok
      first | omega | (have z : handB l0 = false := (not_eq c_1); rw [q1] at z; cases z) | (have z : inB 1 3 a1 = false := (not_eq c_4); rw [inB_iff.2 ⟨q2, q3⟩] at z; cases z)
     ·
      have c_20p := of_decide_eq_false c_20
      refine wp_skip ?_
      refine ex_then_n ?_
      have hi3 := inB_iff.1 (not_eq c_4)
      have hok2 : okMg l0 a1 := ⟨(not_eq c_1), by omega, by omega, by omega, by omega⟩
      exact ⟨_, fr_front [(0, .slice A0 l0.length c0), (1, .int .i64 a1)] ⟨rfl, rfl, trivial⟩, hp, trivial⟩
 ·
  rintro _ W_21 ⟨r_, rfl, hp, hF⟩
  obtain ⟨R, wd, rfl, hwd, hR, hR3, hw, hw4, hRm, hn1, hn6⟩ := okMg_at hok
  obtain ⟨hnd, hgd⟩ := okMg_hand hok
  unfold stFg at hbd ⊢
  rw [hwd, Int.toNat_natCast] at hbd ⊢
  have hquo : wrap64 (Int.tdiv (2 * (l0.length : Int)) (R : Int)) = (wd : Int) := by
   rw [show 2 * (l0.length : Int) = (R : Int) * (wd : Int) by rw [← Int.natCast_mul, hRm]; omega, Int.mul_tdiv_cancel_left _ (by omega)]; exact w64 (by unfold small; omega)
  refine wp_seq ?_
  refine sx_region ?_
  refine sx_rd 33 (.int .i64 (R : Int)) (by rfl) (by kernel_rfl) ?_
  refine sx_rd 34 (.slice A0 l0.length c0) (by rfl) (by kernel_rfl) ?_
  refine sx_rd 35 (.int .i64 (l0.length : Int)) (by rfl) (by kernel_rfl) ?_
  refine sx_rd 36 (.int .i64 (2 * (l0.length : Int))) (by rfl) (wr_ok (by omega) (by kernel_rfl)) ?_
  refine sx_rd 37 (.int .i64 (R : Int)) (by rfl) (by kernel_rfl) ?_
  refine sx_rd 38 (.int .i64 (wd : Int)) (by rfl) (by rw [← hquo]; exact quov_run (by rfl) (by rfl) (by rfl) (by omega)) ?_
  refine sx_rd 39 (.agg #[.int .i64 (R : Int), .int .i64 (wd : Int), .int .i64 0, .slice none 0 0]) (by rfl) (by kernel_rfl) ?_
  refine sx_box 40 hp #[.int .i64 (R : Int), .int .i64 (wd : Int), .int .i64 0, .slice none 0 0] 48 (by rfl) (fun W => by kernel_rfl) ?_
  intro g_22 W_23 hp
  refine sx_rd 6 (.pointer (some ⟨g_22, 0, none⟩)) (by rfl) (by kernel_rfl) ?_
  refine sx_nil ?_
  refine ex_then_n ?_
  refine wp_seq ?_
  refine sx_region ?_
  refine sx_rd 41 (.pointer (some ⟨g_22, 0, none⟩)) (by rfl) (by kernel_rfl) ?_
  refine sx_rd 42 (.slice A0 l0.length c0) (by rfl) (by kernel_rfl) ?_
  obtain ⟨k_24, hk_k_24⟩ := Ev.rounds (tiSort_ev l0 (by omega))
  refine sx_call 43 (by rfl) (by kernel_rfl) ((spec_tiSort.calls k_24 A0 c0 l0 _ _ (hC0 _ hp.tail) hc0 hk_k_24).mono ?_)
  rintro _ W_30 ⟨v_26, rfl, hR_25, hb⟩
  refine ⟨_, rfl, ?_⟩
  obtain ⟨A_27, c_28, rfl, hcc_c_28, _⟩ := Kd.R_reads hR_25
  obtain ⟨F_29, hp⟩ : ∃ F, Hp w0 (row k50 50 w0.heap.size (.slice A_27 (sortT l0).length c_28) (sortT l0) F :: blk g_22 #[.int .i64 (R : Int), .int .i64 (wd : Int), .int .i64 0, .slice none 0 0] 48 :: cs) _ := ⟨_, Hp.made hp hb hR_25⟩
  have hp := hp.nilrowS (Kd.slice 3 (Kd.int .i64)) 39 w0.heap.size
  refine sx_call 44 (by rfl) (by kernel_rfl) ((lookM_sx g_22 R wd hw hw4 hR hR3 l0.length w0 _ (row k50 50 w0.heap.size (.slice A_27 ((sortT l0).length) c_28) (sortT l0) F_29 :: cs) (sortT l0) A_27 c_28 (sortT_len1 hnd hgd) (sortT_nodup _) (fun t ht => ((sortT_mem l0 t).1 ht).2) (row_len (hp.at_ 1 _ (by rfl))).2 (fun W h => row_C (h.at_ 0 _ (by rfl))) [] none 0 (by simp; omega) (Nat.le_refl _) (fun W h => Kd.C_nil _ _) ([], 0) none 0 _ hbd (hp.take [2, 0, 1] 3 (by decide) (by simp))).mono ?_)
  rintro _ W_31 ⟨A2, c2, F2, rfl, hp⟩
  refine ⟨_, rfl, ?_⟩
  refine sx_nil ?_
  refine ex_then_n ?_
  refine wp_seq ?_
  refine sx_region ?_
  refine sx_rd 45 (.pointer (some ⟨g_22, 0, none⟩)) (by rfl) (by kernel_rfl) ?_
  refine sx_rd 4 (.pointer (some ⟨g_22, 0, none⟩)) (by rfl) (by kernel_rfl) ?_
  refine sx_rd 5 (.bool true) (by rfl) (by kernel_rfl) ?_
  refine sx_nil ?_
  refine ex_then_n ?_
  refine wp_ret ?_
  refine sx_end (.tuple #[.pointer (some ⟨g_22, 0, none⟩), .bool true]) (res2 4 5 (by rfl)) ?_
  exact ⟨_, R, wd, _, _, _, rfl, rfl, rfl, (hp.take [0, 1] 3 (by decide) (by simp))⟩
end Go.Proofs.Ytbkaedmabdgdhaa.Hd
