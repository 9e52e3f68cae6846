/- The closure of impl.windows, by hand. -/
import Derived.Test.YtbkaedmabdgdhaaPWinA
import Derived.Test.YtbkaedmabdgdhaaMSxW
import Derived.Test.YtbkaedmabdgdhaaMSx2
import Derived.Test.YtbkaedmabdgdhaaMTileR
namespace Go.Proofs.Ytbkaedmabdgdhaa.Hd
open Go.RowKit Go.Proofs.Ytbkaedmabdgdhaa.Pure Go.Proofs.YtbkaedmabdgdhaaW.PrintWords Go.Proofs.YtbkaedmabdgdhaaW.PrintLast Go.Proofs.YtbkaedmabdgdhaaW.PrintMore
set_option linter.unusedVariables false
set_option linter.unusedSimpArgs false
set_option maxRecDepth 100000 in
set_option maxHeartbeats 40000000 in
theorem keep_sx (gO : Nat) (w0 W : World) (cs : List Chunk) (out : List (List Int)) (Ao : Option Addr) (co : Nat) (Fo : Nat → Prop) (l : List Int) (Al : Option Addr) (cl : Nat) (Fl : Nat → Prop) (hl8 : l.length = 8) (h9 : ∀ x ∈ l, 0 ≤ x ∧ x ≤ 9) (hn : out.length ≤ 1000000) (hp : Hp w0 (row (Kd.int .i64) 3 w0.heap.size (.slice Al l.length cl) l Fl :: blk gO #[.slice Ao out.length co] 30 :: rowS (Kd.slice 3 (Kd.int .i64)) 39 w0.heap.size (.slice Ao out.length co) out Fo :: cs) W) :
    Calls Try.prog 55 #[.slice Al l.length cl, .pointer (some ⟨gO, 0, none⟩)] W fun e W' => ∃ A' c' F', e = .returned (.tuple #[]) ∧ Hp w0 (blk gO #[.slice A' ((stepW out l).length) c'] 30 :: rowS (Kd.slice 3 (Kd.int .i64)) 39 w0.heap.size (.slice A' ((stepW out l).length) c') (stepW out l) F' :: cs) W' := by
  refine sx_enter (N := 15) (l := [.slice Al l.length cl, .pointer (some ⟨gO, 0, none⟩)]) Try.func55 rfl rfl rfl ?_
  refine wp_seq ?_
  rcases Bool.eq_false_or_eq_true (one (sid l)) with c_1 | c_1
  ·
    refine sx_region ?_
    refine sx_rd 3 (.slice Al l.length cl) (by rfl) (by kernel_rfl) ?_
    obtain ⟨k_2, hk_k_2⟩ := Ev.rounds (isFair_ev l hl8 h9)
    refine sx_call 4 (by rfl) (by kernel_rfl) ((impl_isFair.calls k_2 Al cl l _ _ (row_C (hp.at_ 0 _ (by rfl))) (row_len (hp.at_ 0 _ (by rfl))).2 hk_k_2).mono ?_)
    rintro _ W_3 ⟨rfl, hb⟩
    refine ⟨.bool true, congrArg (fun b => Ending.returned (.bool b)) c_1, ?_⟩
    replace hp := hp.below hb
    clear hb
    refine sx_rd 5 (.bool true) (by rfl) (by kernel_rfl) ?_
    refine sx_want (by rfl) ?_
    refine sx_rd 6 (.slice Al l.length cl) (by rfl) (by kernel_rfl) ?_
    refine sx_want (by rfl) ?_
    obtain ⟨k_4, hk_k_4⟩ := Ev.rounds (leastWindow_ev l hl8)
    refine sx_call 7 (by rfl) (by kernel_rfl) ((impl_leastWindow.calls k_4 Al cl l _ _ (row_C (hp.at_ 0 _ (by rfl))) (row_len (hp.at_ 0 _ (by rfl))).2 hk_k_4).mono ?_)
    rintro _ W_10 ⟨v_6, rfl, hR_5, hb⟩
    refine ⟨_, rfl, ?_⟩
    obtain ⟨A_7, c_8, rfl, hcc_c_8, _⟩ := Kd.R_reads hR_5
    obtain ⟨F_9, hp⟩ : ∃ F, Hp w0 (row (Kd.int .i64) 3 w0.heap.size (.slice A_7 (leastW l 3 1 l).length c_8) (leastW l 3 1 l) F :: row (Kd.int .i64) 3 w0.heap.size (.slice Al l.length cl) l Fl :: blk gO #[.slice Ao out.length co] 30 :: rowS (Kd.slice 3 (Kd.int .i64)) 39 w0.heap.size (.slice Ao out.length co) out Fo :: cs) _ := ⟨_, Hp.made hp hb hR_5⟩
    refine sx_want (by rfl) ?_
    refine sx_rd 8 (.slice Al l.length cl) (by rfl) (by kernel_rfl) ?_
    refine sx_want (by rfl) ?_
    obtain ⟨k_11, hk_k_11⟩ := Ev.rounds (equalI_ev _ _ (by rw [leastW_len l hl8 3 1 l (by omega) hl8]; omega))
    refine sx_call 9 (by rfl) (by kernel_rfl) ((slices_Equal_int_int.calls k_11 A_7 c_8 (leastW l 3 1 l) Al cl l _ _ (row_C (hp.at_ 0 _ (by rfl))) (row_len (hp.at_ 0 _ (by rfl))).2 (row_C (hp.at_ 1 _ (by rfl))) (row_len (hp.at_ 1 _ (by rfl))).2 hk_k_11).mono ?_)
    rintro _ W_12 ⟨rfl, hb⟩
    refine ⟨_, rfl, ?_⟩
    replace hp := hp.below hb.below
    clear hb
    refine sx_rd 10 (.bool (decide (leastW l 3 1 l = l))) (by rfl) (by kernel_rfl) ?_
    refine sx_nil ?_
    refine ex_then_n ?_
    refine sx_cond (decide (leastW l 3 1 l = l)) (by rfl) (fun c_13 => ?_) (fun c_13 => ?_)
    ·
      have c_13p := of_decide_eq_true c_13
      refine sx_region ?_
      refine sx_rd 11 (.slice Ao out.length co) (by rfl) (ld1 (t := 30) (p := (.tmp 1)) (by rfl) (by rfl) (by kernel_rfl) (hp.cell 2 (by rfl) 0 _ (by rfl))) ?_
      refine sx_rd 12 (.slice Al l.length cl) (by rfl) (by kernel_rfl) ?_
      have hp := (hp.take [3, 1, 0, 2] 4 (by decide) (by simp))
      refine sx_pushS 13 14 (by rfl) (by rfl) (fun W => by kernel_rfl) (t := 30) (.slice none 0 0) 24 (by rfl) Try.underlying30 (by kernel_rfl) rfl (by decide) (by rfl) (by rfl) hp.size (by omega) hp ?_
      intro A_14 c_15 F_16 W_17 hp
      refine sx_store (t := 30) (p := (.tmp 1)) (x := (.tmp 14)) (by rfl) (by rfl) 2 (by rfl) 0 [.slice A_14 ((out ++ [l]).length) c_15] (by rfl) (by rfl) (by kernel_rfl) (by simp [Value.oneCell']) (by show 1 ≤ 1; omega) #[.slice A_14 ((out ++ [l]).length) c_15] (by rfl) hp ?_
      intro W_18 hp; simp only [List.set_cons_succ, List.set_cons_zero] at hp
      refine sx_nil ?_
      refine sx_end_n (.tuple #[]) (res0 (by rfl)) ?_
      have hs : stepW out l = (out ++ [l]) := by unfold stepW keepW; simp [c_1, c_13]
      rw [hs]
      exact ⟨_, _, _, rfl, (hp.take [2, 0] 3 (by decide) (by simp))⟩
    ·
      have c_13p := of_decide_eq_false c_13
      refine wp_skip ?_
      refine sx_end_n (.tuple #[]) (res0 (by rfl)) ?_
      have hs : stepW out l = out := by unfold stepW keepW; simp [c_1, c_13]
      rw [hs]
      exact ⟨_, _, _, rfl, (hp.take [2, 3] 4 (by decide) (by simp))⟩
  ·
    refine sx_region ?_
    refine sx_rd 3 (.slice Al l.length cl) (by rfl) (by kernel_rfl) ?_
    obtain ⟨k_19, hk_k_19⟩ := Ev.rounds (isFair_ev l hl8 h9)
    refine sx_call 4 (by rfl) (by kernel_rfl) ((impl_isFair.calls k_19 Al cl l _ _ (row_C (hp.at_ 0 _ (by rfl))) (row_len (hp.at_ 0 _ (by rfl))).2 hk_k_19).mono ?_)
    rintro _ W_20 ⟨rfl, hb⟩
    refine ⟨.bool false, congrArg (fun b => Ending.returned (.bool b)) c_1, ?_⟩
    replace hp := hp.below hb
    clear hb
    refine sx_rd 5 (.bool false) (by rfl) (by kernel_rfl) ?_
    refine sx_skip 6 (by rfl) (by rfl) (by rfl) ?_
    refine sx_skip 7 (by rfl) (by rfl) (by rfl) ?_
    refine sx_skip 8 (by rfl) (by rfl) (by rfl) ?_
    refine sx_skip 9 (by rfl) (by rfl) (by rfl) ?_
    refine sx_rd 10 (.bool false) (by rfl) (by kernel_rfl) ?_
    refine sx_nil ?_
    refine ex_then_n ?_
    refine sx_else false (by rfl) rfl ?_
    refine wp_skip ?_
    refine sx_end_n (.tuple #[]) (res0 (by rfl)) ?_
    have hs : stepW out l = out := by unfold stepW keepW; simp [c_1]
    rw [hs]
    exact ⟨_, _, _, rfl, (hp.take [1, 2] 3 (by decide) (by simp))⟩
end Go.Proofs.Ytbkaedmabdgdhaa.Hd
