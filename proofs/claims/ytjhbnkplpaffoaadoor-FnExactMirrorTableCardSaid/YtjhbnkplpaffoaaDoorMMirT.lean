/- impl.MirrorTable, by hand. -/
import Derived.Test.YtjhbnkplpaffoaaDoorPMirP
import Derived.Test.YtjhbnkplpaffoaaDoorMBytesRow
import Derived.Test.YtjhbnkplpaffoaaDoorMSxM
namespace Go.Proofs.YtjhbnkplpaffoaaDoor.Hd
open Go.RowKit Go.Proofs.YtjhbnkplpaffoaaDoor.Pure Go.Proofs.YtjhbnkplpaffoaaDoorW.PrintWords Go.Proofs.YtjhbnkplpaffoaaDoorW.PrintLast Go.Proofs.YtjhbnkplpaffoaaDoorW.PrintMore
set_option linter.unusedVariables false
set_option linter.unusedSimpArgs false
def impl_MirrorTable.f (s : ByteArray) : Option (ByteArray × Bool) := if s.size ≤ 1048576 then some (mirF s) else none
set_option maxRecDepth 100000 in
set_option maxHeartbeats 40000000 in
theorem impl_MirrorTable.calls (a0 : ByteArray) (r0 : ByteArray) (r1 : Bool) (w : World)  (hmx : ∃ m, w.cell? ⟨0, 0, none⟩ = some (.int .i64 m)) (h : impl_MirrorTable.f a0 = some (r0, r1)) :
  Calls Tryd.prog 18 #[.string a0] w fun e w' => e = .returned (.tuple #[.string r0, .bool r1]) ∧ Below w.heap.size w w' := by
 unfold impl_MirrorTable.f at h
 by_cases hsz : a0.size ≤ 1048576
 case neg => rw [if_neg hsz] at h; cases h
 rw [if_pos hsz] at h
 obtain ⟨cs, hcs⟩ : ∃ cs, cs = [old w w.heap.size] := ⟨_, rfl⟩
 have hp : Hp w cs w := by rw [hcs]; exact Hp.old_start w
 have hc2 : ∀ W, Hp w cs W → Below w.heap.size w W := fun W h => by rw [hcs] at h; exact h.since 0 _ rfl
 have hM : ∀ W, Hp w cs W → ∃ m, W.cell? ⟨0, 0, none⟩ = some (.int .i64 m) := fun W h => hmx.imp fun m q => ((hc2 W h).cell (World.block_lt_of_cell? _ _ q)).trans q
 clear hcs
 refine sx_enter (N := 32) (l := [.string a0]) Tryd.func18 rfl rfl rfl ?_
 refine wp_seq ?_
 refine sx_region ?_
 refine sx_rd 2 (.string (⟨#[]⟩ : ByteArray)) (by rfl) (by kernel_rfl) ?_
 refine sx_rd 3 (.bool false) (by rfl) (by kernel_rfl) ?_
 refine sx_nil ?_
 refine ex_then_n ?_
 refine wp_seq ?_
 refine wp_seq ?_
 refine sx_region ?_
 refine sx_rd 8 (.string a0) (by rfl) (by kernel_rfl) ?_
 obtain ⟨k_1, hk_k_1⟩ := Ev.rounds (implIsTable_ev a0 hsz)
 refine sx_call 9 (by rfl) (by kernel_rfl) ((impl_IsTable.calls k_1 a0 _ _ (hM _ (hp)) hk_k_1).mono ?_)
 rintro _ W_2 ⟨rfl, hb⟩
 refine ⟨_, rfl, ?_⟩
 replace hp := hp.below hb
 clear hb
 refine sx_rd 10 (.bool (!(isTab a0))) (by rfl) (by kernel_rfl) ?_
 refine sx_nil ?_
 refine ex_then_n ?_
 refine sx_cond (!(isTab a0)) (by rfl) (fun c_3 => ?_) (fun c_3 => ?_)
 ·
  refine wp_seq ?_
  refine sx_region ?_
  refine sx_rd 2 (.string (⟨#[]⟩ : ByteArray)) (by rfl) (by kernel_rfl) ?_
  refine sx_rd 3 (.bool false) (by rfl) (by kernel_rfl) ?_
  refine sx_nil ?_
  refine ex_then_n ?_
  refine wp_ret ?_
  refine ex_then_r ?_
  refine sx_end (.tuple #[.string (⟨#[]⟩ : ByteArray), .bool false]) (res2 2 3 (by rfl)) ?_
  rw [show mirF a0 = (⟨#[]⟩, false) from if_neg (by rw [(not_eq c_3)]; simp)] at h; simp only [Option.some.injEq, Prod.mk.injEq] at h; obtain ⟨rfl, rfl⟩ := h
  exact ⟨rfl, hc2 _ (hp)⟩
 ·
  refine wp_skip ?_
  refine ex_then_n ?_
  refine wp_seq ?_
  refine sx_region ?_
  refine sx_rd 11 (.string a0) (by rfl) (by kernel_rfl) ?_
  refine sx_call 12 (by rfl) (by kernel_rfl) ((strings_Split.calls a0 (⟨#[47]⟩ : ByteArray) _ _ (hM _ (hp)) (split_f a0 hsz)).mono ?_)
  rintro _ W_9 ⟨v_5, rfl, hR_4, hb⟩
  refine ⟨_, rfl, ?_⟩
  obtain ⟨A_6, c_7, rfl, hcc_c_7, _⟩ := Kd.R_reads hR_4
  obtain ⟨F_8, hp⟩ : ∃ F, Hp w (row Kd.string 9 w.heap.size (.slice A_6 (rowsB a0).length c_7) (rowsB a0) F :: cs) _ := ⟨_, Hp.made hp hb hR_4⟩
  refine sx_rd 4 (.slice A_6 ((rowsB a0).length) c_7) (by rfl) (by kernel_rfl) ?_
  refine sx_nil ?_
  refine ex_then_n ?_
  refine wp_seq ?_
  refine wp_seq ?_
  refine sx_region ?_
  refine sx_rd 13 (.slice A_6 ((rowsB a0).length) c_7) (by rfl) (by kernel_rfl) ?_
  refine sx_rd 14 (.int .i64 ((rowsB a0).length : Int)) (by rfl) (by kernel_rfl) ?_
  refine sx_rd 15 (.int .i64 0) (by rfl) (by kernel_rfl) ?_
  refine sx_nil ?_
  refine ex_then_n ?_
  refine wp_block ?_
  obtain ⟨gR, rfl⟩ := row_form (hp.at_ 0 _ (by rfl)) (by have := w0_le a0; omega)
  have e0_10 : (rowsB a0) = (mirR (rowsB a0) 0) := (mirR_0 (rowsB a0)).symm
  have hp : Hp w (row Kd.string 9 w.heap.size (.slice (some ⟨gR, 0, none⟩) ((rowsB a0).length) c_7) (mirR (rowsB a0) 0) F_8 :: cs) W_9 := by rw [← e0_10]; exact hp
  refine wp_loop_ghost (fun n_ a_ W => ∃ (r_ : List (Nat × Value)) (i : Nat) (Fi4 : Nat → Prop), n_ = (rowsB a0).length - i ∧ a_ = fr 32 ([(4, .slice (some ⟨gR, 0, none⟩) ((rowsB a0).length) c_7), (13, .slice (some ⟨gR, 0, none⟩) ((rowsB a0).length) c_7), (14, .int .i64 ((rowsB a0).length : Int)), (15, .int .i64 (i : Int))] ++ r_) ∧ Hp w (row Kd.string 9 w.heap.size (.slice (some ⟨gR, 0, none⟩) ((rowsB a0).length) c_7) (mirR (rowsB a0) i) Fi4 :: cs) W ∧ (i ≤ (rowsB a0).length)) _ ⟨_, 0, _, rfl, fr_front [(4, .slice (some ⟨gR, 0, none⟩) ((rowsB a0).length) c_7), (13, .slice (some ⟨gR, 0, none⟩) ((rowsB a0).length) c_7), (14, .int .i64 ((rowsB a0).length : Int)), (15, .int .i64 0)] ⟨rfl, rfl, rfl, rfl, trivial⟩, (hp.take [0] 1 (by decide) (by simp)), Nat.zero_le _⟩ ?_
  rintro _ _ W_11 ⟨r_, i, Fi4, rfl, rfl, hp, hi⟩
  have hw0 := w0_le a0
  have hml := mirR_len (rowsB a0) i (by omega)
  have hrl := rows_le2 a0
  refine wp_seq ?_
  refine sx_region ?_
  refine sx_rd 16 (.bool (decide ((i : Int) < ((rowsB a0).length : Int)))) (by rfl) (by kernel_rfl) ?_
  refine sx_nil ?_
  refine ex_then_n ?_
  refine wp_seq ?_
  refine sx_cond (decide ((i : Int) < ((rowsB a0).length : Int))) (by rfl) (fun c_12 => ?_) (fun c_12 => ?_)
  ·
   have c_12p := of_decide_eq_true c_12
   refine wp_skip ?_
   refine ex_then_n ?_
   refine wp_seq ?_
   refine wp_block ?_
   refine wp_seq ?_
   refine sx_region ?_
   refine sx_rd 17 (.int .i64 (i : Int)) (by rfl) (by kernel_rfl) ?_
   refine sx_rd 18 (.pointer (some (adr (some ⟨gR, 0, none⟩) (i : Int) 1))) (by rfl) (ix_run (d := Kd.string) (row_Cn (hp.at_ 0 _ (by rfl))) (t := 59) (by rfl) (by rfl) (by rfl) Tryd.underlying59 (by kernel_rfl) (by omega) (by omega)) ?_
   refine sx_rd 19 (.string (rdOf ByteArray.empty (mirR (rowsB a0) i) (i : Int))) (by rfl) (ld1 (t := 9) (p := (.tmp 18)) (by rfl) (by rfl) (by kernel_rfl) (el_cell (d := Kd.string) (row_C (hp.at_ 0 _ (by rfl))) ByteArray.empty (i : Int) (by omega) (by omega) (cells := [.string (rdOf ByteArray.empty (mirR (rowsB a0) i) (i : Int))]) (fun cs h => h) 0 _ (by rfl))) ?_
   refine sx_rd 5 (.int .i64 (i : Int)) (by rfl) (by kernel_rfl) ?_
   refine sx_rd 6 (.string (rdOf ByteArray.empty (mirR (rowsB a0) i) (i : Int))) (by rfl) (by kernel_rfl) ?_
   refine sx_nil ?_
   refine ex_then_n ?_
   refine wp_seq ?_
   refine sx_region ?_
   refine sx_rd 20 (.string (rdOf ByteArray.empty (mirR (rowsB a0) i) (i : Int))) (by rfl) (by kernel_rfl) ?_
   refine sx_bytes 21 (by rfl) (by rfl) (by rfl) Tryd.underlying9 Tryd.underlying57 Tryd.underlying5 hp ?_
   intro g_13 c_14 W_15 hp
   refine sx_rd 7 (.slice (some ⟨g_13, 0, none⟩) ((rdOf ByteArray.empty (mirR (rowsB a0) i) (i : Int)).data.toList.length) c_14) (by rfl) (by kernel_rfl) ?_
   refine sx_nil ?_
   refine ex_then_n ?_
   refine wp_seq ?_
   refine sx_region ?_
   refine sx_rd 22 (.slice (some ⟨g_13, 0, none⟩) ((rdOf ByteArray.empty (mirR (rowsB a0) i) (i : Int)).data.toList.length) c_14) (by rfl) (by kernel_rfl) ?_
   refine sx_call 23 (by rfl) (by kernel_rfl) ((reverse_sx g_13 c_14 ((rdOf ByteArray.empty (mirR (rowsB a0) i) (i : Int)).data.toList) (by have := hrl i (by omega); omega) hp).mono ?_)
   rintro _ W_16 ⟨rfl, hp⟩
   refine ⟨_, rfl, ?_⟩
   refine sx_nil ?_
   refine ex_then_n ?_
   refine sx_region ?_
   refine sx_rd 24 (.slice (some ⟨gR, 0, none⟩) ((rowsB a0).length) c_7) (by rfl) (by kernel_rfl) ?_
   refine sx_rd 25 (.int .i64 (i : Int)) (by rfl) (by kernel_rfl) ?_
   refine sx_rd 26 (.slice (some ⟨g_13, 0, none⟩) ((rdOf ByteArray.empty (mirR (rowsB a0) i) (i : Int)).data.toList.length) c_14) (by rfl) (by kernel_rfl) ?_
   refine sx_rd 27 (.string (⟨((rdOf ByteArray.empty (mirR (rowsB a0) i) (i : Int)).data.toList.reverse).toArray⟩ : ByteArray)) (by rfl) (back_run (g := g_13) (c := c_14) (l := ((rdOf ByteArray.empty (mirR (rowsB a0) i) (i : Int)).data.toList.reverse)) (by rfl) (by first | rfl | (simp only [List.length_reverse]; rfl)) Tryd.underlying57 Tryd.underlying5 Tryd.underlying9 (hp.at_ 0 _ (by rfl))) ?_
   refine sx_rd 28 (.pointer (some (adr (some ⟨gR, 0, none⟩) (i : Int) 1))) (by rfl) (ix_run (d := Kd.string) (row_Cn (hp.at_ 1 _ (by rfl))) (t := 59) (by rfl) (by rfl) (by rfl) Tryd.underlying59 (by kernel_rfl) (by omega) (by omega)) ?_
   refine sx_rowstore (t := 9) (p := (.tmp 28)) (x := (.tmp 27)) (by rfl) (by rfl) 1 Kd.string (by rfl) (i : Int) (⟨((rdOf ByteArray.empty (mirR (rowsB a0) i) (i : Int)).data.toList.reverse).toArray⟩ : ByteArray) [.string (⟨((rdOf ByteArray.empty (mirR (rowsB a0) i) (i : Int)).data.toList.reverse).toArray⟩ : ByteArray)] (by rfl) (by rfl) (by kernel_rfl) (by simp [Value.oneCell']) (by rfl) (by omega) (by omega) ByteArray.empty (fun _ => rfl) hp ?_
   intro F_17 W_18 hp; simp only [List.set_cons_succ, List.set_cons_zero] at hp
   refine sx_nil ?_
   refine ex_blk_n ?_
   refine ex_then_n ?_
   refine sx_region ?_
   refine sx_rd 29 (.int .i64 ((i : Int) + 1)) (by rfl) (wr_ok (by omega) (by kernel_rfl)) ?_
   refine sx_rd 15 (.int .i64 ((i : Int) + 1)) (by rfl) (by kernel_rfl) ?_
   refine sx_nil ?_
   refine ex_then_n ?_
   have hq_19 : ((mirR (rowsB a0) i).set ((i : Int)).toNat (⟨((rdOf ByteArray.empty (mirR (rowsB a0) i) (i : Int)).data.toList.reverse).toArray⟩ : ByteArray)) = (mirR (rowsB a0) (i + 1)) := by rw [Int.toNat_natCast, mirR_at (rowsB a0) i (by omega)]; exact mirR_set (rowsB a0) i (by omega)
   rw [hq_19] at hp
   exact ⟨_, (by omega), _, (i + 1), _, rfl, fr_front [(4, .slice (some ⟨gR, 0, none⟩) ((rowsB a0).length) c_7), (13, .slice (some ⟨gR, 0, none⟩) ((rowsB a0).length) c_7), (14, .int .i64 ((rowsB a0).length : Int)), (15, .int .i64 ((i + 1 : Nat) : Int))] ⟨rfl, rfl, rfl, rfl, trivial⟩, (hp.take [1] 2 (by decide) (by simp)), (by omega)⟩
  ·
   have c_12p := of_decide_eq_false c_12
   obtain rfl : i = (rowsB a0).length := by omega
   rw [mirR_all] at hp
   have hn1 : (rowsB a0).length = ((rowsB a0).map revB).length := by simp
   rw [hn1] at hp
   rw [hn1]
   refine wp_exit ?_
   refine ex_then_e (ex_then_e (ex_blk_here ?_))
   refine ex_then_n ?_
   refine wp_seq ?_
   refine sx_region ?_
   refine sx_rd 30 (.slice (some ⟨gR, 0, none⟩) (((rowsB a0).map revB).length) c_7) (by rfl) (by kernel_rfl) ?_
   refine sx_call 31 (by rfl) (by kernel_rfl) ((strings_Join.calls (some ⟨gR, 0, none⟩) c_7 ((rowsB a0).map revB) (⟨#[47]⟩ : ByteArray) _ _ (row_C (hp.at_ 0 _ (by rfl))) (row_len (hp.at_ 0 _ (by rfl))).2 (join_f _ (by have := rows_sum a0; omega))).mono ?_)
   rintro _ W_20 ⟨rfl, hb⟩
   refine ⟨_, rfl, ?_⟩
   replace hp := hp.below hb
   clear hb
   refine sx_rd 2 (.string (joinB ((rowsB a0).map revB))) (by rfl) (by kernel_rfl) ?_
   refine sx_rd 3 (.bool true) (by rfl) (by kernel_rfl) ?_
   refine sx_nil ?_
   refine ex_then_n ?_
   refine wp_ret ?_
   refine sx_end (.tuple #[.string (joinB ((rowsB a0).map revB)), .bool true]) (res2 2 3 (by rfl)) ?_
   rw [show mirF a0 = (joinB ((rowsB a0).map revB), true) from if_pos (not_eq c_3)] at h; simp only [Option.some.injEq, Prod.mk.injEq] at h; obtain ⟨rfl, rfl⟩ := h
   exact ⟨rfl, hc2 _ (hp.tail)⟩
end Go.Proofs.YtjhbnkplpaffoaaDoor.Hd
