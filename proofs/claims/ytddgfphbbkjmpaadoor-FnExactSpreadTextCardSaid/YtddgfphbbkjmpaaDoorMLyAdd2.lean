/- spec's spreads, by hand: a play more. -/
import Derived.Test.YtddgfphbbkjmpaaDoorG1
import Derived.Test.YtddgfphbbkjmpaaDoorG1
import Derived.Test.YtddgfphbbkjmpaaDoorG0
import Derived.Test.YtddgfphbbkjmpaaDoorG1
import Derived.Test.YtddgfphbbkjmpaaDoorMLyS
namespace Go.Proofs.YtddgfphbbkjmpaaDoor.Hd
open Go.RowKit Go.Proofs.YtddgfphbbkjmpaaDoor.Pure Go.Proofs.YtddgfphbbkjmpaaDoorW.PrintWords Go.Proofs.YtddgfphbbkjmpaaDoorW.PrintLast Go.Proofs.YtddgfphbbkjmpaaDoorW.PrintMore
set_option linter.unusedVariables false
set_option linter.unusedSimpArgs false
theorem place_c (l : List S_Tile) (hl : l.length ≤ 8388608) (t : S_Tile) (A : Option Addr) (c : Nat) (hc : l.length ≤ c) (w : World) (h : Kd.C k34 w A l.length l) :
  Calls Tryd.prog 27 #[.slice A l.length c, .agg #[.int .i64 t.f0, .int .i64 t.f1]] w fun e w' => e = .returned (.int .i64 (idxT l t)) ∧ Below w.heap.size w w' := by
 obtain ⟨k, hk⟩ := (tiPlace_ev l hl t).rounds
 exact spec_tiPlace.calls k A c l t.f0 t.f1 _ w h hc hk
theorem haOther_eq (t : S_Tile) (e : Int) : spec_haOther.f t.f0 t.f1 e = some (othT t e) := by
 unfold spec_haOther.f othT
 split <;> (try split) <;> rfl
theorem haOther_c (t : S_Tile) (x : Int) (w : World) : Calls Tryd.prog 29 #[.agg #[.int .i64 t.f0, .int .i64 t.f1], .int .i64 x] w fun e w' => e = .returned (.int .i64 (othT t x)) ∧ Below w.heap.size w w' :=
 spec_haOther.calls t.f0 t.f1 x _ w (haOther_eq t x)
theorem l1In_c (x lo hi : Int) (w : World) : Calls Tryd.prog 28 #[.int .i64 x, .int .i64 lo, .int .i64 hi] w fun e w' => e = .returned (.bool (decide (lo ≤ x) && decide (x ≤ hi))) ∧ Drawn0 w w' :=
 spec_l1In.calls x lo hi _ w (by unfold spec_l1In.f; by_cases h : lo ≤ x <;> simp [h])
theorem and_dec {a b : Bool} (h : (a && b) = true) : a = true ∧ b = true := by simpa using h
set_option maxRecDepth 100000 in
set_option maxHeartbeats 40000000 in
theorem lyAdd_sx (w0 W : World) (cs : List Chunk) (g : Nat) (s : LySt) (A1 : Option Addr) (c1 : Nat) (A2 : Option Addr) (c2 : Nat) (b : Nat) (F1 F2 : Nat → Prop) (p : S_Play) (hb0 : b ≤ w0.heap.size) (hti : s.ti.length ≤ 28) (har : s.ar.length ≤ 100) (hp : Hp w0 (blk g #[.slice A1 s.ar.length c1, .slice A2 s.ti.length c2, .int .i64 s.sp, .int .i64 s.wt, .bool s.fi, .bool s.l0, .bool s.l1] 68 :: row k72 72 b (.slice A1 s.ar.length c1) s.ar F1 :: row k34 34 b (.slice A2 s.ti.length c2) s.ti F2 :: cs) W) :
  Calls Tryd.prog 18 #[.pointer (some ⟨g, 0, none⟩), .agg #[.int .i64 p.f0.f0, .int .i64 p.f0.f1, .int .i64 p.f1]] W fun e W' => ∃ s' A1' c1' A2' c2' F1' F2', e = .returned (.bool (lyCan s p)) ∧ s' = (if lyCan s p = true then lyDo s p else s) ∧ Hp w0 (blk g #[.slice A1' s'.ar.length c1', .slice A2' s'.ti.length c2', .int .i64 s'.sp, .int .i64 s'.wt, .bool s'.fi, .bool s'.l0, .bool s'.l1] 68 :: row k72 72 b (.slice A1' s'.ar.length c1') s'.ar F1' :: row k34 34 b (.slice A2' s'.ti.length c2') s'.ti F2' :: cs) W' := by
 refine sx_enter (N := 221) (l := [.pointer (some ⟨g, 0, none⟩), .agg #[.int .i64 p.f0.f0, .int .i64 p.f0.f1, .int .i64 p.f1]]) Tryd.func18 rfl rfl rfl ?_
 refine wp_seq ?_
 refine sx_region ?_
 refine sx_box 3 hp #[.int .i64 p.f0.f0, .int .i64 p.f0.f1, .int .i64 p.f1] 36 (by rfl) (fun W => by kernel_rfl) ?_
 intro g_1 W_2 hp
 refine sx_rd 4 (.bool false) (by rfl) (by kernel_rfl) ?_
 refine sx_nil ?_
 refine ex_then_n ?_
 refine wp_seq ?_
 refine wp_seq ?_
 rcases Bool.eq_false_or_eq_true (!(goodT p.f0)) with c_3 | c_3
 ·
  refine sx_drawT [0] (.rd 1 (.alt 2 (.rd 3 (.rd 4 (.rd 5 (.rd 6 (.rd 7 (.rd 8 (.rd 9 (.rd 10 (.alt 11 (.rd 12 (.rd 13 (.rd 14 (.rd 15 (.rd 16 (.rd 17 (.rd 18 (.rd 19 (.rd 20 (.rd 21 (.fin))))))))))) .non))))))))) .non)) 22 (C := Hp w0 (blk g_1 #[.int .i64 p.f0.f0, .int .i64 p.f0.f1, .int .i64 p.f1] 36 :: blk g #[.slice A1 s.ar.length c1, .slice A2 s.ti.length c2, .int .i64 s.sp, .int .i64 s.wt, .bool s.fi, .bool s.l0, .bool s.l1] 68 :: row k72 72 b (.slice A1 s.ar.length c1) s.ar F1 :: row k34 34 b (.slice A2 s.ti.length c2) s.ti F2 :: cs)) (by kernel_rfl) (by kernel_rfl) (fun d _ _ _ _ h => by cases d <;> exact h) (fun W h => h.drew) hp ?_
  refine preI_read rfl ?_
  refine sxq_val 8 (.pointer (some ⟨g_1, 0, none⟩)) (by rfl) (fun W _ => (by kernel_rfl)) ?_
  refine sxq_nil ?_
  refine preI_nil ?_
  intro W_4 hp
  refine treeI_rd rfl ?_
  refine sxq_val 9 (.agg #[.int .i64 p.f0.f0, .int .i64 p.f0.f1]) (by rfl) (fun W hp => (ldn (t := 34) (p := (.tmp 8)) (by rfl) (by rfl) (by kernel_rfl) (by kernel_rfl) (by kernel_rfl) (hp.at_ 0 _ (by rfl)))) ?_
  refine sxq_nil ?_
  refine treeI_ev rfl ?_
  refine sx_call 10 (by rfl) (by kernel_rfl) ((spec_tiGood.calls p.f0.f0 p.f0.f1 _ _ (tiGood_eq p.f0)).mono ?_)
  rintro _ W_5 ⟨rfl, hb⟩
  refine ⟨.bool false, congrArg (fun b => Ending.returned (.bool b)) (not_eq c_3), ?_⟩
  replace hp := hp.below hb
  clear hb
  refine step_fin hp ?_
  refine treeI_rd rfl ?_
  refine sxq_val 11 (.bool true) (by rfl) (fun W hp => (by kernel_rfl)) ?_
  refine sxq_nil ?_
  refine treeI_rd rfl ?_
  refine sxq_val 12 (.bool true) (by rfl) (fun W hp => (by kernel_rfl)) ?_
  refine sxq_nil ?_
  refine treeI_rd rfl ?_
  refine sxq_skip 13 (by rfl) (by rfl) (by rfl) ?_
  refine sxq_nil ?_
  refine treeI_rd rfl ?_
  refine sxq_skip 14 (by rfl) (by rfl) (by rfl) ?_
  refine sxq_nil ?_
  refine treeI_rd rfl ?_
  refine sxq_skip 15 (by rfl) (by rfl) (by rfl) ?_
  refine sxq_nil ?_
  refine treeI_rd rfl ?_
  refine sxq_skip 16 (by rfl) (by rfl) (by rfl) ?_
  refine sxq_nil ?_
  refine treeI_rd rfl ?_
  refine sxq_skip 17 (by rfl) (by rfl) (by rfl) ?_
  refine sxq_nil ?_
  refine treeI_rd rfl ?_
  refine sxq_skip 18 (by rfl) (by rfl) (by rfl) ?_
  refine sxq_nil ?_
  refine treeI_ev rfl ?_
  refine sx_skip 19 (by rfl) (by rfl) (by rfl) ?_
  refine step_fin hp ?_
  refine treeI_rd rfl ?_
  refine sxq_skip 20 (by rfl) (by rfl) (by rfl) ?_
  refine sxq_nil ?_
  refine treeI_rd rfl ?_
  refine sxq_val 21 (.bool true) (by rfl) (fun W hp => (by kernel_rfl)) ?_
  refine sxq_nil ?_
  refine treeI_rd rfl ?_
  refine sxq_val 22 (.bool true) (by rfl) (fun W hp => (by kernel_rfl)) ?_
  refine sxq_nil ?_
  refine treeI_rd rfl ?_
  refine sxq_skip 23 (by rfl) (by rfl) (by rfl) ?_
  refine sxq_nil ?_
  refine treeI_rd rfl ?_
  refine sxq_skip 24 (by rfl) (by rfl) (by rfl) ?_
  refine sxq_nil ?_
  refine treeI_rd rfl ?_
  refine sxq_skip 25 (by rfl) (by rfl) (by rfl) ?_
  refine sxq_nil ?_
  refine treeI_rd rfl ?_
  refine sxq_skip 26 (by rfl) (by rfl) (by rfl) ?_
  refine sxq_nil ?_
  refine treeI_rd rfl ?_
  refine sxq_skip 27 (by rfl) (by rfl) (by rfl) ?_
  refine sxq_nil ?_
  refine treeI_rd rfl ?_
  refine sxq_skip 28 (by rfl) (by rfl) (by rfl) ?_
  refine sxq_nil ?_
  refine treeI_rd rfl ?_
  refine sxq_val 29 (.bool true) (by rfl) (fun W hp => (by kernel_rfl)) ?_
  refine sxq_nil ?_
  refine treeI_fin ?_
  refine sx_nil ?_
  refine ex_then_n ?_
  refine sx_then true (by rfl) rfl ?_
  refine wp_seq ?_
  refine sx_region ?_
  refine sx_rd 4 (.bool false) (by rfl) (by kernel_rfl) ?_
  refine sx_nil ?_
  refine ex_then_n ?_
  refine wp_ret ?_
  refine ex_then_r ?_
  refine sx_end (.bool false) (res1 4 (by rfl)) ?_
  have hc : lyCan s p = false := by revert c_3; simp +contextual [Bool.not_true, lyCan, -List.length_eq_zero_iff] <;> (intros; omega)
  exact ⟨s, _, _, _, _, _, _, by rw [hc], by rw [hc]; rfl, (hp.take [1, 2, 3] 4 (by decide) (by simp))⟩
 ·
  rcases Bool.eq_false_or_eq_true (decide ((idxT s.ti p.f0) ≥ 0)) with c_6 | c_6
  ·
   have c_6p := of_decide_eq_true c_6
   refine sx_drawT [0] (.rd 1 (.alt 2 (.rd 3 (.rd 4 (.rd 5 (.rd 6 (.rd 7 (.rd 8 (.rd 9 (.rd 10 (.alt 11 (.rd 12 (.rd 13 (.rd 14 (.rd 15 (.rd 16 (.rd 17 (.rd 18 (.rd 19 (.rd 20 (.rd 21 (.fin))))))))))) .non))))))))) .non)) 22 (C := Hp w0 (blk g_1 #[.int .i64 p.f0.f0, .int .i64 p.f0.f1, .int .i64 p.f1] 36 :: blk g #[.slice A1 s.ar.length c1, .slice A2 s.ti.length c2, .int .i64 s.sp, .int .i64 s.wt, .bool s.fi, .bool s.l0, .bool s.l1] 68 :: row k72 72 b (.slice A1 s.ar.length c1) s.ar F1 :: row k34 34 b (.slice A2 s.ti.length c2) s.ti F2 :: cs)) (by kernel_rfl) (by kernel_rfl) (fun d _ _ _ _ h => by cases d <;> exact h) (fun W h => h.drew) hp ?_
   refine preI_read rfl ?_
   refine sxq_val 8 (.pointer (some ⟨g_1, 0, none⟩)) (by rfl) (fun W _ => (by kernel_rfl)) ?_
   refine sxq_nil ?_
   refine preI_nil ?_
   intro W_7 hp
   refine treeI_rd rfl ?_
   refine sxq_val 9 (.agg #[.int .i64 p.f0.f0, .int .i64 p.f0.f1]) (by rfl) (fun W hp => (ldn (t := 34) (p := (.tmp 8)) (by rfl) (by rfl) (by kernel_rfl) (by kernel_rfl) (by kernel_rfl) (hp.at_ 0 _ (by rfl)))) ?_
   refine sxq_nil ?_
   refine treeI_ev rfl ?_
   refine sx_call 10 (by rfl) (by kernel_rfl) ((spec_tiGood.calls p.f0.f0 p.f0.f1 _ _ (tiGood_eq p.f0)).mono ?_)
   rintro _ W_8 ⟨rfl, hb⟩
   refine ⟨.bool true, congrArg (fun b => Ending.returned (.bool b)) (not_eq c_3), ?_⟩
   replace hp := hp.below hb
   clear hb
   refine step_fin hp ?_
   refine treeI_rd rfl ?_
   refine sxq_val 11 (.bool false) (by rfl) (fun W hp => (by kernel_rfl)) ?_
   refine sxq_nil ?_
   refine treeI_rd rfl ?_
   refine sxq_val 12 (.bool false) (by rfl) (fun W hp => (by kernel_rfl)) ?_
   refine sxq_nil ?_
   refine treeI_rd rfl ?_
   refine sxq_want (by rfl) ?_
   refine sxq_val 13 (.pointer (some ⟨g, 0, none⟩)) (by rfl) (fun W hp => (by kernel_rfl)) ?_
   refine sxq_nil ?_
   refine treeI_rd rfl ?_
   refine sxq_want (by rfl) ?_
   refine sxq_val 14 (.pointer (some ⟨g, 0, none⟩)) (by rfl) (fun W hp => (by kernel_rfl)) ?_
   refine sxq_nil ?_
   refine treeI_rd rfl ?_
   refine sxq_want (by rfl) ?_
   refine sxq_val 15 (.pointer (some ⟨g, 1, none⟩)) (by rfl) (fun W hp => (by kernel_rfl)) ?_
   refine sxq_nil ?_
   refine treeI_rd rfl ?_
   refine sxq_want (by rfl) ?_
   refine sxq_val 16 (.slice A2 s.ti.length c2) (by rfl) (fun W hp => (ld1 (t := 52) (p := (.tmp 15)) (by rfl) (by rfl) (by kernel_rfl) (hp.cell 1 (by rfl) 1 _ (by rfl)))) ?_
   refine sxq_nil ?_
   refine treeI_rd rfl ?_
   refine sxq_want (by rfl) ?_
   refine sxq_val 17 (.pointer (some ⟨g_1, 0, none⟩)) (by rfl) (fun W hp => (by kernel_rfl)) ?_
   refine sxq_nil ?_
   refine treeI_rd rfl ?_
   refine sxq_want (by rfl) ?_
   refine sxq_val 18 (.agg #[.int .i64 p.f0.f0, .int .i64 p.f0.f1]) (by rfl) (fun W hp => (ldn (t := 34) (p := (.tmp 17)) (by rfl) (by rfl) (by kernel_rfl) (by kernel_rfl) (by kernel_rfl) (hp.at_ 0 _ (by rfl)))) ?_
   refine sxq_nil ?_
   refine treeI_ev rfl ?_
   refine sx_want (by rfl) ?_
   refine sx_call 19 (by rfl) (by kernel_rfl) ((place_c s.ti (by omega) p.f0 _ _ (row_len (hp.at_ 3 _ (by rfl))).2 _ (row_C (hp.at_ 3 _ (by rfl)))).mono ?_)
   rintro _ W_9 ⟨rfl, hb⟩
   refine ⟨_, rfl, ?_⟩
   replace hp := hp.below hb
   clear hb
   refine step_fin hp ?_
   refine treeI_rd rfl ?_
   refine sxq_want (by rfl) ?_
   refine sxq_val 20 (.bool true) (by rfl) (fun W hp => (bv c_6 (by kernel_rfl))) ?_
   refine sxq_nil ?_
   refine treeI_rd rfl ?_
   refine sxq_val 21 (.bool true) (by rfl) (fun W hp => (by kernel_rfl)) ?_
   refine sxq_nil ?_
   refine treeI_rd rfl ?_
   refine sxq_val 22 (.bool true) (by rfl) (fun W hp => (by kernel_rfl)) ?_
   refine sxq_nil ?_
   refine treeI_rd rfl ?_
   refine sxq_skip 23 (by rfl) (by rfl) (by rfl) ?_
   refine sxq_nil ?_
   refine treeI_rd rfl ?_
   refine sxq_skip 24 (by rfl) (by rfl) (by rfl) ?_
   refine sxq_nil ?_
   refine treeI_rd rfl ?_
   refine sxq_skip 25 (by rfl) (by rfl) (by rfl) ?_
   refine sxq_nil ?_
   refine treeI_rd rfl ?_
   refine sxq_skip 26 (by rfl) (by rfl) (by rfl) ?_
   refine sxq_nil ?_
   refine treeI_rd rfl ?_
   refine sxq_skip 27 (by rfl) (by rfl) (by rfl) ?_
   refine sxq_nil ?_
   refine treeI_rd rfl ?_
   refine sxq_skip 28 (by rfl) (by rfl) (by rfl) ?_
   refine sxq_nil ?_
   refine treeI_rd rfl ?_
   refine sxq_val 29 (.bool true) (by rfl) (fun W hp => (by kernel_rfl)) ?_
   refine sxq_nil ?_
   refine treeI_fin ?_
   refine sx_nil ?_
   refine ex_then_n ?_
   refine sx_then true (by rfl) rfl ?_
   refine wp_seq ?_
   refine sx_region ?_
   refine sx_rd 4 (.bool false) (by rfl) (by kernel_rfl) ?_
   refine sx_nil ?_
   refine ex_then_n ?_
   refine wp_ret ?_
   refine ex_then_r ?_
   refine sx_end (.bool false) (res1 4 (by rfl)) ?_
   have hc : lyCan s p = false := by revert c_3 c_6; simp +contextual [Bool.not_true, lyCan, -List.length_eq_zero_iff] <;> (intros; omega)
   exact ⟨s, _, _, _, _, _, _, by rw [hc], by rw [hc]; rfl, (hp.take [1, 2, 3] 4 (by decide) (by simp))⟩
  ·
   have c_6p := of_decide_eq_false c_6
   refine sx_drawT [0] (.rd 1 (.alt 2 (.rd 3 (.rd 4 (.rd 5 (.rd 6 (.rd 7 (.rd 8 (.rd 9 (.rd 10 (.alt 11 (.rd 12 (.rd 13 (.rd 14 (.rd 15 (.rd 16 (.rd 17 (.rd 18 (.rd 19 (.rd 20 (.rd 21 (.fin))))))))))) .non))))))))) .non)) 22 (C := Hp w0 (blk g_1 #[.int .i64 p.f0.f0, .int .i64 p.f0.f1, .int .i64 p.f1] 36 :: blk g #[.slice A1 s.ar.length c1, .slice A2 s.ti.length c2, .int .i64 s.sp, .int .i64 s.wt, .bool s.fi, .bool s.l0, .bool s.l1] 68 :: row k72 72 b (.slice A1 s.ar.length c1) s.ar F1 :: row k34 34 b (.slice A2 s.ti.length c2) s.ti F2 :: cs)) (by kernel_rfl) (by kernel_rfl) (fun d _ _ _ _ h => by cases d <;> exact h) (fun W h => h.drew) hp ?_
   refine preI_read rfl ?_
   refine sxq_val 8 (.pointer (some ⟨g_1, 0, none⟩)) (by rfl) (fun W _ => (by kernel_rfl)) ?_
   refine sxq_nil ?_
   refine preI_nil ?_
   intro W_10 hp
   refine treeI_rd rfl ?_
   refine sxq_val 9 (.agg #[.int .i64 p.f0.f0, .int .i64 p.f0.f1]) (by rfl) (fun W hp => (ldn (t := 34) (p := (.tmp 8)) (by rfl) (by rfl) (by kernel_rfl) (by kernel_rfl) (by kernel_rfl) (hp.at_ 0 _ (by rfl)))) ?_
   refine sxq_nil ?_
   refine treeI_ev rfl ?_
   refine sx_call 10 (by rfl) (by kernel_rfl) ((spec_tiGood.calls p.f0.f0 p.f0.f1 _ _ (tiGood_eq p.f0)).mono ?_)
   rintro _ W_11 ⟨rfl, hb⟩
   refine ⟨.bool true, congrArg (fun b => Ending.returned (.bool b)) (not_eq c_3), ?_⟩
   replace hp := hp.below hb
   clear hb
   refine step_fin hp ?_
   refine treeI_rd rfl ?_
   refine sxq_val 11 (.bool false) (by rfl) (fun W hp => (by kernel_rfl)) ?_
   refine sxq_nil ?_
   refine treeI_rd rfl ?_
   refine sxq_val 12 (.bool false) (by rfl) (fun W hp => (by kernel_rfl)) ?_
   refine sxq_nil ?_
   refine treeI_rd rfl ?_
   refine sxq_want (by rfl) ?_
   refine sxq_val 13 (.pointer (some ⟨g, 0, none⟩)) (by rfl) (fun W hp => (by kernel_rfl)) ?_
   refine sxq_nil ?_
   refine treeI_rd rfl ?_
   refine sxq_want (by rfl) ?_
   refine sxq_val 14 (.pointer (some ⟨g, 0, none⟩)) (by rfl) (fun W hp => (by kernel_rfl)) ?_
   refine sxq_nil ?_
   refine treeI_rd rfl ?_
   refine sxq_want (by rfl) ?_
   refine sxq_val 15 (.pointer (some ⟨g, 1, none⟩)) (by rfl) (fun W hp => (by kernel_rfl)) ?_
   refine sxq_nil ?_
   refine treeI_rd rfl ?_
   refine sxq_want (by rfl) ?_
   refine sxq_val 16 (.slice A2 s.ti.length c2) (by rfl) (fun W hp => (ld1 (t := 52) (p := (.tmp 15)) (by rfl) (by rfl) (by kernel_rfl) (hp.cell 1 (by rfl) 1 _ (by rfl)))) ?_
   refine sxq_nil ?_
   refine treeI_rd rfl ?_
   refine sxq_want (by rfl) ?_
   refine sxq_val 17 (.pointer (some ⟨g_1, 0, none⟩)) (by rfl) (fun W hp => (by kernel_rfl)) ?_
   refine sxq_nil ?_
   refine treeI_rd rfl ?_
   refine sxq_want (by rfl) ?_
   refine sxq_val 18 (.agg #[.int .i64 p.f0.f0, .int .i64 p.f0.f1]) (by rfl) (fun W hp => (ldn (t := 34) (p := (.tmp 17)) (by rfl) (by rfl) (by kernel_rfl) (by kernel_rfl) (by kernel_rfl) (hp.at_ 0 _ (by rfl)))) ?_
   refine sxq_nil ?_
   refine treeI_ev rfl ?_
   refine sx_want (by rfl) ?_
   refine sx_call 19 (by rfl) (by kernel_rfl) ((place_c s.ti (by omega) p.f0 _ _ (row_len (hp.at_ 3 _ (by rfl))).2 _ (row_C (hp.at_ 3 _ (by rfl)))).mono ?_)
   rintro _ W_12 ⟨rfl, hb⟩
   refine ⟨_, rfl, ?_⟩
   replace hp := hp.below hb
   clear hb
   refine step_fin hp ?_
   refine treeI_rd rfl ?_
   refine sxq_want (by rfl) ?_
   refine sxq_val 20 (.bool false) (by rfl) (fun W hp => (bv c_6 (by kernel_rfl))) ?_
   refine sxq_nil ?_
   refine treeI_rd rfl ?_
   refine sxq_val 21 (.bool false) (by rfl) (fun W hp => (by kernel_rfl)) ?_
   refine sxq_nil ?_
   refine treeI_rd rfl ?_
   refine sxq_val 22 (.bool false) (by rfl) (fun W hp => (by kernel_rfl)) ?_
   refine sxq_nil ?_
   refine treeI_rd rfl ?_
   refine sxq_want (by rfl) ?_
   refine sxq_val 23 (.pointer (some ⟨g, 0, none⟩)) (by rfl) (fun W hp => (by kernel_rfl)) ?_
   refine sxq_nil ?_
   refine treeI_rd rfl ?_
   refine sxq_want (by rfl) ?_
   refine sxq_val 24 (.pointer (some ⟨g, 0, none⟩)) (by rfl) (fun W hp => (by kernel_rfl)) ?_
   refine sxq_nil ?_
   refine treeI_rd rfl ?_
   refine sxq_want (by rfl) ?_
   refine sxq_val 25 (.pointer (some ⟨g, 1, none⟩)) (by rfl) (fun W hp => (by kernel_rfl)) ?_
   refine sxq_nil ?_
   refine treeI_rd rfl ?_
   refine sxq_want (by rfl) ?_
   refine sxq_val 26 (.slice A2 s.ti.length c2) (by rfl) (fun W hp => (ld1 (t := 52) (p := (.tmp 25)) (by rfl) (by rfl) (by kernel_rfl) (hp.cell 1 (by rfl) 1 _ (by rfl)))) ?_
   refine sxq_nil ?_
   refine treeI_rd rfl ?_
   refine sxq_want (by rfl) ?_
   refine sxq_val 27 (.int .i64 (s.ti.length : Int)) (by rfl) (fun W hp => (by kernel_rfl)) ?_
   refine sxq_nil ?_
   refine treeI_rd rfl ?_
   refine sxq_want (by rfl) ?_
   refine sxq_val 28 (.bool (decide ((s.ti.length : Int) ≥ 28))) (by rfl) (fun W hp => (by kernel_rfl)) ?_
   refine sxq_nil ?_
   refine treeI_rd rfl ?_
   refine sxq_val 29 (.bool (decide ((s.ti.length : Int) ≥ 28))) (by rfl) (fun W hp => (by kernel_rfl)) ?_
   refine sxq_nil ?_
   refine treeI_fin ?_
   refine sx_nil ?_
   refine ex_then_n ?_
   refine sx_cond (decide ((s.ti.length : Int) ≥ 28)) (by rfl) (fun c_13 => ?_) (fun c_13 => ?_)
   ·
    have c_13p := of_decide_eq_true c_13
    refine wp_seq ?_
    refine sx_region ?_
    refine sx_rd 4 (.bool false) (by rfl) (by kernel_rfl) ?_
    refine sx_nil ?_
    refine ex_then_n ?_
    refine wp_ret ?_
    refine ex_then_r ?_
    refine sx_end (.bool false) (res1 4 (by rfl)) ?_
    have hc : lyCan s p = false := by revert c_3 c_6 c_13; simp +contextual [Bool.not_true, lyCan, -List.length_eq_zero_iff] <;> (intros; omega)
    exact ⟨s, _, _, _, _, _, _, by rw [hc], by rw [hc]; rfl, (hp.take [1, 2, 3] 4 (by decide) (by simp))⟩
   ·
    have c_13p := of_decide_eq_false c_13
    refine wp_skip ?_
    refine ex_then_n ?_
    refine wp_seq ?_
    refine sx_region ?_
    refine sx_rd 30 (.pointer (some ⟨g_1, 0, none⟩)) (by rfl) (by kernel_rfl) ?_
    refine sx_rd 31 (.pointer (some ⟨g_1, 0, none⟩)) (by rfl) (by kernel_rfl) ?_
    refine sx_rd 32 (.int .i64 p.f0.f0) (by rfl) (ld1 (t := 3) (p := (.tmp 31)) (by rfl) (by rfl) (by kernel_rfl) (hp.cell 0 (by rfl) 0 _ (by rfl))) ?_
    refine sx_rd 33 (.pointer (some ⟨g_1, 0, none⟩)) (by rfl) (by kernel_rfl) ?_
    refine sx_rd 34 (.pointer (some ⟨g_1, 1, none⟩)) (by rfl) (by kernel_rfl) ?_
    refine sx_rd 35 (.int .i64 p.f0.f1) (by rfl) (ld1 (t := 3) (p := (.tmp 34)) (by rfl) (by rfl) (by kernel_rfl) (hp.cell 0 (by rfl) 1 _ (by rfl))) ?_
    refine sx_rd 36 (.bool (p.f0.f0 == p.f0.f1)) (by rfl) (by kernel_rfl) ?_
    refine sx_rd 5 (.bool (p.f0.f0 == p.f0.f1)) (by rfl) (by kernel_rfl) ?_
    refine sx_nil ?_
    refine ex_then_n ?_
    refine wp_seq ?_
    refine wp_seq ?_
    refine sx_region ?_
    refine sx_rd 37 (.pointer (some ⟨g, 0, none⟩)) (by rfl) (by kernel_rfl) ?_
    refine sx_rd 38 (.pointer (some ⟨g, 0, none⟩)) (by rfl) (by kernel_rfl) ?_
    refine sx_rd 39 (.pointer (some ⟨g, 1, none⟩)) (by rfl) (by kernel_rfl) ?_
    refine sx_rd 40 (.slice A2 s.ti.length c2) (by rfl) (ld1 (t := 52) (p := (.tmp 39)) (by rfl) (by rfl) (by kernel_rfl) (hp.cell 1 (by rfl) 1 _ (by rfl))) ?_
    refine sx_rd 41 (.int .i64 (s.ti.length : Int)) (by rfl) (by kernel_rfl) ?_
    refine sx_rd 42 (.bool ((s.ti.length : Int) == 0)) (by rfl) (by kernel_rfl) ?_
    refine sx_nil ?_
    refine ex_then_n ?_
    refine sx_cond ((s.ti.length : Int) == 0) (by rfl) (fun c_14 => ?_) (fun c_14 => ?_)
    ·
     have c_14p := eq_of_beq_ c_14
     refine wp_seq ?_
     refine wp_seq ?_
     refine sx_region ?_
     refine sx_rd 43 (.pointer (some ⟨g_1, 2, none⟩)) (by rfl) (by kernel_rfl) ?_
     refine sx_rd 44 (.int .i64 p.f1) (by rfl) (ld1 (t := 3) (p := (.tmp 43)) (by rfl) (by rfl) (by kernel_rfl) (hp.cell 0 (by rfl) 2 _ (by rfl))) ?_
     refine sx_rd 45 (.bool (p.f1 != 0)) (by rfl) (by kernel_rfl) ?_
     refine sx_nil ?_
     refine ex_then_n ?_
     refine sx_cond (p.f1 != 0) (by rfl) (fun c_15 => ?_) (fun c_15 => ?_)
     ·
      have c_15p := ne_of_bne_ c_15
      refine wp_seq ?_
      refine sx_region ?_
      refine sx_rd 4 (.bool false) (by rfl) (by kernel_rfl) ?_
      refine sx_nil ?_
      refine ex_then_n ?_
      refine wp_ret ?_
      refine ex_then_r (ex_then_r ?_)
      refine sx_end (.bool false) (res1 4 (by rfl)) ?_
      have hc : lyCan s p = false := by revert c_3 c_6 c_13 c_14 c_15; simp +contextual [Bool.not_true, lyCan, -List.length_eq_zero_iff] <;> (intros; omega)
      exact ⟨s, _, _, _, _, _, _, by rw [hc], by rw [hc]; rfl, (hp.take [1, 2, 3] 4 (by decide) (by simp))⟩
     ·
      have c_15p := eq_of_bne_ c_15
      refine wp_skip ?_
      refine ex_then_n ?_
      refine wp_seq ?_
      refine sx_region ?_
      refine sx_rd 46 (.pointer (some ⟨g, 0, none⟩)) (by rfl) (by kernel_rfl) ?_
      refine sx_rd 47 (.pointer (some ⟨g_1, 0, none⟩)) (by rfl) (by kernel_rfl) ?_
      refine sx_rd 48 (.pointer (some ⟨g_1, 0, none⟩)) (by rfl) (by kernel_rfl) ?_
      refine sx_rd 49 (.int .i64 p.f0.f0) (by rfl) (ld1 (t := 3) (p := (.tmp 48)) (by rfl) (by rfl) (by kernel_rfl) (hp.cell 0 (by rfl) 0 _ (by rfl))) ?_
      refine sx_rd 50 (.bool (p.f0.f0 == p.f0.f1)) (by rfl) (by kernel_rfl) ?_
      refine sx_rd 51 (.agg #[.int .i64 p.f0.f0, .bool (p.f0.f0 == p.f0.f1), .bool false]) (by rfl) (by kernel_rfl) ?_
      refine sx_rd 52 (.pointer (some ⟨g_1, 0, none⟩)) (by rfl) (by kernel_rfl) ?_
      refine sx_rd 53 (.pointer (some ⟨g_1, 1, none⟩)) (by rfl) (by kernel_rfl) ?_
      refine sx_rd 54 (.int .i64 p.f0.f1) (by rfl) (ld1 (t := 3) (p := (.tmp 53)) (by rfl) (by rfl) (by kernel_rfl) (hp.cell 0 (by rfl) 1 _ (by rfl))) ?_
      refine sx_rd 55 (.bool (p.f0.f0 == p.f0.f1)) (by rfl) (by kernel_rfl) ?_
      refine sx_rd 56 (.agg #[.int .i64 p.f0.f1, .bool (p.f0.f0 == p.f0.f1), .bool false]) (by rfl) (by kernel_rfl) ?_
      refine sx_lit 57 (by rfl) k72 b 72 ([(⟨p.f0.f0, (p.f0.f0 == p.f0.f1), false⟩ : S_Arm), (⟨p.f0.f1, (p.f0.f0 == p.f0.f1), false⟩ : S_Arm)]) [.int .i64 p.f0.f0, .bool (p.f0.f0 == p.f0.f1), .bool false, .int .i64 p.f0.f1, .bool (p.f0.f0 == p.f0.f1), .bool false] (fun W => by kernel_rfl) (arm_reps _ _ _) (by simp) (Nat.le_trans hb0 hp.size) hp ?_
      intro g_16 F_17 W_18 hp hz; clear hz
      refine sx_rd 58 (.pointer (some ⟨g, 0, none⟩)) (by rfl) (by kernel_rfl) ?_
      refine sx_rd 59 (.pointer (some ⟨g, 0, none⟩)) (by rfl) (by kernel_rfl) ?_
      refine sx_store (t := 51) (p := (.tmp 59)) (x := (.tmp 57)) (by rfl) (by rfl) 2 (by rfl) 0 [.slice (some ⟨g_16, 0, none⟩) ([(⟨p.f0.f0, (p.f0.f0 == p.f0.f1), false⟩ : S_Arm), (⟨p.f0.f1, (p.f0.f0 == p.f0.f1), false⟩ : S_Arm)].length) ([(⟨p.f0.f0, (p.f0.f0 == p.f0.f1), false⟩ : S_Arm), (⟨p.f0.f1, (p.f0.f0 == p.f0.f1), false⟩ : S_Arm)].length)] (by rfl) (by rfl) (by kernel_rfl) (by simp [Value.oneCell']) (by show 1 ≤ 7; omega) #[.slice (some ⟨g_16, 0, none⟩) ([(⟨p.f0.f0, (p.f0.f0 == p.f0.f1), false⟩ : S_Arm), (⟨p.f0.f1, (p.f0.f0 == p.f0.f1), false⟩ : S_Arm)].length) ([(⟨p.f0.f0, (p.f0.f0 == p.f0.f1), false⟩ : S_Arm), (⟨p.f0.f1, (p.f0.f0 == p.f0.f1), false⟩ : S_Arm)].length), .slice A2 s.ti.length c2, .int .i64 s.sp, .int .i64 s.wt, .bool s.fi, .bool s.l0, .bool s.l1] (by rfl) hp ?_
      intro W_19 hp; simp only [List.set_cons_succ, List.set_cons_zero] at hp
      refine sx_nil ?_
      refine ex_then_n ?_
      refine wp_seq ?_
      refine sx_drawT [0, 1, 2, 3, 5] (.rd 4 (.rd 6 (.alt 7 (.fin) .non))) 8 (C := Hp w0 (row k72 72 b (.slice (some ⟨g_16, 0, none⟩) ([(⟨p.f0.f0, (p.f0.f0 == p.f0.f1), false⟩ : S_Arm), (⟨p.f0.f1, (p.f0.f0 == p.f0.f1), false⟩ : S_Arm)].length) ([(⟨p.f0.f0, (p.f0.f0 == p.f0.f1), false⟩ : S_Arm), (⟨p.f0.f1, (p.f0.f0 == p.f0.f1), false⟩ : S_Arm)].length)) ([(⟨p.f0.f0, (p.f0.f0 == p.f0.f1), false⟩ : S_Arm), (⟨p.f0.f1, (p.f0.f0 == p.f0.f1), false⟩ : S_Arm)]) F_17 :: blk g_1 #[.int .i64 p.f0.f0, .int .i64 p.f0.f1, .int .i64 p.f1] 36 :: blk g #[.slice (some ⟨g_16, 0, none⟩) ([(⟨p.f0.f0, (p.f0.f0 == p.f0.f1), false⟩ : S_Arm), (⟨p.f0.f1, (p.f0.f0 == p.f0.f1), false⟩ : S_Arm)].length) ([(⟨p.f0.f0, (p.f0.f0 == p.f0.f1), false⟩ : S_Arm), (⟨p.f0.f1, (p.f0.f0 == p.f0.f1), false⟩ : S_Arm)].length), .slice A2 s.ti.length c2, .int .i64 s.sp, .int .i64 s.wt, .bool s.fi, .bool s.l0, .bool s.l1] 68 :: row k72 72 b (.slice A1 s.ar.length c1) s.ar F1 :: row k34 34 b (.slice A2 s.ti.length c2) s.ti F2 :: cs)) (by kernel_rfl) (by kernel_rfl) (fun d _ _ _ _ h => by cases d <;> exact h) (fun W h => h.drew) hp ?_
      refine preI_read rfl ?_
      refine sxq_val 60 (.pointer (some ⟨g, 0, none⟩)) (by rfl) (fun W _ => (by kernel_rfl)) ?_
      refine sxq_nil ?_
      refine preI_read rfl ?_
      refine sxq_val 61 (.pointer (some ⟨g, 0, none⟩)) (by rfl) (fun W _ => (by kernel_rfl)) ?_
      refine sxq_nil ?_
      refine preI_read rfl ?_
      refine sxq_val 62 (.pointer (some ⟨g, 0, none⟩)) (by rfl) (fun W _ => (by kernel_rfl)) ?_
      refine sxq_nil ?_
      refine preI_read rfl ?_
      refine sxq_val 63 (.pointer (some ⟨g, 1, none⟩)) (by rfl) (fun W _ => (by kernel_rfl)) ?_
      refine sxq_nil ?_
      refine preI_read rfl ?_
      refine sxq_val 65 (.pointer (some ⟨g_1, 0, none⟩)) (by rfl) (fun W _ => (by kernel_rfl)) ?_
      refine sxq_nil ?_
      refine preI_nil ?_
      intro W_20 hp
      refine treeI_rd rfl ?_
      refine sxq_val 64 (.slice A2 s.ti.length c2) (by rfl) (fun W hp => (ld1 (t := 52) (p := (.tmp 63)) (by rfl) (by rfl) (by kernel_rfl) (hp.cell 2 (by rfl) 1 _ (by rfl)))) ?_
      refine sxq_nil ?_
      refine treeI_rd rfl ?_
      refine sxq_val 66 (.agg #[.int .i64 p.f0.f0, .int .i64 p.f0.f1]) (by rfl) (fun W hp => (ldn (t := 34) (p := (.tmp 65)) (by rfl) (by rfl) (by kernel_rfl) (by kernel_rfl) (by kernel_rfl) (hp.at_ 1 _ (by rfl)))) ?_
      refine sxq_nil ?_
      refine treeI_ev rfl ?_
      refine sx_lit 67 (by rfl) k34 b 34 ([p.f0]) [.int .i64 p.f0.f0, .int .i64 p.f0.f1] (fun W => by kernel_rfl) (tile_reps _ _ _) (by simp) (Nat.le_trans hb0 hp.size) hp ?_
      intro g_21 F_22 W_23 hp hz; clear hz
      refine step_fin hp.tail ?_
      refine treeI_fin ?_
      refine tail_of [8, 9, 10, 11] (by rfl) ?_
      refine tailI_op rfl ?_
      refine sx_append 68 (by rfl) k34 5 (by rfl) (.agg #[.int .i64 0, .int .i64 0]) 16 (by rfl) Tryd.underlying52 (by kernel_rfl) rfl (by decide) (by decide) ([p.f0]) (by rfl) (by rfl) (row_C (hp.at_ 0 _ (by rfl))) tile_kp (Nat.le_trans hb0 hp.size) (by simp; omega) hp ?_
      intro A_24 c_25 F_26 W_27 hp hz; clear hz; simp only [List.set_cons_succ, List.set_cons_zero] at hp
      refine tailI_next ?_
      refine tailI_op rfl ?_
      refine sx_rd 69 (.pointer (some ⟨g, 0, none⟩)) (by rfl) (by kernel_rfl) ?_
      refine tailI_next ?_
      refine tailI_op rfl ?_
      refine sx_rd 70 (.pointer (some ⟨g, 1, none⟩)) (by rfl) (by kernel_rfl) ?_
      refine tailI_next ?_
      refine tailI_op rfl ?_
      refine sx_store (t := 52) (p := (.tmp 70)) (x := (.tmp 68)) (by rfl) (by rfl) 3 (by rfl) 1 [.slice A_24 ((s.ti ++ [p.f0]).length) c_25] (by rfl) (by rfl) (by kernel_rfl) (by simp [Value.oneCell']) (by show 2 ≤ 7; omega) #[.slice (some ⟨g_16, 0, none⟩) ([(⟨p.f0.f0, (p.f0.f0 == p.f0.f1), false⟩ : S_Arm), (⟨p.f0.f1, (p.f0.f0 == p.f0.f1), false⟩ : S_Arm)].length) ([(⟨p.f0.f0, (p.f0.f0 == p.f0.f1), false⟩ : S_Arm), (⟨p.f0.f1, (p.f0.f0 == p.f0.f1), false⟩ : S_Arm)].length), .slice A_24 ((s.ti ++ [p.f0]).length) c_25, .int .i64 s.sp, .int .i64 s.wt, .bool s.fi, .bool s.l0, .bool s.l1] (by rfl) hp ?_
      intro W_28 hp; simp only [List.set_cons_succ, List.set_cons_zero] at hp
      refine tailI_next ?_
      refine tailI_nil ?_
      refine ex_then_n ?_
      refine wp_seq ?_
      refine wp_seq ?_
      refine sx_region ?_
      refine sx_rd 71 (.bool (p.f0.f0 == p.f0.f1)) (by rfl) (by kernel_rfl) ?_
      refine sx_nil ?_
      refine ex_then_n ?_
      refine sx_cond (p.f0.f0 == p.f0.f1) (by rfl) (fun c_29 => ?_) (fun c_29 => ?_)
      ·
       have c_29p := eq_of_beq_ c_29
       refine wp_seq ?_
       refine sx_region ?_
       refine sx_rd 72 (.pointer (some ⟨g, 0, none⟩)) (by rfl) (by kernel_rfl) ?_
       refine sx_rd 73 (.pointer (some ⟨g_1, 0, none⟩)) (by rfl) (by kernel_rfl) ?_
       refine sx_rd 74 (.pointer (some ⟨g_1, 0, none⟩)) (by rfl) (by kernel_rfl) ?_
       refine sx_rd 75 (.int .i64 p.f0.f0) (by rfl) (ld1 (t := 3) (p := (.tmp 74)) (by rfl) (by rfl) (by kernel_rfl) (hp.cell 2 (by rfl) 0 _ (by rfl))) ?_
       refine sx_rd 76 (.pointer (some ⟨g, 0, none⟩)) (by rfl) (by kernel_rfl) ?_
       refine sx_rd 77 (.pointer (some ⟨g, 2, none⟩)) (by rfl) (by kernel_rfl) ?_
       refine sx_store (t := 3) (p := (.tmp 77)) (x := (.tmp 75)) (by rfl) (by rfl) 3 (by rfl) 2 [.int .i64 p.f0.f0] (by rfl) (by rfl) (by kernel_rfl) (by simp [Value.oneCell']) (by show 3 ≤ 7; omega) #[.slice (some ⟨g_16, 0, none⟩) ([(⟨p.f0.f0, (p.f0.f0 == p.f0.f1), false⟩ : S_Arm), (⟨p.f0.f1, (p.f0.f0 == p.f0.f1), false⟩ : S_Arm)].length) ([(⟨p.f0.f0, (p.f0.f0 == p.f0.f1), false⟩ : S_Arm), (⟨p.f0.f1, (p.f0.f0 == p.f0.f1), false⟩ : S_Arm)].length), .slice A_24 ((s.ti ++ [p.f0]).length) c_25, .int .i64 p.f0.f0, .int .i64 s.wt, .bool s.fi, .bool s.l0, .bool s.l1] (by rfl) hp ?_
       intro W_30 hp; simp only [List.set_cons_succ, List.set_cons_zero] at hp
       refine sx_nil ?_
       refine ex_then_n ?_
       refine sx_region ?_
       refine sx_rd 78 (.pointer (some ⟨g, 0, none⟩)) (by rfl) (by kernel_rfl) ?_
       refine sx_rd 79 (.pointer (some ⟨g, 0, none⟩)) (by rfl) (by kernel_rfl) ?_
       refine sx_rd 80 (.pointer (some ⟨g, 4, none⟩)) (by rfl) (by kernel_rfl) ?_
       refine sx_store (t := 4) (p := (.tmp 80)) (x := (.const (Go.Value.bool true))) (by rfl) (by rfl) 3 (by rfl) 4 [.bool true] (by rfl) (by rfl) (by kernel_rfl) (by simp [Value.oneCell']) (by show 5 ≤ 7; omega) #[.slice (some ⟨g_16, 0, none⟩) ([(⟨p.f0.f0, (p.f0.f0 == p.f0.f1), false⟩ : S_Arm), (⟨p.f0.f1, (p.f0.f0 == p.f0.f1), false⟩ : S_Arm)].length) ([(⟨p.f0.f0, (p.f0.f0 == p.f0.f1), false⟩ : S_Arm), (⟨p.f0.f1, (p.f0.f0 == p.f0.f1), false⟩ : S_Arm)].length), .slice A_24 ((s.ti ++ [p.f0]).length) c_25, .int .i64 p.f0.f0, .int .i64 s.wt, .bool true, .bool s.l0, .bool s.l1] (by rfl) hp ?_
       intro W_31 hp; simp only [List.set_cons_succ, List.set_cons_zero] at hp
       refine sx_nil ?_
       refine ex_then_n ?_
       refine wp_seq ?_
       refine sx_region ?_
       refine sx_rd 4 (.bool true) (by rfl) (by kernel_rfl) ?_
       refine sx_nil ?_
       refine ex_then_n ?_
       refine wp_ret ?_
       refine ex_then_r ?_
       refine sx_end (.bool true) (res1 4 (by rfl)) ?_
       have hc : lyCan s p = true := by revert c_3 c_6 c_13 c_14 c_15 c_29; simp +contextual [Bool.not_true, lyCan, -List.length_eq_zero_iff] <;> (intros; omega)
       have hd : lyDo s p = (⟨[(⟨p.f0.f0, (p.f0.f0 == p.f0.f1), false⟩ : S_Arm), (⟨p.f0.f1, (p.f0.f0 == p.f0.f1), false⟩ : S_Arm)], (s.ti ++ [p.f0]), p.f0.f0, s.wt, true, s.l0, s.l1⟩ : LySt) := by revert c_3 c_6 c_13 c_14 c_15 c_29; simp +contextual [Bool.not_true, lyDo, -List.length_eq_zero_iff] <;> (intros; omega)
       exact ⟨(⟨[(⟨p.f0.f0, (p.f0.f0 == p.f0.f1), false⟩ : S_Arm), (⟨p.f0.f1, (p.f0.f0 == p.f0.f1), false⟩ : S_Arm)], (s.ti ++ [p.f0]), p.f0.f0, s.wt, true, s.l0, s.l1⟩ : LySt), _, _, _, _, _, _, by rw [hc], by rw [hc]; exact hd.symm, (hp.take [3, 1, 5] 6 (by decide) (by simp))⟩
      ·
       have c_29p := ne_of_beq_ c_29
       refine wp_skip ?_
       refine ex_then_n ?_
       refine wp_seq ?_
       refine sx_region ?_
       refine sx_rd 4 (.bool true) (by rfl) (by kernel_rfl) ?_
       refine sx_nil ?_
       refine ex_then_n ?_
       refine wp_ret ?_
       refine ex_then_r ?_
       refine sx_end (.bool true) (res1 4 (by rfl)) ?_
       have hc : lyCan s p = true := by revert c_3 c_6 c_13 c_14 c_15 c_29; simp +contextual [Bool.not_true, lyCan, -List.length_eq_zero_iff] <;> (intros; omega)
       have hd : lyDo s p = (⟨[(⟨p.f0.f0, (p.f0.f0 == p.f0.f1), false⟩ : S_Arm), (⟨p.f0.f1, (p.f0.f0 == p.f0.f1), false⟩ : S_Arm)], (s.ti ++ [p.f0]), s.sp, s.wt, s.fi, s.l0, s.l1⟩ : LySt) := by revert c_3 c_6 c_13 c_14 c_15 c_29; simp +contextual [Bool.not_true, lyDo, -List.length_eq_zero_iff] <;> (intros; omega)
       exact ⟨(⟨[(⟨p.f0.f0, (p.f0.f0 == p.f0.f1), false⟩ : S_Arm), (⟨p.f0.f1, (p.f0.f0 == p.f0.f1), false⟩ : S_Arm)], (s.ti ++ [p.f0]), s.sp, s.wt, s.fi, s.l0, s.l1⟩ : LySt), _, _, _, _, _, _, by rw [hc], by rw [hc]; exact hd.symm, (hp.take [3, 1, 5] 6 (by decide) (by simp))⟩
    ·
     have c_14p := ne_of_beq_ c_14
     refine wp_skip ?_
     refine ex_then_n ?_
     refine wp_seq ?_
     refine wp_seq ?_
     rcases Bool.eq_false_or_eq_true (!(decide (0 ≤ p.f1) && decide (p.f1 ≤ ((s.ar.length : Int) - 1)))) with c_32 | c_32
     ·
      refine sx_drawT [0, 2, 3, 4] (.rd 1 (.rd 5 (.rd 6 (.rd 7 (.alt 8 (.rd 9 (.rd 10 (.rd 11 (.rd 12 (.rd 13 (.rd 14 (.rd 15 (.rd 16 (.rd 17 (.rd 18 (.rd 19 (.rd 20 (.rd 21 (.alt 22 (.rd 23 (.rd 24 (.fin))) .non)))))))))))))) .non))))) 25 (C := Hp w0 (blk g_1 #[.int .i64 p.f0.f0, .int .i64 p.f0.f1, .int .i64 p.f1] 36 :: blk g #[.slice A1 s.ar.length c1, .slice A2 s.ti.length c2, .int .i64 s.sp, .int .i64 s.wt, .bool s.fi, .bool s.l0, .bool s.l1] 68 :: row k72 72 b (.slice A1 s.ar.length c1) s.ar F1 :: row k34 34 b (.slice A2 s.ti.length c2) s.ti F2 :: cs)) (by kernel_rfl) (by kernel_rfl) (fun d _ _ _ _ h => by cases d <;> exact h) (fun W h => h.drew) hp ?_
      refine preI_read rfl ?_
      refine sxq_val 81 (.pointer (some ⟨g_1, 2, none⟩)) (by rfl) (fun W _ => (by kernel_rfl)) ?_
      refine sxq_nil ?_
      refine preI_read rfl ?_
      refine sxq_val 83 (.pointer (some ⟨g, 0, none⟩)) (by rfl) (fun W _ => (by kernel_rfl)) ?_
      refine sxq_nil ?_
      refine preI_read rfl ?_
      refine sxq_val 84 (.pointer (some ⟨g, 0, none⟩)) (by rfl) (fun W _ => (by kernel_rfl)) ?_
      refine sxq_nil ?_
      refine preI_read rfl ?_
      refine sxq_val 85 (.pointer (some ⟨g, 0, none⟩)) (by rfl) (fun W _ => (by kernel_rfl)) ?_
      refine sxq_nil ?_
      refine preI_nil ?_
      intro W_33 hp
      refine treeI_rd rfl ?_
      refine sxq_val 82 (.int .i64 p.f1) (by rfl) (fun W hp => (ld1 (t := 3) (p := (.tmp 81)) (by rfl) (by rfl) (by kernel_rfl) (hp.cell 0 (by rfl) 2 _ (by rfl)))) ?_
      refine sxq_nil ?_
      refine treeI_rd rfl ?_
      refine sxq_val 86 (.slice A1 s.ar.length c1) (by rfl) (fun W hp => (ld1 (t := 51) (p := (.tmp 85)) (by rfl) (by rfl) (by kernel_rfl) (hp.cell 1 (by rfl) 0 _ (by rfl)))) ?_
      refine sxq_nil ?_
      refine treeI_rd rfl ?_
      refine sxq_val 87 (.int .i64 (s.ar.length : Int)) (by rfl) (fun W hp => (by kernel_rfl)) ?_
      refine sxq_nil ?_
      refine treeI_rd rfl ?_
      refine sxq_val 88 (.int .i64 ((s.ar.length : Int) - 1)) (by rfl) (fun W hp => (wr_ok (by omega) (by kernel_rfl))) ?_
      refine sxq_nil ?_
      refine treeI_ev rfl ?_
      refine sx_call 89 (by rfl) (by kernel_rfl) ((l1In_c p.f1 0 ((s.ar.length : Int) - 1) _).mono ?_)
      rintro _ W_34 ⟨rfl, hb⟩
      refine ⟨.bool false, congrArg (fun b => Ending.returned (.bool b)) (not_eq c_32), ?_⟩
      replace hp := hp.below hb.below
      clear hb
      refine step_fin hp ?_
      refine treeI_rd rfl ?_
      refine sxq_val 90 (.bool true) (by rfl) (fun W hp => (by kernel_rfl)) ?_
      refine sxq_nil ?_
      refine treeI_rd rfl ?_
      refine sxq_val 91 (.bool true) (by rfl) (fun W hp => (by kernel_rfl)) ?_
      refine sxq_nil ?_
      refine treeI_rd rfl ?_
      refine sxq_skip 92 (by rfl) (by rfl) (by rfl) ?_
      refine sxq_nil ?_
      refine treeI_rd rfl ?_
      refine sxq_skip 93 (by rfl) (by rfl) (by rfl) ?_
      refine sxq_nil ?_
      refine treeI_rd rfl ?_
      refine sxq_skip 94 (by rfl) (by rfl) (by rfl) ?_
      refine sxq_nil ?_
      refine treeI_rd rfl ?_
      refine sxq_skip 95 (by rfl) (by rfl) (by rfl) ?_
      refine sxq_nil ?_
      refine treeI_rd rfl ?_
      refine sxq_skip 96 (by rfl) (by rfl) (by rfl) ?_
      refine sxq_nil ?_
      refine treeI_rd rfl ?_
      refine sxq_skip 97 (by rfl) (by rfl) (by rfl) ?_
      refine sxq_nil ?_
      refine treeI_rd rfl ?_
      refine sxq_skip 98 (by rfl) (by rfl) (by rfl) ?_
      refine sxq_nil ?_
      refine treeI_rd rfl ?_
      refine sxq_skip 99 (by rfl) (by rfl) (by rfl) ?_
      refine sxq_nil ?_
      refine treeI_rd rfl ?_
      refine sxq_skip 100 (by rfl) (by rfl) (by rfl) ?_
      refine sxq_nil ?_
      refine treeI_rd rfl ?_
      refine sxq_skip 101 (by rfl) (by rfl) (by rfl) ?_
      refine sxq_nil ?_
      refine treeI_rd rfl ?_
      refine sxq_skip 102 (by rfl) (by rfl) (by rfl) ?_
      refine sxq_nil ?_
      refine treeI_ev rfl ?_
      refine sx_skip 103 (by rfl) (by rfl) (by rfl) ?_
      refine step_fin hp ?_
      refine treeI_rd rfl ?_
      refine sxq_skip 104 (by rfl) (by rfl) (by rfl) ?_
      refine sxq_nil ?_
      refine treeI_rd rfl ?_
      refine sxq_val 105 (.bool true) (by rfl) (fun W hp => (by kernel_rfl)) ?_
      refine sxq_nil ?_
      refine treeI_fin ?_
      refine sx_nil ?_
      refine ex_then_n ?_
      refine sx_then true (by rfl) rfl ?_
      refine wp_seq ?_
      refine sx_region ?_
      refine sx_rd 4 (.bool false) (by rfl) (by kernel_rfl) ?_
      refine sx_nil ?_
      refine ex_then_n ?_
      refine wp_ret ?_
      refine ex_then_r ?_
      refine sx_end (.bool false) (res1 4 (by rfl)) ?_
      have hc : lyCan s p = false := by revert c_3 c_6 c_13 c_14 c_32; simp +contextual [Bool.not_true, lyCan, -List.length_eq_zero_iff] <;> (intros; omega)
      exact ⟨s, _, _, _, _, _, _, by rw [hc], by rw [hc]; rfl, (hp.take [1, 2, 3] 4 (by decide) (by simp))⟩
     ·
      obtain ⟨c_32a, c_32b⟩ := and_dec (not_eq c_32); replace c_32a := of_decide_eq_true c_32a; replace c_32b := of_decide_eq_true c_32b
      refine sx_drawT [0, 2, 3, 4] (.rd 1 (.rd 5 (.rd 6 (.rd 7 (.alt 8 (.rd 9 (.rd 10 (.rd 11 (.rd 12 (.rd 13 (.rd 14 (.rd 15 (.rd 16 (.rd 17 (.rd 18 (.rd 19 (.rd 20 (.rd 21 (.alt 22 (.rd 23 (.rd 24 (.fin))) .non)))))))))))))) .non))))) 25 (C := Hp w0 (blk g_1 #[.int .i64 p.f0.f0, .int .i64 p.f0.f1, .int .i64 p.f1] 36 :: blk g #[.slice A1 s.ar.length c1, .slice A2 s.ti.length c2, .int .i64 s.sp, .int .i64 s.wt, .bool s.fi, .bool s.l0, .bool s.l1] 68 :: row k72 72 b (.slice A1 s.ar.length c1) s.ar F1 :: row k34 34 b (.slice A2 s.ti.length c2) s.ti F2 :: cs)) (by kernel_rfl) (by kernel_rfl) (fun d _ _ _ _ h => by cases d <;> exact h) (fun W h => h.drew) hp ?_
      refine preI_read rfl ?_
      refine sxq_val 81 (.pointer (some ⟨g_1, 2, none⟩)) (by rfl) (fun W _ => (by kernel_rfl)) ?_
      refine sxq_nil ?_
      refine preI_read rfl ?_
      refine sxq_val 83 (.pointer (some ⟨g, 0, none⟩)) (by rfl) (fun W _ => (by kernel_rfl)) ?_
      refine sxq_nil ?_
      refine preI_read rfl ?_
      refine sxq_val 84 (.pointer (some ⟨g, 0, none⟩)) (by rfl) (fun W _ => (by kernel_rfl)) ?_
      refine sxq_nil ?_
      refine preI_read rfl ?_
      refine sxq_val 85 (.pointer (some ⟨g, 0, none⟩)) (by rfl) (fun W _ => (by kernel_rfl)) ?_
      refine sxq_nil ?_
      refine preI_nil ?_
      intro W_35 hp
      refine treeI_rd rfl ?_
      refine sxq_val 82 (.int .i64 p.f1) (by rfl) (fun W hp => (ld1 (t := 3) (p := (.tmp 81)) (by rfl) (by rfl) (by kernel_rfl) (hp.cell 0 (by rfl) 2 _ (by rfl)))) ?_
      refine sxq_nil ?_
      refine treeI_rd rfl ?_
      refine sxq_val 86 (.slice A1 s.ar.length c1) (by rfl) (fun W hp => (ld1 (t := 51) (p := (.tmp 85)) (by rfl) (by rfl) (by kernel_rfl) (hp.cell 1 (by rfl) 0 _ (by rfl)))) ?_
      refine sxq_nil ?_
      refine treeI_rd rfl ?_
      refine sxq_val 87 (.int .i64 (s.ar.length : Int)) (by rfl) (fun W hp => (by kernel_rfl)) ?_
      refine sxq_nil ?_
      refine treeI_rd rfl ?_
      refine sxq_val 88 (.int .i64 ((s.ar.length : Int) - 1)) (by rfl) (fun W hp => (wr_ok (by omega) (by kernel_rfl))) ?_
      refine sxq_nil ?_
      refine treeI_ev rfl ?_
      refine sx_call 89 (by rfl) (by kernel_rfl) ((l1In_c p.f1 0 ((s.ar.length : Int) - 1) _).mono ?_)
      rintro _ W_36 ⟨rfl, hb⟩
      refine ⟨.bool true, congrArg (fun b => Ending.returned (.bool b)) (not_eq c_32), ?_⟩
      replace hp := hp.below hb.below
      clear hb
      refine step_fin hp ?_
      refine treeI_rd rfl ?_
      refine sxq_val 90 (.bool false) (by rfl) (fun W hp => (by kernel_rfl)) ?_
      refine sxq_nil ?_
      refine treeI_rd rfl ?_
      refine sxq_val 91 (.bool false) (by rfl) (fun W hp => (by kernel_rfl)) ?_
      refine sxq_nil ?_
      refine treeI_rd rfl ?_
      refine sxq_want (by rfl) ?_
      refine sxq_val 92 (.pointer (some ⟨g_1, 0, none⟩)) (by rfl) (fun W hp => (by kernel_rfl)) ?_
      refine sxq_nil ?_
      refine treeI_rd rfl ?_
      refine sxq_want (by rfl) ?_
      refine sxq_val 93 (.agg #[.int .i64 p.f0.f0, .int .i64 p.f0.f1]) (by rfl) (fun W hp => (ldn (t := 34) (p := (.tmp 92)) (by rfl) (by rfl) (by kernel_rfl) (by kernel_rfl) (by kernel_rfl) (hp.at_ 0 _ (by rfl)))) ?_
      refine sxq_nil ?_
      refine treeI_rd rfl ?_
      refine sxq_want (by rfl) ?_
      refine sxq_val 94 (.pointer (some ⟨g, 0, none⟩)) (by rfl) (fun W hp => (by kernel_rfl)) ?_
      refine sxq_nil ?_
      refine treeI_rd rfl ?_
      refine sxq_want (by rfl) ?_
      refine sxq_val 95 (.pointer (some ⟨g, 0, none⟩)) (by rfl) (fun W hp => (by kernel_rfl)) ?_
      refine sxq_nil ?_
      refine treeI_rd rfl ?_
      refine sxq_want (by rfl) ?_
      refine sxq_val 96 (.pointer (some ⟨g, 0, none⟩)) (by rfl) (fun W hp => (by kernel_rfl)) ?_
      refine sxq_nil ?_
      refine treeI_rd rfl ?_
      refine sxq_want (by rfl) ?_
      refine sxq_val 97 (.slice A1 s.ar.length c1) (by rfl) (fun W hp => (ld1 (t := 51) (p := (.tmp 96)) (by rfl) (by rfl) (by kernel_rfl) (hp.cell 1 (by rfl) 0 _ (by rfl)))) ?_
      refine sxq_nil ?_
      refine treeI_rd rfl ?_
      refine sxq_want (by rfl) ?_
      refine sxq_val 98 (.pointer (some ⟨g_1, 2, none⟩)) (by rfl) (fun W hp => (by kernel_rfl)) ?_
      refine sxq_nil ?_
      refine treeI_rd rfl ?_
      refine sxq_want (by rfl) ?_
      refine sxq_val 99 (.int .i64 p.f1) (by rfl) (fun W hp => (ld1 (t := 3) (p := (.tmp 98)) (by rfl) (by rfl) (by kernel_rfl) (hp.cell 0 (by rfl) 2 _ (by rfl)))) ?_
      refine sxq_nil ?_
      refine treeI_rd rfl ?_
      refine sxq_want (by rfl) ?_
      refine sxq_val 100 (.pointer (some (adr A1 p.f1 3))) (by rfl) (fun W hp => (ix_run (d := k72) (row_C (hp.at_ 2 _ (by rfl))) (t := 51) (by rfl) (by rfl) (by rfl) Tryd.underlying51 (by kernel_rfl) (by omega) (by omega))) ?_
      refine sxq_nil ?_
      refine treeI_rd rfl ?_
      refine sxq_want (by rfl) ?_
      refine sxq_val 101 (.pointer (some (adr A1 p.f1 3))) (by rfl) (fun W hp => (by kernel_rfl)) ?_
      refine sxq_nil ?_
      refine treeI_rd rfl ?_
      refine sxq_want (by rfl) ?_
      refine sxq_val 102 (.int .i64 ((rd_Arm s.ar p.f1).f0)) (by rfl) (fun W hp => (ld1 (t := 3) (p := (.tmp 101)) (by rfl) (by rfl) (by kernel_rfl) (el_cell (d := k72) (row_C (hp.at_ 2 _ (by rfl))) z72 p.f1 (by omega) (by omega) (cells := [.int .i64 ((rd_Arm s.ar p.f1).f0), .bool ((rd_Arm s.ar p.f1).f1), .bool ((rd_Arm s.ar p.f1).f2)]) (fun cs h => k72_open h) 0 _ (by rfl)))) ?_
      refine sxq_nil ?_
      refine treeI_ev rfl ?_
      refine sx_want (by rfl) ?_
      refine sx_call 103 (by rfl) (by kernel_rfl) ((haOther_c p.f0 ((rd_Arm s.ar p.f1).f0) _).mono ?_)
      rintro _ W_37 ⟨rfl, hb⟩
      refine ⟨_, rfl, ?_⟩
      replace hp := hp.below hb
      clear hb
      refine step_fin hp ?_
      refine treeI_rd rfl ?_
      refine sxq_want (by rfl) ?_
      refine sxq_val 104 (.bool (decide ((othT p.f0 (rd_Arm s.ar p.f1).f0) < 0))) (by rfl) (fun W hp => (by kernel_rfl)) ?_
      refine sxq_nil ?_
      refine treeI_rd rfl ?_
      refine sxq_val 105 (.bool (decide ((othT p.f0 (rd_Arm s.ar p.f1).f0) < 0))) (by rfl) (fun W hp => (by kernel_rfl)) ?_
      refine sxq_nil ?_
      refine treeI_fin ?_
      refine sx_nil ?_
      refine ex_then_n ?_
      refine sx_cond (decide ((othT p.f0 (rd_Arm s.ar p.f1).f0) < 0)) (by rfl) (fun c_38 => ?_) (fun c_38 => ?_)
      ·
       have c_38p := of_decide_eq_true c_38
       refine wp_seq ?_
       refine sx_region ?_
       refine sx_rd 4 (.bool false) (by rfl) (by kernel_rfl) ?_
       refine sx_nil ?_
       refine ex_then_n ?_
       refine wp_ret ?_
       refine ex_then_r ?_
       refine sx_end (.bool false) (res1 4 (by rfl)) ?_
       have hc : lyCan s p = false := by revert c_3 c_6 c_13 c_14 c_32 c_38; simp +contextual [Bool.not_true, lyCan, -List.length_eq_zero_iff] <;> (intros; omega)
       exact ⟨s, _, _, _, _, _, _, by rw [hc], by rw [hc]; rfl, (hp.take [1, 2, 3] 4 (by decide) (by simp))⟩
      ·
       have c_38p := of_decide_eq_false c_38
       refine wp_skip ?_
       refine ex_then_n ?_
       refine wp_seq ?_
       refine sx_region ?_
       refine sx_rd 6 (.bool false) (by rfl) (by kernel_rfl) ?_
       refine sx_nil ?_
       refine ex_then_n ?_
       refine sx_cut (fun a_ W => ∃ (r_ : List (Nat × Value)) (l0' l1' sd : Bool), a_ = fr 221 ([(0, .pointer (some ⟨g, 0, none⟩)), (3, .pointer (some ⟨g_1, 0, none⟩)), (5, .bool (p.f0.f0 == p.f0.f1)), (6, .bool sd)] ++ r_) ∧ Hp w0 (blk g_1 #[.int .i64 p.f0.f0, .int .i64 p.f0.f1, .int .i64 p.f1] 36 :: blk g #[.slice A1 s.ar.length c1, .slice A2 s.ti.length c2, .int .i64 s.sp, .int .i64 s.wt, .bool s.fi, .bool l0', .bool l1'] 68 :: row k72 72 b (.slice A1 s.ar.length c1) s.ar F1 :: row k34 34 b (.slice A2 s.ti.length c2) s.ti F2 :: cs) W ∧ (l0' = (s.l0 || (lyHit s p.f1 && p.f1 == 0))) ∧ (l1' = (s.l1 || (lyHit s p.f1 && !(p.f1 == 0)))) ∧ (sd = (lyHit s p.f1 && l0' && l1'))) ?_ ?_
       ·
        refine wp_seq ?_
        rcases Bool.eq_false_or_eq_true s.fi with c_39 | c_39
        ·
         rcases Bool.eq_false_or_eq_true (decide (p.f1 < 2)) with c_40 | c_40
         ·
          have c_40p := of_decide_eq_true c_40
          have c_41 : p.f1 = ((0 : Nat) : Int) ∨ p.f1 = ((1 : Nat) : Int) := by omega
          rcases c_41 with c_41 | c_41
          ·
           refine sx_drawT [0, 1, 2] (.rd 3 (.rd 4 (.rd 5 (.rd 6 (.rd 7 (.rd 8 (.rd 9 (.rd 10 (.rd 11 (.rd 12 (.rd 13 (.rd 14 (.rd 15 (.rd 16 (.rd 17 (.rd 18 (.fin))))))))))))))))) 19 (C := Hp w0 (blk g_1 #[.int .i64 p.f0.f0, .int .i64 p.f0.f1, .int .i64 p.f1] 36 :: blk g #[.slice A1 s.ar.length c1, .slice A2 s.ti.length c2, .int .i64 s.sp, .int .i64 s.wt, .bool s.fi, .bool s.l0, .bool s.l1] 68 :: row k72 72 b (.slice A1 s.ar.length c1) s.ar F1 :: row k34 34 b (.slice A2 s.ti.length c2) s.ti F2 :: cs)) (by kernel_rfl) (by kernel_rfl) (fun d _ _ _ _ h => by cases d <;> exact h) (fun W h => h.drew) hp ?_
           refine preI_read rfl ?_
           refine sxq_val 106 (.pointer (some ⟨g, 0, none⟩)) (by rfl) (fun W _ => (by kernel_rfl)) ?_
           refine sxq_nil ?_
           refine preI_read rfl ?_
           refine sxq_val 107 (.pointer (some ⟨g, 0, none⟩)) (by rfl) (fun W _ => (by kernel_rfl)) ?_
           refine sxq_nil ?_
           refine preI_read rfl ?_
           refine sxq_val 108 (.pointer (some ⟨g, 4, none⟩)) (by rfl) (fun W _ => (by kernel_rfl)) ?_
           refine sxq_nil ?_
           refine preI_nil ?_
           intro W_42 hp
           refine treeI_rd rfl ?_
           refine sxq_val 109 (.bool true) (by rfl) (fun W hp => (bv c_39 (ld1 (t := 4) (p := (.tmp 108)) (by rfl) (by rfl) (by kernel_rfl) (hp.cell 1 (by rfl) 4 _ (by rfl))))) ?_
           refine sxq_nil ?_
           refine treeI_rd rfl ?_
           refine sxq_val 110 (.bool true) (by rfl) (fun W hp => (by kernel_rfl)) ?_
           refine sxq_nil ?_
           refine treeI_rd rfl ?_
           refine sxq_want (by rfl) ?_
           refine sxq_val 111 (.pointer (some ⟨g_1, 2, none⟩)) (by rfl) (fun W hp => (by kernel_rfl)) ?_
           refine sxq_nil ?_
           refine treeI_rd rfl ?_
           refine sxq_want (by rfl) ?_
           refine sxq_val 112 (.int .i64 p.f1) (by rfl) (fun W hp => (ld1 (t := 3) (p := (.tmp 111)) (by rfl) (by rfl) (by kernel_rfl) (hp.cell 0 (by rfl) 2 _ (by rfl)))) ?_
           refine sxq_nil ?_
           refine treeI_rd rfl ?_
           refine sxq_want (by rfl) ?_
           refine sxq_val 113 (.bool true) (by rfl) (fun W hp => (bv c_40 (by kernel_rfl))) ?_
           refine sxq_nil ?_
           refine treeI_rd rfl ?_
           refine sxq_val 114 (.bool true) (by rfl) (fun W hp => (by kernel_rfl)) ?_
           refine sxq_nil ?_
           refine treeI_rd rfl ?_
           refine sxq_val 115 (.bool true) (by rfl) (fun W hp => (by kernel_rfl)) ?_
           refine sxq_nil ?_
           refine treeI_rd rfl ?_
           refine sxq_want (by rfl) ?_
           refine sxq_val 116 (.pointer (some ⟨g, 0, none⟩)) (by rfl) (fun W hp => (by kernel_rfl)) ?_
           refine sxq_nil ?_
           refine treeI_rd rfl ?_
           refine sxq_want (by rfl) ?_
           refine sxq_val 117 (.pointer (some ⟨g_1, 2, none⟩)) (by rfl) (fun W hp => (by kernel_rfl)) ?_
           refine sxq_nil ?_
           refine treeI_rd rfl ?_
           refine sxq_want (by rfl) ?_
           refine sxq_val 118 (.int .i64 p.f1) (by rfl) (fun W hp => (ld1 (t := 3) (p := (.tmp 117)) (by rfl) (by rfl) (by kernel_rfl) (hp.cell 0 (by rfl) 2 _ (by rfl)))) ?_
           refine sxq_nil ?_
           refine treeI_rd rfl ?_
           refine sxq_want (by rfl) ?_
           refine sxq_val 119 (.pointer (some ⟨g, 0, none⟩)) (by rfl) (fun W hp => (by kernel_rfl)) ?_
           refine sxq_nil ?_
           refine treeI_rd rfl ?_
           refine sxq_want (by rfl) ?_
           refine sxq_val 120 (.pointer (some ⟨g, 5, none⟩)) (by rfl) (fun W hp => (by kernel_rfl)) ?_
           refine sxq_nil ?_
           refine treeI_rd rfl ?_
           refine sxq_want (by rfl) ?_
           refine sxq_val 121 (.pointer (some ⟨g, 5, none⟩)) (by rfl) (fun W hp => (ixa_run 0 (t := 53) (by rfl) (by rfl) (by rfl) c_41 Tryd.underlying53 (by decide) (by decide) 1 (by kernel_rfl))) ?_
           refine sxq_nil ?_
           refine treeI_rd rfl ?_
           refine sxq_want (by rfl) ?_
           refine sxq_val 122 (.bool s.l0) (by rfl) (fun W hp => (ld1 (t := 4) (p := (.tmp 121)) (by rfl) (by rfl) (by kernel_rfl) (hp.cell 1 (by rfl) 5 _ (by rfl)))) ?_
           refine sxq_nil ?_
           refine treeI_rd rfl ?_
           refine sxq_want (by rfl) ?_
           refine sxq_val 123 (.bool (!s.l0)) (by rfl) (fun W hp => (by kernel_rfl)) ?_
           refine sxq_nil ?_
           refine treeI_rd rfl ?_
           refine sxq_val 124 (.bool (!s.l0)) (by rfl) (fun W hp => (by kernel_rfl)) ?_
           refine sxq_nil ?_
           refine treeI_fin ?_
           refine sx_nil ?_
           refine ex_then_n ?_
           refine sx_cond (!s.l0) (by rfl) (fun c_43 => ?_) (fun c_43 => ?_)
           ·
            refine wp_seq ?_
            refine sx_drawT [0, 1, 3, 4] (.rd 2 (.rd 5 (.fin))) 6 (C := Hp w0 (blk g_1 #[.int .i64 p.f0.f0, .int .i64 p.f0.f1, .int .i64 p.f1] 36 :: blk g #[.slice A1 s.ar.length c1, .slice A2 s.ti.length c2, .int .i64 s.sp, .int .i64 s.wt, .bool s.fi, .bool s.l0, .bool s.l1] 68 :: row k72 72 b (.slice A1 s.ar.length c1) s.ar F1 :: row k34 34 b (.slice A2 s.ti.length c2) s.ti F2 :: cs)) (by kernel_rfl) (by kernel_rfl) (fun d _ _ _ _ h => by cases d <;> exact h) (fun W h => h.drew) hp ?_
            refine preI_read rfl ?_
            refine sxq_val 125 (.pointer (some ⟨g, 0, none⟩)) (by rfl) (fun W _ => (by kernel_rfl)) ?_
            refine sxq_nil ?_
            refine preI_read rfl ?_
            refine sxq_val 126 (.pointer (some ⟨g_1, 2, none⟩)) (by rfl) (fun W _ => (by kernel_rfl)) ?_
            refine sxq_nil ?_
            refine preI_read rfl ?_
            refine sxq_val 128 (.pointer (some ⟨g, 0, none⟩)) (by rfl) (fun W _ => (by kernel_rfl)) ?_
            refine sxq_nil ?_
            refine preI_read rfl ?_
            refine sxq_val 129 (.pointer (some ⟨g, 5, none⟩)) (by rfl) (fun W _ => (by kernel_rfl)) ?_
            refine sxq_nil ?_
            refine preI_nil ?_
            intro W_44 hp
            refine treeI_rd rfl ?_
            refine sxq_val 127 (.int .i64 p.f1) (by rfl) (fun W hp => (ld1 (t := 3) (p := (.tmp 126)) (by rfl) (by rfl) (by kernel_rfl) (hp.cell 0 (by rfl) 2 _ (by rfl)))) ?_
            refine sxq_nil ?_
            refine treeI_rd rfl ?_
            refine sxq_val 130 (.pointer (some ⟨g, 5, none⟩)) (by rfl) (fun W hp => (ixa_run 0 (t := 53) (by rfl) (by rfl) (by rfl) c_41 Tryd.underlying53 (by decide) (by decide) 1 (by kernel_rfl))) ?_
            refine sxq_nil ?_
            refine treeI_fin ?_
            refine tail_of [6] (by rfl) ?_
            refine tailI_op rfl ?_
            refine sx_store (t := 4) (p := (.tmp 130)) (x := (.const (Go.Value.bool true))) (by rfl) (by rfl) 1 (by rfl) 5 [.bool true] (by rfl) (by rfl) (by kernel_rfl) (by simp [Value.oneCell']) (by show 6 ≤ 7; omega) #[.slice A1 s.ar.length c1, .slice A2 s.ti.length c2, .int .i64 s.sp, .int .i64 s.wt, .bool s.fi, .bool true, .bool s.l1] (by rfl) hp ?_
            intro W_45 hp; simp only [List.set_cons_succ, List.set_cons_zero] at hp
            refine tailI_next ?_
            refine tailI_nil ?_
            refine ex_then_n ?_
            refine sx_region ?_
            refine sx_rd 131 (.pointer (some ⟨g, 0, none⟩)) (by rfl) (by kernel_rfl) ?_
            refine sx_rd 132 (.pointer (some ⟨g, 0, none⟩)) (by rfl) (by kernel_rfl) ?_
            refine sx_rd 133 (.pointer (some ⟨g, 5, none⟩)) (by rfl) (by kernel_rfl) ?_
            refine sx_rd 134 (.pointer (some ⟨g, 5, none⟩)) (by rfl) (by kernel_rfl) ?_
            refine sx_rd 135 (.bool true) (by rfl) (ld1 (t := 4) (p := (.tmp 134)) (by rfl) (by rfl) (by kernel_rfl) (hp.cell 1 (by rfl) 5 _ (by rfl))) ?_
            refine sx_rd 136 (.bool true) (by rfl) (by kernel_rfl) ?_
            refine sx_want (by rfl) ?_
            refine sx_rd 137 (.pointer (some ⟨g, 0, none⟩)) (by rfl) (by kernel_rfl) ?_
            refine sx_want (by rfl) ?_
            refine sx_rd 138 (.pointer (some ⟨g, 0, none⟩)) (by rfl) (by kernel_rfl) ?_
            refine sx_want (by rfl) ?_
            refine sx_rd 139 (.pointer (some ⟨g, 5, none⟩)) (by rfl) (by kernel_rfl) ?_
            refine sx_want (by rfl) ?_
            refine sx_rd 140 (.pointer (some ⟨g, 6, none⟩)) (by rfl) (by kernel_rfl) ?_
            refine sx_want (by rfl) ?_
            refine sx_rd 141 (.bool s.l1) (by rfl) (ld1 (t := 4) (p := (.tmp 140)) (by rfl) (by rfl) (by kernel_rfl) (hp.cell 1 (by rfl) 6 _ (by rfl))) ?_
            refine sx_rd 142 (.bool s.l1) (by rfl) (by kernel_rfl) ?_
            refine sx_rd 6 (.bool s.l1) (by rfl) (by kernel_rfl) ?_
            refine sx_nil ?_
            refine ex_then_n ?_
            exact ⟨_, true, s.l1, s.l1, fr_front [(0, .pointer (some ⟨g, 0, none⟩)), (3, .pointer (some ⟨g_1, 0, none⟩)), (5, .bool (p.f0.f0 == p.f0.f1)), (6, .bool s.l1)] ⟨rfl, rfl, rfl, rfl, trivial⟩, (hp.take [0, 1, 2, 3] 4 (by decide) (by simp)), by revert c_3 c_6 c_13 c_14 c_32 c_38 c_39 c_40 c_41 c_43; simp +contextual [Bool.not_true, lyHit, -List.length_eq_zero_iff] <;> (intros; omega), by revert c_3 c_6 c_13 c_14 c_32 c_38 c_39 c_40 c_41 c_43; simp +contextual [Bool.not_true, lyHit, -List.length_eq_zero_iff] <;> (intros; omega), by revert c_3 c_6 c_13 c_14 c_32 c_38 c_39 c_40 c_41 c_43; simp +contextual [Bool.not_true, lyHit, -List.length_eq_zero_iff] <;> (intros; omega)⟩
           ·
            refine wp_skip ?_
            refine ex_then_n ?_
            exact ⟨_, s.l0, s.l1, false, fr_front [(0, .pointer (some ⟨g, 0, none⟩)), (3, .pointer (some ⟨g_1, 0, none⟩)), (5, .bool (p.f0.f0 == p.f0.f1)), (6, .bool false)] ⟨rfl, rfl, rfl, rfl, trivial⟩, (hp.take [0, 1, 2, 3] 4 (by decide) (by simp)), by revert c_3 c_6 c_13 c_14 c_32 c_38 c_39 c_40 c_41 c_43; simp +contextual [Bool.not_true, lyHit, -List.length_eq_zero_iff] <;> (intros; omega), by revert c_3 c_6 c_13 c_14 c_32 c_38 c_39 c_40 c_41 c_43; simp +contextual [Bool.not_true, lyHit, -List.length_eq_zero_iff] <;> (intros; omega), by revert c_3 c_6 c_13 c_14 c_32 c_38 c_39 c_40 c_41 c_43; simp +contextual [Bool.not_true, lyHit, -List.length_eq_zero_iff] <;> (intros; omega)⟩
          ·
           refine sx_drawT [0, 1, 2] (.rd 3 (.rd 4 (.rd 5 (.rd 6 (.rd 7 (.rd 8 (.rd 9 (.rd 10 (.rd 11 (.rd 12 (.rd 13 (.rd 14 (.rd 15 (.rd 16 (.rd 17 (.rd 18 (.fin))))))))))))))))) 19 (C := Hp w0 (blk g_1 #[.int .i64 p.f0.f0, .int .i64 p.f0.f1, .int .i64 p.f1] 36 :: blk g #[.slice A1 s.ar.length c1, .slice A2 s.ti.length c2, .int .i64 s.sp, .int .i64 s.wt, .bool s.fi, .bool s.l0, .bool s.l1] 68 :: row k72 72 b (.slice A1 s.ar.length c1) s.ar F1 :: row k34 34 b (.slice A2 s.ti.length c2) s.ti F2 :: cs)) (by kernel_rfl) (by kernel_rfl) (fun d _ _ _ _ h => by cases d <;> exact h) (fun W h => h.drew) hp ?_
           refine preI_read rfl ?_
           refine sxq_val 106 (.pointer (some ⟨g, 0, none⟩)) (by rfl) (fun W _ => (by kernel_rfl)) ?_
           refine sxq_nil ?_
           refine preI_read rfl ?_
           refine sxq_val 107 (.pointer (some ⟨g, 0, none⟩)) (by rfl) (fun W _ => (by kernel_rfl)) ?_
           refine sxq_nil ?_
           refine preI_read rfl ?_
           refine sxq_val 108 (.pointer (some ⟨g, 4, none⟩)) (by rfl) (fun W _ => (by kernel_rfl)) ?_
           refine sxq_nil ?_
           refine preI_nil ?_
           intro W_46 hp
           refine treeI_rd rfl ?_
           refine sxq_val 109 (.bool true) (by rfl) (fun W hp => (bv c_39 (ld1 (t := 4) (p := (.tmp 108)) (by rfl) (by rfl) (by kernel_rfl) (hp.cell 1 (by rfl) 4 _ (by rfl))))) ?_
           refine sxq_nil ?_
           refine treeI_rd rfl ?_
           refine sxq_val 110 (.bool true) (by rfl) (fun W hp => (by kernel_rfl)) ?_
           refine sxq_nil ?_
           refine treeI_rd rfl ?_
           refine sxq_want (by rfl) ?_
           refine sxq_val 111 (.pointer (some ⟨g_1, 2, none⟩)) (by rfl) (fun W hp => (by kernel_rfl)) ?_
           refine sxq_nil ?_
           refine treeI_rd rfl ?_
           refine sxq_want (by rfl) ?_
           refine sxq_val 112 (.int .i64 p.f1) (by rfl) (fun W hp => (ld1 (t := 3) (p := (.tmp 111)) (by rfl) (by rfl) (by kernel_rfl) (hp.cell 0 (by rfl) 2 _ (by rfl)))) ?_
           refine sxq_nil ?_
           refine treeI_rd rfl ?_
           refine sxq_want (by rfl) ?_
           refine sxq_val 113 (.bool true) (by rfl) (fun W hp => (bv c_40 (by kernel_rfl))) ?_
           refine sxq_nil ?_
           refine treeI_rd rfl ?_
           refine sxq_val 114 (.bool true) (by rfl) (fun W hp => (by kernel_rfl)) ?_
           refine sxq_nil ?_
           refine treeI_rd rfl ?_
           refine sxq_val 115 (.bool true) (by rfl) (fun W hp => (by kernel_rfl)) ?_
           refine sxq_nil ?_
           refine treeI_rd rfl ?_
           refine sxq_want (by rfl) ?_
           refine sxq_val 116 (.pointer (some ⟨g, 0, none⟩)) (by rfl) (fun W hp => (by kernel_rfl)) ?_
           refine sxq_nil ?_
           refine treeI_rd rfl ?_
           refine sxq_want (by rfl) ?_
           refine sxq_val 117 (.pointer (some ⟨g_1, 2, none⟩)) (by rfl) (fun W hp => (by kernel_rfl)) ?_
           refine sxq_nil ?_
           refine treeI_rd rfl ?_
           refine sxq_want (by rfl) ?_
           refine sxq_val 118 (.int .i64 p.f1) (by rfl) (fun W hp => (ld1 (t := 3) (p := (.tmp 117)) (by rfl) (by rfl) (by kernel_rfl) (hp.cell 0 (by rfl) 2 _ (by rfl)))) ?_
           refine sxq_nil ?_
           refine treeI_rd rfl ?_
           refine sxq_want (by rfl) ?_
           refine sxq_val 119 (.pointer (some ⟨g, 0, none⟩)) (by rfl) (fun W hp => (by kernel_rfl)) ?_
           refine sxq_nil ?_
           refine treeI_rd rfl ?_
           refine sxq_want (by rfl) ?_
           refine sxq_val 120 (.pointer (some ⟨g, 5, none⟩)) (by rfl) (fun W hp => (by kernel_rfl)) ?_
           refine sxq_nil ?_
           refine treeI_rd rfl ?_
           refine sxq_want (by rfl) ?_
           refine sxq_val 121 (.pointer (some ⟨g, 6, none⟩)) (by rfl) (fun W hp => (ixa_run 1 (t := 53) (by rfl) (by rfl) (by rfl) c_41 Tryd.underlying53 (by decide) (by decide) 1 (by kernel_rfl))) ?_
           refine sxq_nil ?_
           refine treeI_rd rfl ?_
           refine sxq_want (by rfl) ?_
           refine sxq_val 122 (.bool s.l1) (by rfl) (fun W hp => (ld1 (t := 4) (p := (.tmp 121)) (by rfl) (by rfl) (by kernel_rfl) (hp.cell 1 (by rfl) 6 _ (by rfl)))) ?_
           refine sxq_nil ?_
           refine treeI_rd rfl ?_
           refine sxq_want (by rfl) ?_
           refine sxq_val 123 (.bool (!s.l1)) (by rfl) (fun W hp => (by kernel_rfl)) ?_
           refine sxq_nil ?_
           refine treeI_rd rfl ?_
           refine sxq_val 124 (.bool (!s.l1)) (by rfl) (fun W hp => (by kernel_rfl)) ?_
           refine sxq_nil ?_
           refine treeI_fin ?_
           refine sx_nil ?_
           refine ex_then_n ?_
           refine sx_cond (!s.l1) (by rfl) (fun c_47 => ?_) (fun c_47 => ?_)
           ·
            refine wp_seq ?_
            refine sx_drawT [0, 1, 3, 4] (.rd 2 (.rd 5 (.fin))) 6 (C := Hp w0 (blk g_1 #[.int .i64 p.f0.f0, .int .i64 p.f0.f1, .int .i64 p.f1] 36 :: blk g #[.slice A1 s.ar.length c1, .slice A2 s.ti.length c2, .int .i64 s.sp, .int .i64 s.wt, .bool s.fi, .bool s.l0, .bool s.l1] 68 :: row k72 72 b (.slice A1 s.ar.length c1) s.ar F1 :: row k34 34 b (.slice A2 s.ti.length c2) s.ti F2 :: cs)) (by kernel_rfl) (by kernel_rfl) (fun d _ _ _ _ h => by cases d <;> exact h) (fun W h => h.drew) hp ?_
            refine preI_read rfl ?_
            refine sxq_val 125 (.pointer (some ⟨g, 0, none⟩)) (by rfl) (fun W _ => (by kernel_rfl)) ?_
            refine sxq_nil ?_
            refine preI_read rfl ?_
            refine sxq_val 126 (.pointer (some ⟨g_1, 2, none⟩)) (by rfl) (fun W _ => (by kernel_rfl)) ?_
            refine sxq_nil ?_
            refine preI_read rfl ?_
            refine sxq_val 128 (.pointer (some ⟨g, 0, none⟩)) (by rfl) (fun W _ => (by kernel_rfl)) ?_
            refine sxq_nil ?_
            refine preI_read rfl ?_
            refine sxq_val 129 (.pointer (some ⟨g, 5, none⟩)) (by rfl) (fun W _ => (by kernel_rfl)) ?_
            refine sxq_nil ?_
            refine preI_nil ?_
            intro W_48 hp
            refine treeI_rd rfl ?_
            refine sxq_val 127 (.int .i64 p.f1) (by rfl) (fun W hp => (ld1 (t := 3) (p := (.tmp 126)) (by rfl) (by rfl) (by kernel_rfl) (hp.cell 0 (by rfl) 2 _ (by rfl)))) ?_
            refine sxq_nil ?_
            refine treeI_rd rfl ?_
            refine sxq_val 130 (.pointer (some ⟨g, 6, none⟩)) (by rfl) (fun W hp => (ixa_run 1 (t := 53) (by rfl) (by rfl) (by rfl) c_41 Tryd.underlying53 (by decide) (by decide) 1 (by kernel_rfl))) ?_
            refine sxq_nil ?_
            refine treeI_fin ?_
            refine tail_of [6] (by rfl) ?_
            refine tailI_op rfl ?_
            refine sx_store (t := 4) (p := (.tmp 130)) (x := (.const (Go.Value.bool true))) (by rfl) (by rfl) 1 (by rfl) 6 [.bool true] (by rfl) (by rfl) (by kernel_rfl) (by simp [Value.oneCell']) (by show 7 ≤ 7; omega) #[.slice A1 s.ar.length c1, .slice A2 s.ti.length c2, .int .i64 s.sp, .int .i64 s.wt, .bool s.fi, .bool s.l0, .bool true] (by rfl) hp ?_
            intro W_49 hp; simp only [List.set_cons_succ, List.set_cons_zero] at hp
            refine tailI_next ?_
            refine tailI_nil ?_
            refine ex_then_n ?_
            rcases Bool.eq_false_or_eq_true s.l0 with c_50 | c_50
            ·
             refine sx_region ?_
             refine sx_rd 131 (.pointer (some ⟨g, 0, none⟩)) (by rfl) (by kernel_rfl) ?_
             refine sx_rd 132 (.pointer (some ⟨g, 0, none⟩)) (by rfl) (by kernel_rfl) ?_
             refine sx_rd 133 (.pointer (some ⟨g, 5, none⟩)) (by rfl) (by kernel_rfl) ?_
             refine sx_rd 134 (.pointer (some ⟨g, 5, none⟩)) (by rfl) (by kernel_rfl) ?_
             refine sx_rd 135 (.bool true) (by rfl) (bv c_50 (ld1 (t := 4) (p := (.tmp 134)) (by rfl) (by rfl) (by kernel_rfl) (hp.cell 1 (by rfl) 5 _ (by rfl)))) ?_
             refine sx_rd 136 (.bool true) (by rfl) (by kernel_rfl) ?_
             refine sx_want (by rfl) ?_
             refine sx_rd 137 (.pointer (some ⟨g, 0, none⟩)) (by rfl) (by kernel_rfl) ?_
             refine sx_want (by rfl) ?_
             refine sx_rd 138 (.pointer (some ⟨g, 0, none⟩)) (by rfl) (by kernel_rfl) ?_
             refine sx_want (by rfl) ?_
             refine sx_rd 139 (.pointer (some ⟨g, 5, none⟩)) (by rfl) (by kernel_rfl) ?_
             refine sx_want (by rfl) ?_
             refine sx_rd 140 (.pointer (some ⟨g, 6, none⟩)) (by rfl) (by kernel_rfl) ?_
             refine sx_want (by rfl) ?_
             refine sx_rd 141 (.bool true) (by rfl) (ld1 (t := 4) (p := (.tmp 140)) (by rfl) (by rfl) (by kernel_rfl) (hp.cell 1 (by rfl) 6 _ (by rfl))) ?_
             refine sx_rd 142 (.bool true) (by rfl) (by kernel_rfl) ?_
             refine sx_rd 6 (.bool true) (by rfl) (by kernel_rfl) ?_
             refine sx_nil ?_
             refine ex_then_n ?_
             exact ⟨_, s.l0, true, true, fr_front [(0, .pointer (some ⟨g, 0, none⟩)), (3, .pointer (some ⟨g_1, 0, none⟩)), (5, .bool (p.f0.f0 == p.f0.f1)), (6, .bool true)] ⟨rfl, rfl, rfl, rfl, trivial⟩, (hp.take [0, 1, 2, 3] 4 (by decide) (by simp)), by revert c_3 c_6 c_13 c_14 c_32 c_38 c_39 c_40 c_41 c_47 c_50; simp +contextual [Bool.not_true, lyHit, -List.length_eq_zero_iff] <;> (intros; omega), by revert c_3 c_6 c_13 c_14 c_32 c_38 c_39 c_40 c_41 c_47 c_50; simp +contextual [Bool.not_true, lyHit, -List.length_eq_zero_iff] <;> (intros; omega), by revert c_3 c_6 c_13 c_14 c_32 c_38 c_39 c_40 c_41 c_47 c_50; simp +contextual [Bool.not_true, lyHit, -List.length_eq_zero_iff] <;> (intros; omega)⟩
            ·
             refine sx_region ?_
             refine sx_rd 131 (.pointer (some ⟨g, 0, none⟩)) (by rfl) (by kernel_rfl) ?_
             refine sx_rd 132 (.pointer (some ⟨g, 0, none⟩)) (by rfl) (by kernel_rfl) ?_
             refine sx_rd 133 (.pointer (some ⟨g, 5, none⟩)) (by rfl) (by kernel_rfl) ?_
             refine sx_rd 134 (.pointer (some ⟨g, 5, none⟩)) (by rfl) (by kernel_rfl) ?_
             refine sx_rd 135 (.bool false) (by rfl) (bv c_50 (ld1 (t := 4) (p := (.tmp 134)) (by rfl) (by rfl) (by kernel_rfl) (hp.cell 1 (by rfl) 5 _ (by rfl)))) ?_
             refine sx_rd 136 (.bool false) (by rfl) (by kernel_rfl) ?_
             refine sx_skip 137 (by rfl) (by rfl) (by rfl) ?_
             refine sx_skip 138 (by rfl) (by rfl) (by rfl) ?_
             refine sx_skip 139 (by rfl) (by rfl) (by rfl) ?_
             refine sx_skip 140 (by rfl) (by rfl) (by rfl) ?_
             refine sx_skip 141 (by rfl) (by rfl) (by rfl) ?_
             refine sx_rd 142 (.bool false) (by rfl) (by kernel_rfl) ?_
             refine sx_rd 6 (.bool false) (by rfl) (by kernel_rfl) ?_
             refine sx_nil ?_
             refine ex_then_n ?_
             exact ⟨_, s.l0, true, false, fr_front [(0, .pointer (some ⟨g, 0, none⟩)), (3, .pointer (some ⟨g_1, 0, none⟩)), (5, .bool (p.f0.f0 == p.f0.f1)), (6, .bool false)] ⟨rfl, rfl, rfl, rfl, trivial⟩, (hp.take [0, 1, 2, 3] 4 (by decide) (by simp)), by revert c_3 c_6 c_13 c_14 c_32 c_38 c_39 c_40 c_41 c_47 c_50; simp +contextual [Bool.not_true, lyHit, -List.length_eq_zero_iff] <;> (intros; omega), by revert c_3 c_6 c_13 c_14 c_32 c_38 c_39 c_40 c_41 c_47 c_50; simp +contextual [Bool.not_true, lyHit, -List.length_eq_zero_iff] <;> (intros; omega), by revert c_3 c_6 c_13 c_14 c_32 c_38 c_39 c_40 c_41 c_47 c_50; simp +contextual [Bool.not_true, lyHit, -List.length_eq_zero_iff] <;> (intros; omega)⟩
           ·
            refine wp_skip ?_
            refine ex_then_n ?_
            exact ⟨_, s.l0, s.l1, false, fr_front [(0, .pointer (some ⟨g, 0, none⟩)), (3, .pointer (some ⟨g_1, 0, none⟩)), (5, .bool (p.f0.f0 == p.f0.f1)), (6, .bool false)] ⟨rfl, rfl, rfl, rfl, trivial⟩, (hp.take [0, 1, 2, 3] 4 (by decide) (by simp)), by revert c_3 c_6 c_13 c_14 c_32 c_38 c_39 c_40 c_41 c_47; simp +contextual [Bool.not_true, lyHit, -List.length_eq_zero_iff] <;> (intros; omega), by revert c_3 c_6 c_13 c_14 c_32 c_38 c_39 c_40 c_41 c_47; simp +contextual [Bool.not_true, lyHit, -List.length_eq_zero_iff] <;> (intros; omega), by revert c_3 c_6 c_13 c_14 c_32 c_38 c_39 c_40 c_41 c_47; simp +contextual [Bool.not_true, lyHit, -List.length_eq_zero_iff] <;> (intros; omega)⟩
         ·
          have c_40p := of_decide_eq_false c_40
          refine sx_drawT [0, 1, 2] (.rd 3 (.rd 4 (.rd 5 (.rd 6 (.rd 7 (.rd 8 (.rd 9 (.rd 10 (.rd 11 (.rd 12 (.rd 13 (.rd 14 (.rd 15 (.rd 16 (.rd 17 (.rd 18 (.fin))))))))))))))))) 19 (C := Hp w0 (blk g_1 #[.int .i64 p.f0.f0, .int .i64 p.f0.f1, .int .i64 p.f1] 36 :: blk g #[.slice A1 s.ar.length c1, .slice A2 s.ti.length c2, .int .i64 s.sp, .int .i64 s.wt, .bool s.fi, .bool s.l0, .bool s.l1] 68 :: row k72 72 b (.slice A1 s.ar.length c1) s.ar F1 :: row k34 34 b (.slice A2 s.ti.length c2) s.ti F2 :: cs)) (by kernel_rfl) (by kernel_rfl) (fun d _ _ _ _ h => by cases d <;> exact h) (fun W h => h.drew) hp ?_
          refine preI_read rfl ?_
          refine sxq_val 106 (.pointer (some ⟨g, 0, none⟩)) (by rfl) (fun W _ => (by kernel_rfl)) ?_
          refine sxq_nil ?_
          refine preI_read rfl ?_
          refine sxq_val 107 (.pointer (some ⟨g, 0, none⟩)) (by rfl) (fun W _ => (by kernel_rfl)) ?_
          refine sxq_nil ?_
          refine preI_read rfl ?_
          refine sxq_val 108 (.pointer (some ⟨g, 4, none⟩)) (by rfl) (fun W _ => (by kernel_rfl)) ?_
          refine sxq_nil ?_
          refine preI_nil ?_
          intro W_51 hp
          refine treeI_rd rfl ?_
          refine sxq_val 109 (.bool true) (by rfl) (fun W hp => (bv c_39 (ld1 (t := 4) (p := (.tmp 108)) (by rfl) (by rfl) (by kernel_rfl) (hp.cell 1 (by rfl) 4 _ (by rfl))))) ?_
          refine sxq_nil ?_
          refine treeI_rd rfl ?_
          refine sxq_val 110 (.bool true) (by rfl) (fun W hp => (by kernel_rfl)) ?_
          refine sxq_nil ?_
          refine treeI_rd rfl ?_
          refine sxq_want (by rfl) ?_
          refine sxq_val 111 (.pointer (some ⟨g_1, 2, none⟩)) (by rfl) (fun W hp => (by kernel_rfl)) ?_
          refine sxq_nil ?_
          refine treeI_rd rfl ?_
          refine sxq_want (by rfl) ?_
          refine sxq_val 112 (.int .i64 p.f1) (by rfl) (fun W hp => (ld1 (t := 3) (p := (.tmp 111)) (by rfl) (by rfl) (by kernel_rfl) (hp.cell 0 (by rfl) 2 _ (by rfl)))) ?_
          refine sxq_nil ?_
          refine treeI_rd rfl ?_
          refine sxq_want (by rfl) ?_
          refine sxq_val 113 (.bool false) (by rfl) (fun W hp => (bv c_40 (by kernel_rfl))) ?_
          refine sxq_nil ?_
          refine treeI_rd rfl ?_
          refine sxq_val 114 (.bool false) (by rfl) (fun W hp => (by kernel_rfl)) ?_
          refine sxq_nil ?_
          refine treeI_rd rfl ?_
          refine sxq_val 115 (.bool false) (by rfl) (fun W hp => (by kernel_rfl)) ?_
          refine sxq_nil ?_
          refine treeI_rd rfl ?_
          refine sxq_skip 116 (by rfl) (by rfl) (by rfl) ?_
          refine sxq_nil ?_
          refine treeI_rd rfl ?_
          refine sxq_skip 117 (by rfl) (by rfl) (by rfl) ?_
          refine sxq_nil ?_
          refine treeI_rd rfl ?_
          refine sxq_skip 118 (by rfl) (by rfl) (by rfl) ?_
          refine sxq_nil ?_
          refine treeI_rd rfl ?_
          refine sxq_skip 119 (by rfl) (by rfl) (by rfl) ?_
          refine sxq_nil ?_
          refine treeI_rd rfl ?_
          refine sxq_skip 120 (by rfl) (by rfl) (by rfl) ?_
          refine sxq_nil ?_
          refine treeI_rd rfl ?_
          refine sxq_skip 121 (by rfl) (by rfl) (by rfl) ?_
          refine sxq_nil ?_
          refine treeI_rd rfl ?_
          refine sxq_skip 122 (by rfl) (by rfl) (by rfl) ?_
          refine sxq_nil ?_
          refine treeI_rd rfl ?_
          refine sxq_skip 123 (by rfl) (by rfl) (by rfl) ?_
          refine sxq_nil ?_
          refine treeI_rd rfl ?_
          refine sxq_val 124 (.bool false) (by rfl) (fun W hp => (by kernel_rfl)) ?_
          refine sxq_nil ?_
          refine treeI_fin ?_
          refine sx_nil ?_
          refine ex_then_n ?_
          refine sx_else false (by rfl) rfl ?_
          refine wp_skip ?_
          refine ex_then_n ?_
          exact ⟨_, s.l0, s.l1, false, fr_front [(0, .pointer (some ⟨g, 0, none⟩)), (3, .pointer (some ⟨g_1, 0, none⟩)), (5, .bool (p.f0.f0 == p.f0.f1)), (6, .bool false)] ⟨rfl, rfl, rfl, rfl, trivial⟩, (hp.take [0, 1, 2, 3] 4 (by decide) (by simp)), by revert c_3 c_6 c_13 c_14 c_32 c_38 c_39 c_40; simp +contextual [Bool.not_true, lyHit, -List.length_eq_zero_iff] <;> (intros; omega), by revert c_3 c_6 c_13 c_14 c_32 c_38 c_39 c_40; simp +contextual [Bool.not_true, lyHit, -List.length_eq_zero_iff] <;> (intros; omega), by revert c_3 c_6 c_13 c_14 c_32 c_38 c_39 c_40; simp +contextual [Bool.not_true, lyHit, -List.length_eq_zero_iff] <;> (intros; omega)⟩
        ·
         refine sx_drawT [0, 1, 2] (.rd 3 (.rd 4 (.rd 5 (.rd 6 (.rd 7 (.rd 8 (.rd 9 (.rd 10 (.rd 11 (.rd 12 (.rd 13 (.rd 14 (.rd 15 (.rd 16 (.rd 17 (.rd 18 (.fin))))))))))))))))) 19 (C := Hp w0 (blk g_1 #[.int .i64 p.f0.f0, .int .i64 p.f0.f1, .int .i64 p.f1] 36 :: blk g #[.slice A1 s.ar.length c1, .slice A2 s.ti.length c2, .int .i64 s.sp, .int .i64 s.wt, .bool s.fi, .bool s.l0, .bool s.l1] 68 :: row k72 72 b (.slice A1 s.ar.length c1) s.ar F1 :: row k34 34 b (.slice A2 s.ti.length c2) s.ti F2 :: cs)) (by kernel_rfl) (by kernel_rfl) (fun d _ _ _ _ h => by cases d <;> exact h) (fun W h => h.drew) hp ?_
         refine preI_read rfl ?_
         refine sxq_val 106 (.pointer (some ⟨g, 0, none⟩)) (by rfl) (fun W _ => (by kernel_rfl)) ?_
         refine sxq_nil ?_
         refine preI_read rfl ?_
         refine sxq_val 107 (.pointer (some ⟨g, 0, none⟩)) (by rfl) (fun W _ => (by kernel_rfl)) ?_
         refine sxq_nil ?_
         refine preI_read rfl ?_
         refine sxq_val 108 (.pointer (some ⟨g, 4, none⟩)) (by rfl) (fun W _ => (by kernel_rfl)) ?_
         refine sxq_nil ?_
         refine preI_nil ?_
         intro W_52 hp
         refine treeI_rd rfl ?_
         refine sxq_val 109 (.bool false) (by rfl) (fun W hp => (bv c_39 (ld1 (t := 4) (p := (.tmp 108)) (by rfl) (by rfl) (by kernel_rfl) (hp.cell 1 (by rfl) 4 _ (by rfl))))) ?_
         refine sxq_nil ?_
         refine treeI_rd rfl ?_
         refine sxq_val 110 (.bool false) (by rfl) (fun W hp => (by kernel_rfl)) ?_
         refine sxq_nil ?_
         refine treeI_rd rfl ?_
         refine sxq_skip 111 (by rfl) (by rfl) (by rfl) ?_
         refine sxq_nil ?_
         refine treeI_rd rfl ?_
         refine sxq_skip 112 (by rfl) (by rfl) (by rfl) ?_
         refine sxq_nil ?_
         refine treeI_rd rfl ?_
         refine sxq_skip 113 (by rfl) (by rfl) (by rfl) ?_
         refine sxq_nil ?_
         refine treeI_rd rfl ?_
         refine sxq_val 114 (.bool false) (by rfl) (fun W hp => (by kernel_rfl)) ?_
         refine sxq_nil ?_
         refine treeI_rd rfl ?_
         refine sxq_val 115 (.bool false) (by rfl) (fun W hp => (by kernel_rfl)) ?_
         refine sxq_nil ?_
         refine treeI_rd rfl ?_
         refine sxq_skip 116 (by rfl) (by rfl) (by rfl) ?_
         refine sxq_nil ?_
         refine treeI_rd rfl ?_
         refine sxq_skip 117 (by rfl) (by rfl) (by rfl) ?_
         refine sxq_nil ?_
         refine treeI_rd rfl ?_
         refine sxq_skip 118 (by rfl) (by rfl) (by rfl) ?_
         refine sxq_nil ?_
         refine treeI_rd rfl ?_
         refine sxq_skip 119 (by rfl) (by rfl) (by rfl) ?_
         refine sxq_nil ?_
         refine treeI_rd rfl ?_
         refine sxq_skip 120 (by rfl) (by rfl) (by rfl) ?_
         refine sxq_nil ?_
         refine treeI_rd rfl ?_
         refine sxq_skip 121 (by rfl) (by rfl) (by rfl) ?_
         refine sxq_nil ?_
         refine treeI_rd rfl ?_
         refine sxq_skip 122 (by rfl) (by rfl) (by rfl) ?_
         refine sxq_nil ?_
         refine treeI_rd rfl ?_
         refine sxq_skip 123 (by rfl) (by rfl) (by rfl) ?_
         refine sxq_nil ?_
         refine treeI_rd rfl ?_
         refine sxq_val 124 (.bool false) (by rfl) (fun W hp => (by kernel_rfl)) ?_
         refine sxq_nil ?_
         refine treeI_fin ?_
         refine sx_nil ?_
         refine ex_then_n ?_
         refine sx_else false (by rfl) rfl ?_
         refine wp_skip ?_
         refine ex_then_n ?_
         exact ⟨_, s.l0, s.l1, false, fr_front [(0, .pointer (some ⟨g, 0, none⟩)), (3, .pointer (some ⟨g_1, 0, none⟩)), (5, .bool (p.f0.f0 == p.f0.f1)), (6, .bool false)] ⟨rfl, rfl, rfl, rfl, trivial⟩, (hp.take [0, 1, 2, 3] 4 (by decide) (by simp)), by revert c_3 c_6 c_13 c_14 c_32 c_38 c_39; simp +contextual [Bool.not_true, lyHit, -List.length_eq_zero_iff] <;> (intros; omega), by revert c_3 c_6 c_13 c_14 c_32 c_38 c_39; simp +contextual [Bool.not_true, lyHit, -List.length_eq_zero_iff] <;> (intros; omega), by revert c_3 c_6 c_13 c_14 c_32 c_38 c_39; simp +contextual [Bool.not_true, lyHit, -List.length_eq_zero_iff] <;> (intros; omega)⟩
       ·
        rintro _ W_53 ⟨r_, l0', l1', sd, rfl, hp, f1, f2, f3⟩
        refine sx_cut (fun a_ W => ∃ (r_ : List (Nat × Value)) (wt' : Int) (sd2 : Bool), a_ = fr 221 ([(0, .pointer (some ⟨g, 0, none⟩)), (3, .pointer (some ⟨g_1, 0, none⟩)), (5, .bool (p.f0.f0 == p.f0.f1)), (6, .bool sd2)] ++ r_) ∧ Hp w0 (blk g_1 #[.int .i64 p.f0.f0, .int .i64 p.f0.f1, .int .i64 p.f1] 36 :: blk g #[.slice A1 s.ar.length c1, .slice A2 s.ti.length c2, .int .i64 s.sp, .int .i64 wt', .bool s.fi, .bool l0', .bool l1'] 68 :: row k72 72 b (.slice A1 s.ar.length c1) s.ar F1 :: row k34 34 b (.slice A2 s.ti.length c2) s.ti F2 :: cs) W ∧ (wt' = if (s.wt == p.f1) then -1 else s.wt) ∧ (sd2 = (sd || (s.wt == p.f1)))) ?_ ?_
        ·
         refine wp_seq ?_
         refine sx_drawT [0, 1, 2, 4] (.rd 3 (.rd 5 (.rd 6 (.fin)))) 7 (C := Hp w0 (blk g_1 #[.int .i64 p.f0.f0, .int .i64 p.f0.f1, .int .i64 p.f1] 36 :: blk g #[.slice A1 s.ar.length c1, .slice A2 s.ti.length c2, .int .i64 s.sp, .int .i64 s.wt, .bool s.fi, .bool l0', .bool l1'] 68 :: row k72 72 b (.slice A1 s.ar.length c1) s.ar F1 :: row k34 34 b (.slice A2 s.ti.length c2) s.ti F2 :: cs)) (by kernel_rfl) (by kernel_rfl) (fun d _ _ _ _ h => by cases d <;> exact h) (fun W h => h.drew) hp ?_
         refine preI_read rfl ?_
         refine sxq_val 143 (.pointer (some ⟨g, 0, none⟩)) (by rfl) (fun W _ => (by kernel_rfl)) ?_
         refine sxq_nil ?_
         refine preI_read rfl ?_
         refine sxq_val 144 (.pointer (some ⟨g, 0, none⟩)) (by rfl) (fun W _ => (by kernel_rfl)) ?_
         refine sxq_nil ?_
         refine preI_read rfl ?_
         refine sxq_val 145 (.pointer (some ⟨g, 3, none⟩)) (by rfl) (fun W _ => (by kernel_rfl)) ?_
         refine sxq_nil ?_
         refine preI_read rfl ?_
         refine sxq_val 147 (.pointer (some ⟨g_1, 2, none⟩)) (by rfl) (fun W _ => (by kernel_rfl)) ?_
         refine sxq_nil ?_
         refine preI_nil ?_
         intro W_54 hp
         refine treeI_rd rfl ?_
         refine sxq_val 146 (.int .i64 s.wt) (by rfl) (fun W hp => (ld1 (t := 3) (p := (.tmp 145)) (by rfl) (by rfl) (by kernel_rfl) (hp.cell 1 (by rfl) 3 _ (by rfl)))) ?_
         refine sxq_nil ?_
         refine treeI_rd rfl ?_
         refine sxq_val 148 (.int .i64 p.f1) (by rfl) (fun W hp => (ld1 (t := 3) (p := (.tmp 147)) (by rfl) (by rfl) (by kernel_rfl) (hp.cell 0 (by rfl) 2 _ (by rfl)))) ?_
         refine sxq_nil ?_
         refine treeI_rd rfl ?_
         refine sxq_val 149 (.bool (s.wt == p.f1)) (by rfl) (fun W hp => (by kernel_rfl)) ?_
         refine sxq_nil ?_
         refine treeI_fin ?_
         refine sx_nil ?_
         refine ex_then_n ?_
         refine sx_cond (s.wt == p.f1) (by rfl) (fun c_55 => ?_) (fun c_55 => ?_)
         ·
          have c_55p := eq_of_beq_ c_55
          refine wp_seq ?_
          refine sx_region ?_
          refine sx_rd 150 (.pointer (some ⟨g, 0, none⟩)) (by rfl) (by kernel_rfl) ?_
          refine sx_rd 151 (.pointer (some ⟨g, 0, none⟩)) (by rfl) (by kernel_rfl) ?_
          refine sx_rd 152 (.pointer (some ⟨g, 3, none⟩)) (by rfl) (by kernel_rfl) ?_
          refine sx_store (t := 3) (p := (.tmp 152)) (x := (.const (Go.Value.int Go.IntKind.i64 (-1)))) (by rfl) (by rfl) 1 (by rfl) 3 [.int .i64 (-1)] (by rfl) (by rfl) (by kernel_rfl) (by simp [Value.oneCell']) (by show 4 ≤ 7; omega) #[.slice A1 s.ar.length c1, .slice A2 s.ti.length c2, .int .i64 s.sp, .int .i64 (-1), .bool s.fi, .bool l0', .bool l1'] (by rfl) hp ?_
          intro W_56 hp; simp only [List.set_cons_succ, List.set_cons_zero] at hp
          refine sx_nil ?_
          refine ex_then_n ?_
          refine sx_region ?_
          refine sx_rd 6 (.bool true) (by rfl) (by kernel_rfl) ?_
          refine sx_nil ?_
          refine ex_then_n ?_
          exact ⟨_, (-1), true, fr_front [(0, .pointer (some ⟨g, 0, none⟩)), (3, .pointer (some ⟨g_1, 0, none⟩)), (5, .bool (p.f0.f0 == p.f0.f1)), (6, .bool true)] ⟨rfl, rfl, rfl, rfl, trivial⟩, (hp.take [0, 1, 2, 3] 4 (by decide) (by simp)), by revert c_3 c_6 c_13 c_14 c_32 c_38 c_55; simp +contextual [Bool.not_true, -List.length_eq_zero_iff] <;> (intros; omega), by revert c_3 c_6 c_13 c_14 c_32 c_38 c_55; simp +contextual [Bool.not_true, -List.length_eq_zero_iff] <;> (intros; omega)⟩
         ·
          have c_55p := ne_of_beq_ c_55
          refine wp_skip ?_
          refine ex_then_n ?_
          exact ⟨_, s.wt, sd, fr_front [(0, .pointer (some ⟨g, 0, none⟩)), (3, .pointer (some ⟨g_1, 0, none⟩)), (5, .bool (p.f0.f0 == p.f0.f1)), (6, .bool sd)] ⟨rfl, rfl, rfl, rfl, trivial⟩, (hp.take [0, 1, 2, 3] 4 (by decide) (by simp)), by revert c_3 c_6 c_13 c_14 c_32 c_38 c_55; simp +contextual [Bool.not_true, -List.length_eq_zero_iff] <;> (intros; omega), by revert c_3 c_6 c_13 c_14 c_32 c_38 c_55; simp +contextual [Bool.not_true, -List.length_eq_zero_iff] <;> (intros; omega)⟩
        ·
         rintro _ W_57 ⟨r_, wt', sd2, rfl, hp, f4, f5⟩
         refine wp_seq ?_
         refine sx_drawT [0, 1, 2, 4, 6, 8, 9, 10, 12, 18] (.rd 3 (.rd 5 (.rd 7 (.rd 11 (.rd 13 (.rd 14 (.rd 15 (.rd 16 (.alt 17 (.rd 19 (.rd 20 (.fin))) .non))))))))) 21 (C := Hp w0 (blk g_1 #[.int .i64 p.f0.f0, .int .i64 p.f0.f1, .int .i64 p.f1] 36 :: blk g #[.slice A1 s.ar.length c1, .slice A2 s.ti.length c2, .int .i64 s.sp, .int .i64 wt', .bool s.fi, .bool l0', .bool l1'] 68 :: row k72 72 b (.slice A1 s.ar.length c1) s.ar F1 :: row k34 34 b (.slice A2 s.ti.length c2) s.ti F2 :: cs)) (by kernel_rfl) (by kernel_rfl) (fun d _ _ _ _ h => by cases d <;> exact h) (fun W h => h.drew) hp ?_
         refine preI_read rfl ?_
         refine sxq_val 153 (.pointer (some ⟨g, 0, none⟩)) (by rfl) (fun W _ => (by kernel_rfl)) ?_
         refine sxq_nil ?_
         refine preI_read rfl ?_
         refine sxq_val 154 (.pointer (some ⟨g, 0, none⟩)) (by rfl) (fun W _ => (by kernel_rfl)) ?_
         refine sxq_nil ?_
         refine preI_read rfl ?_
         refine sxq_val 155 (.pointer (some ⟨g, 0, none⟩)) (by rfl) (fun W _ => (by kernel_rfl)) ?_
         refine sxq_nil ?_
         refine preI_read rfl ?_
         refine sxq_val 157 (.pointer (some ⟨g_1, 2, none⟩)) (by rfl) (fun W _ => (by kernel_rfl)) ?_
         refine sxq_nil ?_
         refine preI_read rfl ?_
         refine sxq_val 159 (.pointer (some ⟨g_1, 0, none⟩)) (by rfl) (fun W _ => (by kernel_rfl)) ?_
         refine sxq_nil ?_
         refine preI_read rfl ?_
         refine sxq_val 161 (.pointer (some ⟨g, 0, none⟩)) (by rfl) (fun W _ => (by kernel_rfl)) ?_
         refine sxq_nil ?_
         refine preI_read rfl ?_
         refine sxq_val 162 (.pointer (some ⟨g, 0, none⟩)) (by rfl) (fun W _ => (by kernel_rfl)) ?_
         refine sxq_nil ?_
         refine preI_read rfl ?_
         refine sxq_val 163 (.pointer (some ⟨g, 0, none⟩)) (by rfl) (fun W _ => (by kernel_rfl)) ?_
         refine sxq_nil ?_
         refine preI_read rfl ?_
         refine sxq_val 165 (.pointer (some ⟨g_1, 2, none⟩)) (by rfl) (fun W _ => (by kernel_rfl)) ?_
         refine sxq_nil ?_
         refine preI_read rfl ?_
         refine sxq_val 171 (.bool (p.f0.f0 == p.f0.f1)) (by rfl) (fun W _ => (by kernel_rfl)) ?_
         refine sxq_nil ?_
         refine preI_nil ?_
         intro W_58 hp
         refine treeI_rd rfl ?_
         refine sxq_val 156 (.slice A1 s.ar.length c1) (by rfl) (fun W hp => (ld1 (t := 51) (p := (.tmp 155)) (by rfl) (by rfl) (by kernel_rfl) (hp.cell 1 (by rfl) 0 _ (by rfl)))) ?_
         refine sxq_nil ?_
         refine treeI_rd rfl ?_
         refine sxq_val 158 (.int .i64 p.f1) (by rfl) (fun W hp => (ld1 (t := 3) (p := (.tmp 157)) (by rfl) (by rfl) (by kernel_rfl) (hp.cell 0 (by rfl) 2 _ (by rfl)))) ?_
         refine sxq_nil ?_
         refine treeI_rd rfl ?_
         refine sxq_val 160 (.agg #[.int .i64 p.f0.f0, .int .i64 p.f0.f1]) (by rfl) (fun W hp => (ldn (t := 34) (p := (.tmp 159)) (by rfl) (by rfl) (by kernel_rfl) (by kernel_rfl) (by kernel_rfl) (hp.at_ 0 _ (by rfl)))) ?_
         refine sxq_nil ?_
         refine treeI_rd rfl ?_
         refine sxq_val 164 (.slice A1 s.ar.length c1) (by rfl) (fun W hp => (ld1 (t := 51) (p := (.tmp 163)) (by rfl) (by rfl) (by kernel_rfl) (hp.cell 1 (by rfl) 0 _ (by rfl)))) ?_
         refine sxq_nil ?_
         refine treeI_rd rfl ?_
         refine sxq_val 166 (.int .i64 p.f1) (by rfl) (fun W hp => (ld1 (t := 3) (p := (.tmp 165)) (by rfl) (by rfl) (by kernel_rfl) (hp.cell 0 (by rfl) 2 _ (by rfl)))) ?_
         refine sxq_nil ?_
         refine treeI_rd rfl ?_
         refine sxq_val 167 (.pointer (some (adr A1 p.f1 3))) (by rfl) (fun W hp => (ix_run (d := k72) (row_C (hp.at_ 2 _ (by rfl))) (t := 51) (by rfl) (by rfl) (by rfl) Tryd.underlying51 (by kernel_rfl) (by omega) (by omega))) ?_
         refine sxq_nil ?_
         refine treeI_rd rfl ?_
         refine sxq_val 168 (.pointer (some (adr A1 p.f1 3))) (by rfl) (fun W hp => (by kernel_rfl)) ?_
         refine sxq_nil ?_
         refine treeI_rd rfl ?_
         refine sxq_val 169 (.int .i64 ((rd_Arm s.ar p.f1).f0)) (by rfl) (fun W hp => (ld1 (t := 3) (p := (.tmp 168)) (by rfl) (by rfl) (by kernel_rfl) (el_cell (d := k72) (row_C (hp.at_ 2 _ (by rfl))) z72 p.f1 (by omega) (by omega) (cells := [.int .i64 ((rd_Arm s.ar p.f1).f0), .bool ((rd_Arm s.ar p.f1).f1), .bool ((rd_Arm s.ar p.f1).f2)]) (fun cs h => k72_open h) 0 _ (by rfl)))) ?_
         refine sxq_nil ?_
         refine treeI_ev rfl ?_
         refine sx_call 170 (by rfl) (by kernel_rfl) ((haOther_c p.f0 ((rd_Arm s.ar p.f1).f0) _).mono ?_)
         rintro _ W_59 ⟨rfl, hb⟩
         refine ⟨_, rfl, ?_⟩
         replace hp := hp.below hb
         clear hb
         refine step_fin hp ?_
         refine treeI_rd rfl ?_
         refine sxq_val 172 (.agg #[.int .i64 (othT p.f0 (rd_Arm s.ar p.f1).f0), .bool (p.f0.f0 == p.f0.f1), .bool false]) (by rfl) (fun W hp => (by kernel_rfl)) ?_
         refine sxq_nil ?_
         refine treeI_rd rfl ?_
         refine sxq_val 173 (.pointer (some (adr A1 p.f1 3))) (by rfl) (fun W hp => (ix_run (d := k72) (row_C (hp.at_ 2 _ (by rfl))) (t := 51) (by rfl) (by rfl) (by rfl) Tryd.underlying51 (by kernel_rfl) (by omega) (by omega))) ?_
         refine sxq_nil ?_
         refine treeI_fin ?_
         refine tail_of [21] (by rfl) ?_
         refine tailI_op rfl ?_
         obtain ⟨g_60, rfl⟩ := row_form (hp.at_ 2 _ (by rfl)) (by omega)
         refine sx_rowstore (t := 72) (p := (.tmp 173)) (x := (.tmp 172)) (by rfl) (by rfl) 2 k72 (by rfl) p.f1 (⟨(othT p.f0 (rd_Arm s.ar p.f1).f0), (p.f0.f0 == p.f0.f1), false⟩ : S_Arm) [.int .i64 (othT p.f0 (rd_Arm s.ar p.f1).f0), .bool (p.f0.f0 == p.f0.f1), .bool false] (by rfl) (by rfl) (by kernel_rfl) (by simp [Value.oneCell']) (by rfl) (by omega) (by omega) z72 (fun _ => (k72_mkM _ _ _ _)) hp ?_
         intro F_61 W_62 hp; simp only [List.set_cons_succ, List.set_cons_zero] at hp
         refine tailI_next ?_
         refine tailI_nil ?_
         refine ex_then_n ?_
         refine wp_seq ?_
         refine sx_drawT [0, 1, 2, 3, 5] (.rd 4 (.rd 6 (.alt 7 (.fin) .non))) 8 (C := Hp w0 (blk g_1 #[.int .i64 p.f0.f0, .int .i64 p.f0.f1, .int .i64 p.f1] 36 :: blk g #[.slice (some ⟨g_60, 0, none⟩) s.ar.length c1, .slice A2 s.ti.length c2, .int .i64 s.sp, .int .i64 wt', .bool s.fi, .bool l0', .bool l1'] 68 :: row k72 72 b (.slice (some ⟨g_60, 0, none⟩) s.ar.length c1) (s.ar.set (p.f1).toNat (⟨(othT p.f0 (rd_Arm s.ar p.f1).f0), (p.f0.f0 == p.f0.f1), false⟩ : S_Arm)) F_61 :: row k34 34 b (.slice A2 s.ti.length c2) s.ti F2 :: cs)) (by kernel_rfl) (by kernel_rfl) (fun d _ _ _ _ h => by cases d <;> exact h) (fun W h => h.drew) hp ?_
         refine preI_read rfl ?_
         refine sxq_val 174 (.pointer (some ⟨g, 0, none⟩)) (by rfl) (fun W _ => (by kernel_rfl)) ?_
         refine sxq_nil ?_
         refine preI_read rfl ?_
         refine sxq_val 175 (.pointer (some ⟨g, 0, none⟩)) (by rfl) (fun W _ => (by kernel_rfl)) ?_
         refine sxq_nil ?_
         refine preI_read rfl ?_
         refine sxq_val 176 (.pointer (some ⟨g, 0, none⟩)) (by rfl) (fun W _ => (by kernel_rfl)) ?_
         refine sxq_nil ?_
         refine preI_read rfl ?_
         refine sxq_val 177 (.pointer (some ⟨g, 1, none⟩)) (by rfl) (fun W _ => (by kernel_rfl)) ?_
         refine sxq_nil ?_
         refine preI_read rfl ?_
         refine sxq_val 179 (.pointer (some ⟨g_1, 0, none⟩)) (by rfl) (fun W _ => (by kernel_rfl)) ?_
         refine sxq_nil ?_
         refine preI_nil ?_
         intro W_63 hp
         refine treeI_rd rfl ?_
         refine sxq_val 178 (.slice A2 s.ti.length c2) (by rfl) (fun W hp => (ld1 (t := 52) (p := (.tmp 177)) (by rfl) (by rfl) (by kernel_rfl) (hp.cell 1 (by rfl) 1 _ (by rfl)))) ?_
         refine sxq_nil ?_
         refine treeI_rd rfl ?_
         refine sxq_val 180 (.agg #[.int .i64 p.f0.f0, .int .i64 p.f0.f1]) (by rfl) (fun W hp => (ldn (t := 34) (p := (.tmp 179)) (by rfl) (by rfl) (by kernel_rfl) (by kernel_rfl) (by kernel_rfl) (hp.at_ 0 _ (by rfl)))) ?_
         refine sxq_nil ?_
         refine treeI_ev rfl ?_
         refine sx_lit 181 (by rfl) k34 b 34 ([p.f0]) [.int .i64 p.f0.f0, .int .i64 p.f0.f1] (fun W => by kernel_rfl) (tile_reps _ _ _) (by simp) (Nat.le_trans hb0 hp.size) hp ?_
         intro g_64 F_65 W_66 hp hz; clear hz
         refine step_fin hp.tail ?_
         refine treeI_fin ?_
         refine tail_of [8, 9, 10, 11] (by rfl) ?_
         refine tailI_op rfl ?_
         refine sx_append 182 (by rfl) k34 4 (by rfl) (.agg #[.int .i64 0, .int .i64 0]) 16 (by rfl) Tryd.underlying52 (by kernel_rfl) rfl (by decide) (by decide) ([p.f0]) (by rfl) (by rfl) (row_C (hp.at_ 0 _ (by rfl))) tile_kp (Nat.le_trans hb0 hp.size) (by simp; omega) hp ?_
         intro A_67 c_68 F_69 W_70 hp hz; clear hz; simp only [List.set_cons_succ, List.set_cons_zero] at hp
         refine tailI_next ?_
         refine tailI_op rfl ?_
         refine sx_rd 183 (.pointer (some ⟨g, 0, none⟩)) (by rfl) (by kernel_rfl) ?_
         refine tailI_next ?_
         refine tailI_op rfl ?_
         refine sx_rd 184 (.pointer (some ⟨g, 1, none⟩)) (by rfl) (by kernel_rfl) ?_
         refine tailI_next ?_
         refine tailI_op rfl ?_
         refine sx_store (t := 52) (p := (.tmp 184)) (x := (.tmp 182)) (by rfl) (by rfl) 2 (by rfl) 1 [.slice A_67 ((s.ti ++ [p.f0]).length) c_68] (by rfl) (by rfl) (by kernel_rfl) (by simp [Value.oneCell']) (by show 2 ≤ 7; omega) #[.slice (some ⟨g_60, 0, none⟩) s.ar.length c1, .slice A_67 ((s.ti ++ [p.f0]).length) c_68, .int .i64 s.sp, .int .i64 wt', .bool s.fi, .bool l0', .bool l1'] (by rfl) hp ?_
         intro W_71 hp; simp only [List.set_cons_succ, List.set_cons_zero] at hp
         refine tailI_next ?_
         refine tailI_nil ?_
         refine ex_then_n ?_
         refine sx_cut (fun a_ W => ∃ (r_ : List (Nat × Value)) (ar' : List S_Arm) (A' : Option Addr) (n' c' : Nat) (F' : Nat → Prop), a_ = fr 221 ([(0, .pointer (some ⟨g, 0, none⟩)), (3, .pointer (some ⟨g_1, 0, none⟩)), (5, .bool (p.f0.f0 == p.f0.f1))] ++ r_) ∧ Hp w0 (blk g_1 #[.int .i64 p.f0.f0, .int .i64 p.f0.f1, .int .i64 p.f1] 36 :: blk g #[.slice A' n' c', .slice A_67 ((s.ti ++ [p.f0]).length) c_68, .int .i64 s.sp, .int .i64 wt', .bool s.fi, .bool l0', .bool l1'] 68 :: row k72 72 b (.slice A' n' c') ar' F' :: row k34 34 b (.slice A_67 ((s.ti ++ [p.f0]).length) c_68) (s.ti ++ [p.f0]) F_69 :: cs) W ∧ (ar' = if sd2 = true then (s.ar.set (p.f1).toNat (⟨(othT p.f0 (rd_Arm s.ar p.f1).f0), (p.f0.f0 == p.f0.f1), false⟩ : S_Arm)) ++ [(⟨s.sp, false, true⟩ : S_Arm), ⟨s.sp, false, true⟩] else (s.ar.set (p.f1).toNat (⟨(othT p.f0 (rd_Arm s.ar p.f1).f0), (p.f0.f0 == p.f0.f1), false⟩ : S_Arm))) ∧ (n' = ar'.length)) ?_ ?_
         ·
          refine wp_seq ?_
          refine sx_region ?_
          refine sx_rd 185 (.bool sd2) (by rfl) (by kernel_rfl) ?_
          refine sx_nil ?_
          refine ex_then_n ?_
          refine sx_cond sd2 (by rfl) (fun c_72 => ?_) (fun c_72 => ?_)
          ·
           refine wp_seq ?_
           refine sx_region ?_
           refine sx_rd 186 (.pointer (some ⟨g, 0, none⟩)) (by rfl) (by kernel_rfl) ?_
           refine sx_rd 187 (.pointer (some ⟨g, 0, none⟩)) (by rfl) (by kernel_rfl) ?_
           refine sx_rd 188 (.pointer (some ⟨g, 2, none⟩)) (by rfl) (by kernel_rfl) ?_
           refine sx_rd 189 (.int .i64 s.sp) (by rfl) (ld1 (t := 3) (p := (.tmp 188)) (by rfl) (by rfl) (by kernel_rfl) (hp.cell 2 (by rfl) 2 _ (by rfl))) ?_
           refine sx_rd 190 (.agg #[.int .i64 s.sp, .bool false, .bool true]) (by rfl) (by kernel_rfl) ?_
           refine sx_box 7 hp #[.int .i64 0, .bool false, .bool false] 72 (by rfl) (fun W => by kernel_rfl) ?_
           intro g_73 W_74 hp
           refine sx_store (t := 72) (p := (.tmp 7)) (x := (.tmp 190)) (by rfl) (by rfl) 0 (by rfl) 0 [.int .i64 s.sp, .bool false, .bool true] (by rfl) (by rfl) (by kernel_rfl) (by simp [Value.oneCell']) (by show 3 ≤ 3; omega) #[.int .i64 s.sp, .bool false, .bool true] (by rfl) hp ?_
           intro W_75 hp; simp only [List.set_cons_succ, List.set_cons_zero] at hp
           refine sx_nil ?_
           refine ex_then_n ?_
           refine sx_drawT [0, 1, 2, 3] (.rd 4 (.rd 5 (.rd 6 (.alt 7 (.fin) .non)))) 8 (C := Hp w0 (blk g_73 #[.int .i64 s.sp, .bool false, .bool true] 72 :: row k34 34 b (.slice (some ⟨g_64, 0, none⟩) ([p.f0].length) ([p.f0].length)) ([p.f0]) F_65 :: blk g_1 #[.int .i64 p.f0.f0, .int .i64 p.f0.f1, .int .i64 p.f1] 36 :: blk g #[.slice (some ⟨g_60, 0, none⟩) s.ar.length c1, .slice A_67 ((s.ti ++ [p.f0]).length) c_68, .int .i64 s.sp, .int .i64 wt', .bool s.fi, .bool l0', .bool l1'] 68 :: row k72 72 b (.slice (some ⟨g_60, 0, none⟩) s.ar.length c1) (s.ar.set (p.f1).toNat (⟨(othT p.f0 (rd_Arm s.ar p.f1).f0), (p.f0.f0 == p.f0.f1), false⟩ : S_Arm)) F_61 :: row k34 34 b (.slice A_67 ((s.ti ++ [p.f0]).length) c_68) (s.ti ++ [p.f0]) F_69 :: cs)) (by kernel_rfl) (by kernel_rfl) (fun d _ _ _ _ h => by cases d <;> exact h) (fun W h => h.drew) hp ?_
           refine preI_read rfl ?_
           refine sxq_val 191 (.pointer (some ⟨g, 0, none⟩)) (by rfl) (fun W _ => (by kernel_rfl)) ?_
           refine sxq_nil ?_
           refine preI_read rfl ?_
           refine sxq_val 192 (.pointer (some ⟨g, 0, none⟩)) (by rfl) (fun W _ => (by kernel_rfl)) ?_
           refine sxq_nil ?_
           refine preI_read rfl ?_
           refine sxq_val 193 (.pointer (some ⟨g, 0, none⟩)) (by rfl) (fun W _ => (by kernel_rfl)) ?_
           refine sxq_nil ?_
           refine preI_read rfl ?_
           refine sxq_val 194 (.pointer (some ⟨g, 0, none⟩)) (by rfl) (fun W _ => (by kernel_rfl)) ?_
           refine sxq_nil ?_
           refine preI_nil ?_
           intro W_76 hp
           refine treeI_rd rfl ?_
           refine sxq_val 195 (.slice (some ⟨g_60, 0, none⟩) s.ar.length c1) (by rfl) (fun W hp => (ld1 (t := 51) (p := (.tmp 194)) (by rfl) (by rfl) (by kernel_rfl) (hp.cell 3 (by rfl) 0 _ (by rfl)))) ?_
           refine sxq_nil ?_
           refine treeI_rd rfl ?_
           refine sxq_val 196 (.agg #[.int .i64 s.sp, .bool false, .bool true]) (by rfl) (fun W hp => (ldn (t := 72) (p := (.tmp 7)) (by rfl) (by rfl) (by kernel_rfl) (by kernel_rfl) (by kernel_rfl) (hp.at_ 0 _ (by rfl)))) ?_
           refine sxq_nil ?_
           refine treeI_rd rfl ?_
           refine sxq_val 197 (.agg #[.int .i64 s.sp, .bool false, .bool true]) (by rfl) (fun W hp => (ldn (t := 72) (p := (.tmp 7)) (by rfl) (by rfl) (by kernel_rfl) (by kernel_rfl) (by kernel_rfl) (hp.at_ 0 _ (by rfl)))) ?_
           refine sxq_nil ?_
           refine treeI_ev rfl ?_
           refine sx_lit 198 (by rfl) k72 b 72 ([(⟨s.sp, false, true⟩ : S_Arm), (⟨s.sp, false, true⟩ : S_Arm)]) [.int .i64 s.sp, .bool false, .bool true, .int .i64 s.sp, .bool false, .bool true] (fun W => by kernel_rfl) (arm_reps _ _ _) (by simp) (Nat.le_trans hb0 hp.size) hp ?_
           intro g_77 F_78 W_79 hp hz; clear hz
           refine step_fin hp.tail ?_
           refine treeI_fin ?_
           refine tail_of [8, 9, 10, 11] (by rfl) ?_
           refine tailI_op rfl ?_
           refine sx_append 199 (by rfl) k72 5 (by rfl) (.agg #[.int .i64 0, .bool false, .bool false]) 16 (by rfl) Tryd.underlying51 (by kernel_rfl) rfl (by decide) (by decide) ([(⟨s.sp, false, true⟩ : S_Arm), (⟨s.sp, false, true⟩ : S_Arm)]) (by rfl) (by rfl) (row_C (hp.at_ 0 _ (by rfl))) arm_kp (Nat.le_trans hb0 hp.size) (by simp; omega) hp ?_
           intro A_80 c_81 F_82 W_83 hp hz; clear hz; simp only [List.set_cons_succ, List.set_cons_zero] at hp
           refine tailI_next ?_
           refine tailI_op rfl ?_
           refine sx_rd 200 (.pointer (some ⟨g, 0, none⟩)) (by rfl) (by kernel_rfl) ?_
           refine tailI_next ?_
           refine tailI_op rfl ?_
           refine sx_rd 201 (.pointer (some ⟨g, 0, none⟩)) (by rfl) (by kernel_rfl) ?_
           refine tailI_next ?_
           refine tailI_op rfl ?_
           refine sx_store (t := 51) (p := (.tmp 201)) (x := (.tmp 199)) (by rfl) (by rfl) 4 (by rfl) 0 [.slice A_80 (((s.ar.set (p.f1).toNat (⟨(othT p.f0 (rd_Arm s.ar p.f1).f0), (p.f0.f0 == p.f0.f1), false⟩ : S_Arm)) ++ [(⟨s.sp, false, true⟩ : S_Arm), (⟨s.sp, false, true⟩ : S_Arm)]).length) c_81] (by rfl) (by rfl) (by kernel_rfl) (by simp [Value.oneCell']) (by show 1 ≤ 7; omega) #[.slice A_80 (((s.ar.set (p.f1).toNat (⟨(othT p.f0 (rd_Arm s.ar p.f1).f0), (p.f0.f0 == p.f0.f1), false⟩ : S_Arm)) ++ [(⟨s.sp, false, true⟩ : S_Arm), (⟨s.sp, false, true⟩ : S_Arm)]).length) c_81, .slice A_67 ((s.ti ++ [p.f0]).length) c_68, .int .i64 s.sp, .int .i64 wt', .bool s.fi, .bool l0', .bool l1'] (by rfl) hp ?_
           intro W_84 hp; simp only [List.set_cons_succ, List.set_cons_zero] at hp
           refine tailI_next ?_
           refine tailI_nil ?_
           refine ex_then_n ?_
           exact ⟨_, ((s.ar.set (p.f1).toNat (⟨(othT p.f0 (rd_Arm s.ar p.f1).f0), (p.f0.f0 == p.f0.f1), false⟩ : S_Arm)) ++ [(⟨s.sp, false, true⟩ : S_Arm), (⟨s.sp, false, true⟩ : S_Arm)]), _, _, _, _, fr_front [(0, .pointer (some ⟨g, 0, none⟩)), (3, .pointer (some ⟨g_1, 0, none⟩)), (5, .bool (p.f0.f0 == p.f0.f1))] ⟨rfl, rfl, rfl, trivial⟩, (hp.take [3, 4, 5, 6] 7 (by decide) (by simp)), by revert c_3 c_6 c_13 c_14 c_32 c_38 c_72; simp +contextual [Bool.not_true, -List.length_eq_zero_iff] <;> (intros; omega), by simp⟩
          ·
           refine wp_skip ?_
           refine ex_then_n ?_
           exact ⟨_, (s.ar.set (p.f1).toNat (⟨(othT p.f0 (rd_Arm s.ar p.f1).f0), (p.f0.f0 == p.f0.f1), false⟩ : S_Arm)), _, _, _, _, fr_front [(0, .pointer (some ⟨g, 0, none⟩)), (3, .pointer (some ⟨g_1, 0, none⟩)), (5, .bool (p.f0.f0 == p.f0.f1))] ⟨rfl, rfl, rfl, trivial⟩, (hp.take [1, 2, 3, 4] 5 (by decide) (by simp)), by revert c_3 c_6 c_13 c_14 c_32 c_38 c_72; simp +contextual [Bool.not_true, -List.length_eq_zero_iff] <;> (intros; omega), by simp⟩
         ·
          rintro _ W_85 ⟨r_, ar', A', n', c', F', rfl, hp, f6, hn⟩
          subst hn
          refine wp_seq ?_
          refine wp_seq ?_
          rcases Bool.eq_false_or_eq_true (p.f0.f0 == p.f0.f1) with c_86 | c_86
          ·
           have c_86p := eq_of_beq_ c_86
           refine sx_region ?_
           refine sx_rd 202 (.bool true) (by rfl) (bv c_86 (by kernel_rfl)) ?_
           refine sx_rd 203 (.bool true) (by rfl) (by kernel_rfl) ?_
           refine sx_want (by rfl) ?_
           refine sx_rd 204 (.pointer (some ⟨g, 0, none⟩)) (by rfl) (by kernel_rfl) ?_
           refine sx_want (by rfl) ?_
           refine sx_rd 205 (.pointer (some ⟨g, 0, none⟩)) (by rfl) (by kernel_rfl) ?_
           refine sx_want (by rfl) ?_
           refine sx_rd 206 (.pointer (some ⟨g, 2, none⟩)) (by rfl) (by kernel_rfl) ?_
           refine sx_want (by rfl) ?_
           refine sx_rd 207 (.int .i64 s.sp) (by rfl) (ld1 (t := 3) (p := (.tmp 206)) (by rfl) (by rfl) (by kernel_rfl) (hp.cell 1 (by rfl) 2 _ (by rfl))) ?_
           refine sx_want (by rfl) ?_
           refine sx_rd 208 (.bool (decide (s.sp < 0))) (by rfl) (by kernel_rfl) ?_
           refine sx_rd 209 (.bool (decide (s.sp < 0))) (by rfl) (by kernel_rfl) ?_
           refine sx_nil ?_
           refine ex_then_n ?_
           refine sx_cond (decide (s.sp < 0)) (by rfl) (fun c_87 => ?_) (fun c_87 => ?_)
           ·
            have c_87p := of_decide_eq_true c_87
            refine wp_seq ?_
            refine sx_region ?_
            refine sx_rd 210 (.pointer (some ⟨g, 0, none⟩)) (by rfl) (by kernel_rfl) ?_
            refine sx_rd 211 (.pointer (some ⟨g_1, 0, none⟩)) (by rfl) (by kernel_rfl) ?_
            refine sx_rd 212 (.pointer (some ⟨g_1, 0, none⟩)) (by rfl) (by kernel_rfl) ?_
            refine sx_rd 213 (.int .i64 p.f0.f0) (by rfl) (ld1 (t := 3) (p := (.tmp 212)) (by rfl) (by rfl) (by kernel_rfl) (hp.cell 0 (by rfl) 0 _ (by rfl))) ?_
            refine sx_rd 214 (.pointer (some ⟨g, 0, none⟩)) (by rfl) (by kernel_rfl) ?_
            refine sx_rd 215 (.pointer (some ⟨g, 2, none⟩)) (by rfl) (by kernel_rfl) ?_
            refine sx_store (t := 3) (p := (.tmp 215)) (x := (.tmp 213)) (by rfl) (by rfl) 1 (by rfl) 2 [.int .i64 p.f0.f0] (by rfl) (by rfl) (by kernel_rfl) (by simp [Value.oneCell']) (by show 3 ≤ 7; omega) #[.slice A' ar'.length c', .slice A_67 ((s.ti ++ [p.f0]).length) c_68, .int .i64 p.f0.f0, .int .i64 wt', .bool s.fi, .bool l0', .bool l1'] (by rfl) hp ?_
            intro W_88 hp; simp only [List.set_cons_succ, List.set_cons_zero] at hp
            refine sx_nil ?_
            refine ex_then_n ?_
            refine sx_region ?_
            refine sx_rd 216 (.pointer (some ⟨g, 0, none⟩)) (by rfl) (by kernel_rfl) ?_
            refine sx_rd 217 (.pointer (some ⟨g_1, 2, none⟩)) (by rfl) (by kernel_rfl) ?_
            refine sx_rd 218 (.int .i64 p.f1) (by rfl) (ld1 (t := 3) (p := (.tmp 217)) (by rfl) (by rfl) (by kernel_rfl) (hp.cell 0 (by rfl) 2 _ (by rfl))) ?_
            refine sx_rd 219 (.pointer (some ⟨g, 0, none⟩)) (by rfl) (by kernel_rfl) ?_
            refine sx_rd 220 (.pointer (some ⟨g, 3, none⟩)) (by rfl) (by kernel_rfl) ?_
            refine sx_store (t := 3) (p := (.tmp 220)) (x := (.tmp 218)) (by rfl) (by rfl) 1 (by rfl) 3 [.int .i64 p.f1] (by rfl) (by rfl) (by kernel_rfl) (by simp [Value.oneCell']) (by show 4 ≤ 7; omega) #[.slice A' ar'.length c', .slice A_67 ((s.ti ++ [p.f0]).length) c_68, .int .i64 p.f0.f0, .int .i64 p.f1, .bool s.fi, .bool l0', .bool l1'] (by rfl) hp ?_
            intro W_89 hp; simp only [List.set_cons_succ, List.set_cons_zero] at hp
            refine sx_nil ?_
            refine ex_then_n ?_
            refine wp_seq ?_
            refine sx_region ?_
            refine sx_rd 4 (.bool true) (by rfl) (by kernel_rfl) ?_
            refine sx_nil ?_
            refine ex_then_n ?_
            refine wp_ret ?_
            refine sx_end (.bool true) (res1 4 (by rfl)) ?_
            have hc : lyCan s p = true := by revert c_3 c_6 c_13 c_14 c_32 c_38 c_86 c_87; simp +contextual [Bool.not_true, lyCan, -List.length_eq_zero_iff] <;> (intros; omega)
            have hd : lyDo s p = (⟨ar', (s.ti ++ [p.f0]), p.f0.f0, p.f1, s.fi, l0', l1'⟩ : LySt) := by revert f1 f2 f3 f4 f5 f6 c_3 c_6 c_13 c_14 c_32 c_38 c_86 c_87; simp +contextual [Bool.not_true, lyDo, -List.length_eq_zero_iff] <;> (intros; omega)
            exact ⟨(⟨ar', (s.ti ++ [p.f0]), p.f0.f0, p.f1, s.fi, l0', l1'⟩ : LySt), _, _, _, _, _, _, by rw [hc], by rw [hc]; exact hd.symm, (hp.take [1, 2, 3] 4 (by decide) (by simp))⟩
           ·
            have c_87p := of_decide_eq_false c_87
            refine wp_skip ?_
            refine ex_then_n ?_
            refine wp_seq ?_
            refine sx_region ?_
            refine sx_rd 4 (.bool true) (by rfl) (by kernel_rfl) ?_
            refine sx_nil ?_
            refine ex_then_n ?_
            refine wp_ret ?_
            refine sx_end (.bool true) (res1 4 (by rfl)) ?_
            have hc : lyCan s p = true := by revert c_3 c_6 c_13 c_14 c_32 c_38 c_86 c_87; simp +contextual [Bool.not_true, lyCan, -List.length_eq_zero_iff] <;> (intros; omega)
            have hd : lyDo s p = (⟨ar', (s.ti ++ [p.f0]), s.sp, wt', s.fi, l0', l1'⟩ : LySt) := by revert f1 f2 f3 f4 f5 f6 c_3 c_6 c_13 c_14 c_32 c_38 c_86 c_87; simp +contextual [Bool.not_true, lyDo, -List.length_eq_zero_iff] <;> (intros; omega)
            exact ⟨(⟨ar', (s.ti ++ [p.f0]), s.sp, wt', s.fi, l0', l1'⟩ : LySt), _, _, _, _, _, _, by rw [hc], by rw [hc]; exact hd.symm, (hp.take [1, 2, 3] 4 (by decide) (by simp))⟩
          ·
           have c_86p := ne_of_beq_ c_86
           refine sx_region ?_
           refine sx_rd 202 (.bool false) (by rfl) (bv c_86 (by kernel_rfl)) ?_
           refine sx_rd 203 (.bool false) (by rfl) (by kernel_rfl) ?_
           refine sx_skip 204 (by rfl) (by rfl) (by rfl) ?_
           refine sx_skip 205 (by rfl) (by rfl) (by rfl) ?_
           refine sx_skip 206 (by rfl) (by rfl) (by rfl) ?_
           refine sx_skip 207 (by rfl) (by rfl) (by rfl) ?_
           refine sx_skip 208 (by rfl) (by rfl) (by rfl) ?_
           refine sx_rd 209 (.bool false) (by rfl) (by kernel_rfl) ?_
           refine sx_nil ?_
           refine ex_then_n ?_
           refine sx_else false (by rfl) rfl ?_
           refine wp_skip ?_
           refine ex_then_n ?_
           refine wp_seq ?_
           refine sx_region ?_
           refine sx_rd 4 (.bool true) (by rfl) (by kernel_rfl) ?_
           refine sx_nil ?_
           refine ex_then_n ?_
           refine wp_ret ?_
           refine sx_end (.bool true) (res1 4 (by rfl)) ?_
           have hc : lyCan s p = true := by revert c_3 c_6 c_13 c_14 c_32 c_38 c_86; simp +contextual [Bool.not_true, lyCan, -List.length_eq_zero_iff] <;> (intros; omega)
           have hd : lyDo s p = (⟨ar', (s.ti ++ [p.f0]), s.sp, wt', s.fi, l0', l1'⟩ : LySt) := by revert f1 f2 f3 f4 f5 f6 c_3 c_6 c_13 c_14 c_32 c_38 c_86; simp +contextual [Bool.not_true, lyDo, -List.length_eq_zero_iff] <;> (intros; omega)
           exact ⟨(⟨ar', (s.ti ++ [p.f0]), s.sp, wt', s.fi, l0', l1'⟩ : LySt), _, _, _, _, _, _, by rw [hc], by rw [hc]; exact hd.symm, (hp.take [1, 2, 3] 4 (by decide) (by simp))⟩
end Go.Proofs.YtddgfphbbkjmpaaDoor.Hd
