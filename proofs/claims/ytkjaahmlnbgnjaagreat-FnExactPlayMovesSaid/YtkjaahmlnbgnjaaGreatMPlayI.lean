/- impl.PlayMoves, by hand. -/
import Derived.Test.YtkjaahmlnbgnjaaGreatPPlayA
import Derived.Test.YtkjaahmlnbgnjaaGreatPPlOwn
import Derived.Test.YtkjaahmlnbgnjaaGreatMSx5
namespace Go.Proofs.YtkjaahmlnbgnjaaGreat.Hd
open Go.RowKit Go.Proofs.YtkjaahmlnbgnjaaGreat.Pure Go.Proofs.YtkjaahmlnbgnjaaGreatW.PrintWords Go.Proofs.YtkjaahmlnbgnjaaGreatW.PrintLast Go.Proofs.YtkjaahmlnbgnjaaGreatW.PrintMore
set_option linter.unusedVariables false
set_option linter.unusedSimpArgs false
def impl_PlayMoves.f (f s : List S_Tile) (r : List Int) (t p : Int) (l : List ByteArray) : Option (List S_Tile × List S_Tile × List Int × Int × Int × Bool) := if f.length ≤ 1048576 ∧ s.length ≤ 1048576 ∧ r.length ≤ 1048576 then some (resPlayMoves f s r t p l) else none
set_option maxRecDepth 100000 in
set_option maxHeartbeats 40000000 in
theorem impl_PlayMoves.calls (A0_0 : Option Addr) (c0_0 : Nat) (l0_0 : List S_Tile) (A0_1 : Option Addr) (c0_1 : Nat) (l0_1 : List S_Tile) (A0_2 : Option Addr) (c0_2 : Nat) (l0_2 : List Int) (a0_3 : Int) (a0_4 : Int) (A1 : Option Addr) (c1 : Nat) (l1 : List ByteArray) (r0 : List S_Tile) (r1 : List S_Tile) (r2 : List Int) (r3 : Int) (r4 : Int) (r5 : Bool) (w : World) (hr0_0 : Kd.C k59 w A0_0 l0_0.length l0_0) (hc0_0 : l0_0.length ≤ c0_0) (hr0_1 : Kd.C k59 w A0_1 l0_1.length l0_1) (hc0_1 : l0_1.length ≤ c0_1) (hr0_2 : Kd.C (Kd.int .i64) w A0_2 l0_2.length l0_2) (hc0_2 : l0_2.length ≤ c0_2) (hr1 : Kd.C Kd.string w A1 l1.length l1) (hc1 : l1.length ≤ c1) (h : impl_PlayMoves.f l0_0 l0_1 l0_2 a0_3 a0_4 l1 = some (r0, r1, r2, r3, r4, r5)) :
  Calls Tryz.prog 21 #[.agg #[.slice A0_0 l0_0.length c0_0, .slice A0_1 l0_1.length c0_1, .slice A0_2 l0_2.length c0_2, .int .i64 a0_3, .int .i64 a0_4], .slice A1 l1.length c1] w fun e w' => ∃ v0_ v1_ v2_ : Value, e = .returned (.tuple #[.agg #[v0_, v1_, v2_, .int .i64 r3, .int .i64 r4], .bool r5]) ∧ Kd.R k59 59 w' w.heap.size (fun k_ => some k_ ≠ (v1_ : Value).ownBlock) v0_ r0 ∧ Kd.R k59 59 w' w.heap.size (fun k_ => some k_ ≠ (v0_ : Value).ownBlock) v1_ r1 ∧ Kd.R (Kd.int .i64) 3 w' w.heap.size (fun _ => True) v2_ r2 ∧ Below w.heap.size w w' := by
 unfold impl_PlayMoves.f resPlayMoves at h
 by_cases hsz : l0_0.length ≤ 1048576 ∧ l0_1.length ≤ 1048576 ∧ l0_2.length ≤ 1048576
 case neg => rw [if_neg hsz] at h; cases h
 rw [if_pos hsz] at h
 obtain ⟨hy0, hy1, hy2⟩ := hsz
 obtain ⟨cs, hcs⟩ : ∃ cs, cs = [old w w.heap.size] := ⟨_, rfl⟩
 have hp : Hp w cs w := by rw [hcs]; exact Hp.old_start w
 have hc2 : ∀ W, Hp w cs W → Below w.heap.size w W := fun W h => by rw [hcs] at h; exact h.since 0 _ rfl
 have hC0_0 : ∀ W, Hp w cs W → Kd.C k59 W A0_0 l0_0.length l0_0 := fun W h => Kd.C_below hr0_0 (hc2 W h)
 have hC0_1 : ∀ W, Hp w cs W → Kd.C k59 W A0_1 l0_1.length l0_1 := fun W h => Kd.C_below hr0_1 (hc2 W h)
 have hC0_2 : ∀ W, Hp w cs W → Kd.C (Kd.int .i64) W A0_2 l0_2.length l0_2 := fun W h => Kd.C_below hr0_2 (hc2 W h)
 have hC1 : ∀ W, Hp w cs W → Kd.C Kd.string W A1 l1.length l1 := fun W h => Kd.C_below hr1 (hc2 W h)
 clear hcs
 refine sx_enter (N := 49) (l := [.agg #[.slice A0_0 l0_0.length c0_0, .slice A0_1 l0_1.length c0_1, .slice A0_2 l0_2.length c0_2, .int .i64 a0_3, .int .i64 a0_4], .slice A1 l1.length c1]) Tryz.func21 rfl rfl rfl ?_
 refine wp_seq ?_
 refine sx_region ?_
 refine sx_box 2 hp #[.slice A0_0 l0_0.length c0_0, .slice A0_1 l0_1.length c0_1, .slice A0_2 l0_2.length c0_2, .int .i64 a0_3, .int .i64 a0_4] 29 (by rfl) (fun W => by kernel_rfl) ?_
 intro g_1 W_2 hp
 refine sx_box 4 hp #[.slice none 0 0, .slice none 0 0, .slice none 0 0, .int .i64 0, .int .i64 0] 29 (by rfl) (fun W => by kernel_rfl) ?_
 intro g_3 W_4 hp
 refine sx_rd 5 (.bool false) (by rfl) (by kernel_rfl) ?_
 refine sx_nil ?_
 refine ex_then_n ?_
 refine wp_seq ?_
 refine wp_seq ?_
 rcases Bool.eq_false_or_eq_true (!(gameB l0_0 l0_1 l0_2 a0_3 a0_4)) with c_5 | c_5
 ·
  refine sx_region ?_
  refine sx_rd 9 (.agg #[.slice A0_0 l0_0.length c0_0, .slice A0_1 l0_1.length c0_1, .slice A0_2 l0_2.length c0_2, .int .i64 a0_3, .int .i64 a0_4]) (by rfl) (ldn (t := 29) (p := (.tmp 2)) (by rfl) (by rfl) (by kernel_rfl) (by kernel_rfl) (by kernel_rfl) (hp.at_ 1 _ (by rfl))) ?_
  obtain ⟨k_6, hk_k_6⟩ := Ev.rounds (isGame_ev l0_0 l0_1 l0_2 a0_3 a0_4 (by omega) (by omega) (by omega))
  refine sx_call 10 (by rfl) (by kernel_rfl) ((impl_IsGame.calls k_6 _ A0_0 c0_0 l0_0 _ A0_1 c0_1 l0_1 A0_2 c0_2 l0_2 a0_3 a0_4 _ _ (Kd.V_mk hc0_0 (Kd.C_F k59_heap (hC0_0 _ hp.tail.tail))) (Kd.V_mk hc0_1 (Kd.C_F k59_heap (hC0_1 _ hp.tail.tail))) (hC0_2 _ hp.tail.tail) hc0_2 hk_k_6).mono ?_)
  rintro _ W_7 ⟨rfl, hb⟩
  refine ⟨.bool false, congrArg (fun b => Ending.returned (.bool b)) (not_eq c_5), ?_⟩
  replace hp := hp.below hb
  clear hb
  refine sx_rd 11 (.bool true) (by rfl) (by kernel_rfl) ?_
  refine sx_rd 12 (.bool true) (by rfl) (by kernel_rfl) ?_
  refine sx_skip 13 (by rfl) (by rfl) (by rfl) ?_
  refine sx_skip 14 (by rfl) (by rfl) (by rfl) ?_
  refine sx_skip 15 (by rfl) (by rfl) (by rfl) ?_
  refine sx_rd 16 (.bool true) (by rfl) (by kernel_rfl) ?_
  refine sx_nil ?_
  refine ex_then_n ?_
  refine sx_then true (by rfl) rfl ?_
  refine wp_seq ?_
  refine sx_region ?_
  refine sx_rd 17 (.agg #[.slice none 0 0, .slice none 0 0, .slice none 0 0, .int .i64 0, .int .i64 0]) (by rfl) (by kernel_rfl) ?_
  refine sx_store (t := 29) (p := (.tmp 4)) (x := (.tmp 17)) (by rfl) (by rfl) 0 (by rfl) 0 [.slice none 0 0, .slice none 0 0, .slice none 0 0, .int .i64 0, .int .i64 0] (by rfl) (by rfl) (by kernel_rfl) (by simp [Value.oneCell']) (by show 5 ≤ 5; omega) #[.slice none 0 0, .slice none 0 0, .slice none 0 0, .int .i64 0, .int .i64 0] (by rfl) hp ?_
  intro W_8 hp; simp only [List.set_cons_succ, List.set_cons_zero] at hp
  refine sx_rd 5 (.bool false) (by rfl) (by kernel_rfl) ?_
  refine sx_nil ?_
  refine ex_then_n ?_
  refine wp_ret ?_
  refine ex_then_r ?_
  refine sx_end (.tuple #[.agg #[.slice none 0 0, .slice none 0 0, .slice none 0 0, .int .i64 0, .int .i64 0], .bool false]) (rescT (p := 4) (u := 5) (by rfl) (by rfl) (by kernel_rfl) (by kernel_rfl) (hp.at_ 0 _ (by rfl))) ?_
  rw [if_neg (fun q => by have q1 := q.1; rw [(not_eq c_5)] at q1; cases q1)] at h; unfold noGm at h
  simp only [Option.some.injEq, Prod.mk.injEq] at h; obtain ⟨rfl, rfl, rfl, rfl, rfl, rfl⟩ := h
  exact ⟨_, _, _, rfl, Kd.R_nil _ _ _ _ _, Kd.R_nil _ _ _ _ _, Kd.R_nil _ _ _ _ _, hc2 _ (hp.tail.tail)⟩
 ·
  have hgB : (gameB l0_0 l0_1 l0_2 a0_3 a0_4) = true := by have q := c_5; simpa using q
  have hok0 := GmOk.of hgB
  have hz0 := hand_len hok0.f
  have hz1 := hand_len hok0.s
  dsimp only at hz0 hz1
  refine sx_region ?_
  refine sx_rd 9 (.agg #[.slice A0_0 l0_0.length c0_0, .slice A0_1 l0_1.length c0_1, .slice A0_2 l0_2.length c0_2, .int .i64 a0_3, .int .i64 a0_4]) (by rfl) (ldn (t := 29) (p := (.tmp 2)) (by rfl) (by rfl) (by kernel_rfl) (by kernel_rfl) (by kernel_rfl) (hp.at_ 1 _ (by rfl))) ?_
  obtain ⟨k_9, hk_k_9⟩ := Ev.rounds (isGame_ev l0_0 l0_1 l0_2 a0_3 a0_4 (by omega) (by omega) (by omega))
  refine sx_call 10 (by rfl) (by kernel_rfl) ((impl_IsGame.calls k_9 _ A0_0 c0_0 l0_0 _ A0_1 c0_1 l0_1 A0_2 c0_2 l0_2 a0_3 a0_4 _ _ (Kd.V_mk hc0_0 (Kd.C_F k59_heap (hC0_0 _ hp.tail.tail))) (Kd.V_mk hc0_1 (Kd.C_F k59_heap (hC0_1 _ hp.tail.tail))) (hC0_2 _ hp.tail.tail) hc0_2 hk_k_9).mono ?_)
  rintro _ W_10 ⟨rfl, hb⟩
  refine ⟨.bool true, congrArg (fun b => Ending.returned (.bool b)) (not_eq c_5), ?_⟩
  replace hp := hp.below hb
  clear hb
  refine sx_rd 11 (.bool false) (by rfl) (by kernel_rfl) ?_
  refine sx_rd 12 (.bool false) (by rfl) (by kernel_rfl) ?_
  refine sx_want (by rfl) ?_
  refine sx_rd 13 (.slice A1 l1.length c1) (by rfl) (by kernel_rfl) ?_
  refine sx_want (by rfl) ?_
  refine sx_rd 14 (.int .i64 (l1.length : Int)) (by rfl) (by kernel_rfl) ?_
  refine sx_want (by rfl) ?_
  refine sx_rd 15 (.bool (decide ((l1.length : Int) > 100))) (by rfl) (by kernel_rfl) ?_
  refine sx_rd 16 (.bool (decide ((l1.length : Int) > 100))) (by rfl) (by kernel_rfl) ?_
  refine sx_nil ?_
  refine ex_then_n ?_
  refine sx_cond (decide ((l1.length : Int) > 100)) (by rfl) (fun c_11 => ?_) (fun c_11 => ?_)
  ·
   have c_11p := of_decide_eq_true c_11
   refine wp_seq ?_
   refine sx_region ?_
   refine sx_rd 17 (.agg #[.slice none 0 0, .slice none 0 0, .slice none 0 0, .int .i64 0, .int .i64 0]) (by rfl) (by kernel_rfl) ?_
   refine sx_store (t := 29) (p := (.tmp 4)) (x := (.tmp 17)) (by rfl) (by rfl) 0 (by rfl) 0 [.slice none 0 0, .slice none 0 0, .slice none 0 0, .int .i64 0, .int .i64 0] (by rfl) (by rfl) (by kernel_rfl) (by simp [Value.oneCell']) (by show 5 ≤ 5; omega) #[.slice none 0 0, .slice none 0 0, .slice none 0 0, .int .i64 0, .int .i64 0] (by rfl) hp ?_
   intro W_12 hp; simp only [List.set_cons_succ, List.set_cons_zero] at hp
   refine sx_rd 5 (.bool false) (by rfl) (by kernel_rfl) ?_
   refine sx_nil ?_
   refine ex_then_n ?_
   refine wp_ret ?_
   refine ex_then_r ?_
   refine sx_end (.tuple #[.agg #[.slice none 0 0, .slice none 0 0, .slice none 0 0, .int .i64 0, .int .i64 0], .bool false]) (rescT (p := 4) (u := 5) (by rfl) (by rfl) (by kernel_rfl) (by kernel_rfl) (hp.at_ 0 _ (by rfl))) ?_
   rw [if_neg (fun q => by have q2 := q.2; omega)] at h; unfold noGm at h
   simp only [Option.some.injEq, Prod.mk.injEq] at h; obtain ⟨rfl, rfl, rfl, rfl, rfl, rfl⟩ := h
   exact ⟨_, _, _, rfl, Kd.R_nil _ _ _ _ _, Kd.R_nil _ _ _ _ _, Kd.R_nil _ _ _ _ _, hc2 _ (hp.tail.tail)⟩
  ·
   have c_11p := of_decide_eq_false c_11
   refine wp_skip ?_
   refine ex_then_n ?_
   refine wp_seq ?_
   refine sx_drawI (fun a W => ∃ (r_ : List (Nat × Value)) (gm_35 : Nat) (Am_36 : Option Addr) (cm_37 : Nat) (Am_38 : Option Addr) (cm_39 : Nat) (Am_40 : Option Addr) (cm_41 : Nat) (Fm_42 : Nat → Prop) (Fm_43 : Nat → Prop) (Fm_44 : Nat → Prop), a = fr 49 ([(1, .slice A1 l1.length c1), (4, .pointer (some ⟨g_3, 0, none⟩)), (6, .pointer (some ⟨gm_35, 0, none⟩))] ++ r_) ∧ Hp w (blk gm_35 #[.slice Am_36 l0_0.length cm_37, .slice Am_38 l0_1.length cm_39, .slice Am_40 l0_2.length cm_41, .int .i64 a0_3, .int .i64 a0_4] 29 :: row k59 59 w.heap.size (.slice Am_36 l0_0.length cm_37) l0_0 Fm_42 :: row k59 59 w.heap.size (.slice Am_38 l0_1.length cm_39) l0_1 Fm_43 :: row (Kd.int .i64) 3 w.heap.size (.slice Am_40 l0_2.length cm_41) l0_2 Fm_44 :: blk g_3 #[.slice none 0 0, .slice none 0 0, .slice none 0 0, .int .i64 0, .int .i64 0] 29 :: blk g_1 #[.slice A0_0 l0_0.length c0_0, .slice A0_1 l0_1.length c0_1, .slice A0_2 l0_2.length c0_2, .int .i64 a0_3, .int .i64 a0_4] 29 :: cs) W) [0, 3, 6, 9, 11] (.rd 1 (.rd 4 (.rd 7 (.rd 10 (.rd 12 (.alt 2 (.alt 5 (.alt 8 (.rd 13 (.alt 14 (.alt 15 (.fin) .non) .non)) (.alt 14 (.alt 8 (.rd 13 (.alt 15 (.fin) .non)) .non) (.non))) (.alt 14 (.alt 5 (.alt 8 (.rd 13 (.alt 15 (.fin) .non)) .non) .non) (.non))) (.alt 14 (.alt 2 (.alt 5 (.alt 8 (.rd 13 (.alt 15 (.fin) .non)) .non) .non) .non) (.non)))))))) 16 (C := Hp w (blk g_3 #[.slice none 0 0, .slice none 0 0, .slice none 0 0, .int .i64 0, .int .i64 0] 29 :: blk g_1 #[.slice A0_0 l0_0.length c0_0, .slice A0_1 l0_1.length c0_1, .slice A0_2 l0_2.length c0_2, .int .i64 a0_3, .int .i64 a0_4] 29 :: cs)) (by kernel_rfl) (by kernel_rfl) (fun d _ _ _ _ h => by cases d <;> exact h) (fun W h => h.drew) hp ?_ ?_
   ·
    refine preI_read rfl ?_
    refine sxq_val 18 (.pointer (some ⟨g_1, 0, none⟩)) (by rfl) (fun W _ => (by kernel_rfl)) ?_
    refine sxq_nil ?_
    refine preI_read rfl ?_
    refine sxq_val 21 (.pointer (some ⟨g_1, 1, none⟩)) (by rfl) (fun W _ => (by kernel_rfl)) ?_
    refine sxq_nil ?_
    refine preI_read rfl ?_
    refine sxq_val 24 (.pointer (some ⟨g_1, 2, none⟩)) (by rfl) (fun W _ => (by kernel_rfl)) ?_
    refine sxq_nil ?_
    refine preI_read rfl ?_
    refine sxq_val 27 (.pointer (some ⟨g_1, 3, none⟩)) (by rfl) (fun W _ => (by kernel_rfl)) ?_
    refine sxq_nil ?_
    refine preI_read rfl ?_
    refine sxq_val 29 (.pointer (some ⟨g_1, 4, none⟩)) (by rfl) (fun W _ => (by kernel_rfl)) ?_
    refine sxq_nil ?_
    refine preI_nil ?_
    intro W_13 hp
    refine treeI_rd rfl ?_
    refine sxq_val 19 (.slice A0_0 l0_0.length c0_0) (by rfl) (fun W hp => (ld1 (t := 27) (p := (.tmp 18)) (by rfl) (by rfl) (by kernel_rfl) (hp.cell 1 (by rfl) 0 _ (by rfl)))) ?_
    refine sxq_nil ?_
    refine treeI_rd rfl ?_
    refine sxq_val 22 (.slice A0_1 l0_1.length c0_1) (by rfl) (fun W hp => (ld1 (t := 27) (p := (.tmp 21)) (by rfl) (by rfl) (by kernel_rfl) (hp.cell 1 (by rfl) 1 _ (by rfl)))) ?_
    refine sxq_nil ?_
    refine treeI_rd rfl ?_
    refine sxq_val 25 (.slice A0_2 l0_2.length c0_2) (by rfl) (fun W hp => (ld1 (t := 23) (p := (.tmp 24)) (by rfl) (by rfl) (by kernel_rfl) (hp.cell 1 (by rfl) 2 _ (by rfl)))) ?_
    refine sxq_nil ?_
    refine treeI_rd rfl ?_
    refine sxq_val 28 (.int .i64 a0_3) (by rfl) (fun W hp => (ld1 (t := 3) (p := (.tmp 27)) (by rfl) (by rfl) (by kernel_rfl) (hp.cell 1 (by rfl) 3 _ (by rfl)))) ?_
    refine sxq_nil ?_
    refine treeI_rd rfl ?_
    refine sxq_val 30 (.int .i64 a0_4) (by rfl) (fun W hp => (ld1 (t := 3) (p := (.tmp 29)) (by rfl) (by rfl) (by kernel_rfl) (hp.cell 1 (by rfl) 4 _ (by rfl)))) ?_
    refine sxq_nil ?_
    refine treeI_alt rfl ?_ ?_
    ·
     refine sx_call 20 (by rfl) (by kernel_rfl) ((slices_Clone_impl_Tile_impl_Tile.calls A0_0 c0_0 l0_0 _ _ (hC0_0 _ hp.tail.tail) hc0_0 (cloneT_eq l0_0 (by omega))).mono ?_)
     rintro _ W_19 ⟨v_15, rfl, hR_14, hb⟩
     refine ⟨_, rfl, ?_⟩
     obtain ⟨A_16, c_17, rfl, hcc_c_17, _⟩ := Kd.R_reads hR_14
     obtain ⟨F_18, hp⟩ : ∃ F, Hp w (row k59 59 w.heap.size (.slice A_16 l0_0.length c_17) l0_0 F :: blk g_3 #[.slice none 0 0, .slice none 0 0, .slice none 0 0, .int .i64 0, .int .i64 0] 29 :: blk g_1 #[.slice A0_0 l0_0.length c0_0, .slice A0_1 l0_1.length c0_1, .slice A0_2 l0_2.length c0_2, .int .i64 a0_3, .int .i64 a0_4] 29 :: cs) _ := ⟨_, Hp.made hp hb hR_14⟩
     refine step_fin hp.tail ?_
     refine treeI_alt rfl ?_ ?_
     ·
      refine sx_call 23 (by rfl) (by kernel_rfl) ((slices_Clone_impl_Tile_impl_Tile.calls A0_1 c0_1 l0_1 _ _ (hC0_1 _ hp.tail.tail.tail) hc0_1 (cloneT_eq l0_1 (by omega))).mono ?_)
      rintro _ W_25 ⟨v_21, rfl, hR_20, hb⟩
      refine ⟨_, rfl, ?_⟩
      obtain ⟨A_22, c_23, rfl, hcc_c_23, _⟩ := Kd.R_reads hR_20
      obtain ⟨F_24, hp⟩ : ∃ F, Hp w (row k59 59 w.heap.size (.slice A_22 l0_1.length c_23) l0_1 F :: row k59 59 w.heap.size (.slice A_16 l0_0.length c_17) l0_0 F_18 :: blk g_3 #[.slice none 0 0, .slice none 0 0, .slice none 0 0, .int .i64 0, .int .i64 0] 29 :: blk g_1 #[.slice A0_0 l0_0.length c0_0, .slice A0_1 l0_1.length c0_1, .slice A0_2 l0_2.length c0_2, .int .i64 a0_3, .int .i64 a0_4] 29 :: cs) _ := ⟨_, Hp.made hp hb hR_20⟩
      refine step_fin hp.tail.tail ?_
      refine treeI_alt rfl ?_ ?_
      ·
       refine sx_call 26 (by rfl) (by kernel_rfl) ((slices_Clone_int_int.calls A0_2 c0_2 l0_2 _ _ (hC0_2 _ hp.tail.tail.tail.tail) hc0_2 (cloneI_eq l0_2 (by omega))).mono ?_)
       rintro _ W_31 ⟨v_27, rfl, hR_26, hb⟩
       refine ⟨_, rfl, ?_⟩
       obtain ⟨A_28, c_29, rfl, hcc_c_29, _⟩ := Kd.R_reads hR_26
       obtain ⟨F_30, hp⟩ : ∃ F, Hp w (row (Kd.int .i64) 3 w.heap.size (.slice A_28 l0_2.length c_29) l0_2 F :: row k59 59 w.heap.size (.slice A_22 l0_1.length c_23) l0_1 F_24 :: row k59 59 w.heap.size (.slice A_16 l0_0.length c_17) l0_0 F_18 :: blk g_3 #[.slice none 0 0, .slice none 0 0, .slice none 0 0, .int .i64 0, .int .i64 0] 29 :: blk g_1 #[.slice A0_0 l0_0.length c0_0, .slice A0_1 l0_1.length c0_1, .slice A0_2 l0_2.length c0_2, .int .i64 a0_3, .int .i64 a0_4] 29 :: cs) _ := ⟨_, Hp.made hp hb hR_26⟩
       refine step_fin hp.tail.tail.tail ?_
       refine treeI_rd rfl ?_
       refine sxq_val 31 (.agg #[.slice A_16 l0_0.length c_17, .slice A_22 l0_1.length c_23, .slice A_28 l0_2.length c_29, .int .i64 a0_3, .int .i64 a0_4]) (by rfl) (fun W hp => (by kernel_rfl)) ?_
       refine sxq_nil ?_
       refine treeI_ev rfl ?_
       refine sx_box 6 hp #[.slice none 0 0, .slice none 0 0, .slice none 0 0, .int .i64 0, .int .i64 0] 29 (by rfl) (fun W => by kernel_rfl) ?_
       intro g_32 W_33 hp
       refine step_fin hp.tail.tail.tail.tail ?_
       refine treeI_ev rfl ?_
       refine sx_store (t := 29) (p := (.tmp 6)) (x := (.tmp 31)) (by rfl) (by rfl) 0 (by rfl) 0 [.slice A_16 l0_0.length c_17, .slice A_22 l0_1.length c_23, .slice A_28 l0_2.length c_29, .int .i64 a0_3, .int .i64 a0_4] (by rfl) (by rfl) (by kernel_rfl) (by simp [Value.oneCell']) (by show 5 ≤ 5; omega) #[.slice A_16 l0_0.length c_17, .slice A_22 l0_1.length c_23, .slice A_28 l0_2.length c_29, .int .i64 a0_3, .int .i64 a0_4] (by rfl) hp ?_
       intro W_34 hp; simp only [List.set_cons_succ, List.set_cons_zero] at hp
       refine step_fin hp.tail.tail.tail.tail ?_
       refine treeI_fin ?_
       exact ⟨_, g_32, A_16, c_17, A_22, c_23, A_28, c_29, F_18, F_24, F_30, fr_front [(1, .slice A1 l1.length c1), (4, .pointer (some ⟨g_3, 0, none⟩)), (6, .pointer (some ⟨g_32, 0, none⟩))] ⟨rfl, rfl, rfl, trivial⟩, (hp.take [0, 3, 2, 1, 4, 5] 6 (by decide) (by simp))⟩
      refine treeI_alt rfl ?_ ?_
      ·
       refine sx_box 6 hp #[.slice none 0 0, .slice none 0 0, .slice none 0 0, .int .i64 0, .int .i64 0] 29 (by rfl) (fun W => by kernel_rfl) ?_
       intro g_45 W_46 hp
       refine step_fin hp.tail.tail.tail ?_
       refine treeI_ev rfl ?_
       refine sx_call 26 (by rfl) (by kernel_rfl) ((slices_Clone_int_int.calls A0_2 c0_2 l0_2 _ _ (hC0_2 _ hp.tail.tail.tail.tail.tail) hc0_2 (cloneI_eq l0_2 (by omega))).mono ?_)
       rintro _ W_52 ⟨v_48, rfl, hR_47, hb⟩
       refine ⟨_, rfl, ?_⟩
       obtain ⟨A_49, c_50, rfl, hcc_c_50, _⟩ := Kd.R_reads hR_47
       obtain ⟨F_51, hp⟩ : ∃ F, Hp w (row (Kd.int .i64) 3 w.heap.size (.slice A_49 l0_2.length c_50) l0_2 F :: blk g_45 #[.slice none 0 0, .slice none 0 0, .slice none 0 0, .int .i64 0, .int .i64 0] 29 :: row k59 59 w.heap.size (.slice A_22 l0_1.length c_23) l0_1 F_24 :: row k59 59 w.heap.size (.slice A_16 l0_0.length c_17) l0_0 F_18 :: blk g_3 #[.slice none 0 0, .slice none 0 0, .slice none 0 0, .int .i64 0, .int .i64 0] 29 :: blk g_1 #[.slice A0_0 l0_0.length c0_0, .slice A0_1 l0_1.length c0_1, .slice A0_2 l0_2.length c0_2, .int .i64 a0_3, .int .i64 a0_4] 29 :: cs) _ := ⟨_, Hp.made hp hb hR_47⟩
       refine step_fin hp.tail.tail.tail.tail ?_
       refine treeI_rd rfl ?_
       refine sxq_val 31 (.agg #[.slice A_16 l0_0.length c_17, .slice A_22 l0_1.length c_23, .slice A_49 l0_2.length c_50, .int .i64 a0_3, .int .i64 a0_4]) (by rfl) (fun W hp => (by kernel_rfl)) ?_
       refine sxq_nil ?_
       refine treeI_ev rfl ?_
       refine sx_store (t := 29) (p := (.tmp 6)) (x := (.tmp 31)) (by rfl) (by rfl) 1 (by rfl) 0 [.slice A_16 l0_0.length c_17, .slice A_22 l0_1.length c_23, .slice A_49 l0_2.length c_50, .int .i64 a0_3, .int .i64 a0_4] (by rfl) (by rfl) (by kernel_rfl) (by simp [Value.oneCell']) (by show 5 ≤ 5; omega) #[.slice A_16 l0_0.length c_17, .slice A_22 l0_1.length c_23, .slice A_49 l0_2.length c_50, .int .i64 a0_3, .int .i64 a0_4] (by rfl) hp ?_
       intro W_53 hp; simp only [List.set_cons_succ, List.set_cons_zero] at hp
       refine step_fin hp.tail.tail.tail.tail ?_
       refine treeI_fin ?_
       exact ⟨_, g_45, A_16, c_17, A_22, c_23, A_49, c_50, F_18, F_24, F_51, fr_front [(1, .slice A1 l1.length c1), (4, .pointer (some ⟨g_3, 0, none⟩)), (6, .pointer (some ⟨g_45, 0, none⟩))] ⟨rfl, rfl, rfl, trivial⟩, (hp.take [1, 3, 2, 0, 4, 5] 6 (by decide) (by simp))⟩
      exact treeI_non
     refine treeI_alt rfl ?_ ?_
     ·
      refine sx_box 6 hp #[.slice none 0 0, .slice none 0 0, .slice none 0 0, .int .i64 0, .int .i64 0] 29 (by rfl) (fun W => by kernel_rfl) ?_
      intro g_54 W_55 hp
      refine step_fin hp.tail.tail ?_
      refine treeI_ev rfl ?_
      refine sx_call 23 (by rfl) (by kernel_rfl) ((slices_Clone_impl_Tile_impl_Tile.calls A0_1 c0_1 l0_1 _ _ (hC0_1 _ hp.tail.tail.tail.tail) hc0_1 (cloneT_eq l0_1 (by omega))).mono ?_)
      rintro _ W_61 ⟨v_57, rfl, hR_56, hb⟩
      refine ⟨_, rfl, ?_⟩
      obtain ⟨A_58, c_59, rfl, hcc_c_59, _⟩ := Kd.R_reads hR_56
      obtain ⟨F_60, hp⟩ : ∃ F, Hp w (row k59 59 w.heap.size (.slice A_58 l0_1.length c_59) l0_1 F :: blk g_54 #[.slice none 0 0, .slice none 0 0, .slice none 0 0, .int .i64 0, .int .i64 0] 29 :: row k59 59 w.heap.size (.slice A_16 l0_0.length c_17) l0_0 F_18 :: blk g_3 #[.slice none 0 0, .slice none 0 0, .slice none 0 0, .int .i64 0, .int .i64 0] 29 :: blk g_1 #[.slice A0_0 l0_0.length c0_0, .slice A0_1 l0_1.length c0_1, .slice A0_2 l0_2.length c0_2, .int .i64 a0_3, .int .i64 a0_4] 29 :: cs) _ := ⟨_, Hp.made hp hb hR_56⟩
      refine step_fin hp.tail.tail.tail ?_
      refine treeI_ev rfl ?_
      refine sx_call 26 (by rfl) (by kernel_rfl) ((slices_Clone_int_int.calls A0_2 c0_2 l0_2 _ _ (hC0_2 _ hp.tail.tail.tail.tail.tail) hc0_2 (cloneI_eq l0_2 (by omega))).mono ?_)
      rintro _ W_67 ⟨v_63, rfl, hR_62, hb⟩
      refine ⟨_, rfl, ?_⟩
      obtain ⟨A_64, c_65, rfl, hcc_c_65, _⟩ := Kd.R_reads hR_62
      obtain ⟨F_66, hp⟩ : ∃ F, Hp w (row (Kd.int .i64) 3 w.heap.size (.slice A_64 l0_2.length c_65) l0_2 F :: row k59 59 w.heap.size (.slice A_58 l0_1.length c_59) l0_1 F_60 :: blk g_54 #[.slice none 0 0, .slice none 0 0, .slice none 0 0, .int .i64 0, .int .i64 0] 29 :: row k59 59 w.heap.size (.slice A_16 l0_0.length c_17) l0_0 F_18 :: blk g_3 #[.slice none 0 0, .slice none 0 0, .slice none 0 0, .int .i64 0, .int .i64 0] 29 :: blk g_1 #[.slice A0_0 l0_0.length c0_0, .slice A0_1 l0_1.length c0_1, .slice A0_2 l0_2.length c0_2, .int .i64 a0_3, .int .i64 a0_4] 29 :: cs) _ := ⟨_, Hp.made hp hb hR_62⟩
      refine step_fin hp.tail.tail.tail.tail ?_
      refine treeI_rd rfl ?_
      refine sxq_val 31 (.agg #[.slice A_16 l0_0.length c_17, .slice A_58 l0_1.length c_59, .slice A_64 l0_2.length c_65, .int .i64 a0_3, .int .i64 a0_4]) (by rfl) (fun W hp => (by kernel_rfl)) ?_
      refine sxq_nil ?_
      refine treeI_ev rfl ?_
      refine sx_store (t := 29) (p := (.tmp 6)) (x := (.tmp 31)) (by rfl) (by rfl) 2 (by rfl) 0 [.slice A_16 l0_0.length c_17, .slice A_58 l0_1.length c_59, .slice A_64 l0_2.length c_65, .int .i64 a0_3, .int .i64 a0_4] (by rfl) (by rfl) (by kernel_rfl) (by simp [Value.oneCell']) (by show 5 ≤ 5; omega) #[.slice A_16 l0_0.length c_17, .slice A_58 l0_1.length c_59, .slice A_64 l0_2.length c_65, .int .i64 a0_3, .int .i64 a0_4] (by rfl) hp ?_
      intro W_68 hp; simp only [List.set_cons_succ, List.set_cons_zero] at hp
      refine step_fin hp.tail.tail.tail.tail ?_
      refine treeI_fin ?_
      exact ⟨_, g_54, A_16, c_17, A_58, c_59, A_64, c_65, F_18, F_60, F_66, fr_front [(1, .slice A1 l1.length c1), (4, .pointer (some ⟨g_3, 0, none⟩)), (6, .pointer (some ⟨g_54, 0, none⟩))] ⟨rfl, rfl, rfl, trivial⟩, (hp.take [2, 3, 1, 0, 4, 5] 6 (by decide) (by simp))⟩
     exact treeI_non
    refine treeI_alt rfl ?_ ?_
    ·
     refine sx_box 6 hp #[.slice none 0 0, .slice none 0 0, .slice none 0 0, .int .i64 0, .int .i64 0] 29 (by rfl) (fun W => by kernel_rfl) ?_
     intro g_69 W_70 hp
     refine step_fin hp.tail ?_
     refine treeI_ev rfl ?_
     refine sx_call 20 (by rfl) (by kernel_rfl) ((slices_Clone_impl_Tile_impl_Tile.calls A0_0 c0_0 l0_0 _ _ (hC0_0 _ hp.tail.tail.tail) hc0_0 (cloneT_eq l0_0 (by omega))).mono ?_)
     rintro _ W_76 ⟨v_72, rfl, hR_71, hb⟩
     refine ⟨_, rfl, ?_⟩
     obtain ⟨A_73, c_74, rfl, hcc_c_74, _⟩ := Kd.R_reads hR_71
     obtain ⟨F_75, hp⟩ : ∃ F, Hp w (row k59 59 w.heap.size (.slice A_73 l0_0.length c_74) l0_0 F :: blk g_69 #[.slice none 0 0, .slice none 0 0, .slice none 0 0, .int .i64 0, .int .i64 0] 29 :: blk g_3 #[.slice none 0 0, .slice none 0 0, .slice none 0 0, .int .i64 0, .int .i64 0] 29 :: blk g_1 #[.slice A0_0 l0_0.length c0_0, .slice A0_1 l0_1.length c0_1, .slice A0_2 l0_2.length c0_2, .int .i64 a0_3, .int .i64 a0_4] 29 :: cs) _ := ⟨_, Hp.made hp hb hR_71⟩
     refine step_fin hp.tail.tail ?_
     refine treeI_ev rfl ?_
     refine sx_call 23 (by rfl) (by kernel_rfl) ((slices_Clone_impl_Tile_impl_Tile.calls A0_1 c0_1 l0_1 _ _ (hC0_1 _ hp.tail.tail.tail.tail) hc0_1 (cloneT_eq l0_1 (by omega))).mono ?_)
     rintro _ W_82 ⟨v_78, rfl, hR_77, hb⟩
     refine ⟨_, rfl, ?_⟩
     obtain ⟨A_79, c_80, rfl, hcc_c_80, _⟩ := Kd.R_reads hR_77
     obtain ⟨F_81, hp⟩ : ∃ F, Hp w (row k59 59 w.heap.size (.slice A_79 l0_1.length c_80) l0_1 F :: row k59 59 w.heap.size (.slice A_73 l0_0.length c_74) l0_0 F_75 :: blk g_69 #[.slice none 0 0, .slice none 0 0, .slice none 0 0, .int .i64 0, .int .i64 0] 29 :: blk g_3 #[.slice none 0 0, .slice none 0 0, .slice none 0 0, .int .i64 0, .int .i64 0] 29 :: blk g_1 #[.slice A0_0 l0_0.length c0_0, .slice A0_1 l0_1.length c0_1, .slice A0_2 l0_2.length c0_2, .int .i64 a0_3, .int .i64 a0_4] 29 :: cs) _ := ⟨_, Hp.made hp hb hR_77⟩
     refine step_fin hp.tail.tail.tail ?_
     refine treeI_ev rfl ?_
     refine sx_call 26 (by rfl) (by kernel_rfl) ((slices_Clone_int_int.calls A0_2 c0_2 l0_2 _ _ (hC0_2 _ hp.tail.tail.tail.tail.tail) hc0_2 (cloneI_eq l0_2 (by omega))).mono ?_)
     rintro _ W_88 ⟨v_84, rfl, hR_83, hb⟩
     refine ⟨_, rfl, ?_⟩
     obtain ⟨A_85, c_86, rfl, hcc_c_86, _⟩ := Kd.R_reads hR_83
     obtain ⟨F_87, hp⟩ : ∃ F, Hp w (row (Kd.int .i64) 3 w.heap.size (.slice A_85 l0_2.length c_86) l0_2 F :: row k59 59 w.heap.size (.slice A_79 l0_1.length c_80) l0_1 F_81 :: row k59 59 w.heap.size (.slice A_73 l0_0.length c_74) l0_0 F_75 :: blk g_69 #[.slice none 0 0, .slice none 0 0, .slice none 0 0, .int .i64 0, .int .i64 0] 29 :: blk g_3 #[.slice none 0 0, .slice none 0 0, .slice none 0 0, .int .i64 0, .int .i64 0] 29 :: blk g_1 #[.slice A0_0 l0_0.length c0_0, .slice A0_1 l0_1.length c0_1, .slice A0_2 l0_2.length c0_2, .int .i64 a0_3, .int .i64 a0_4] 29 :: cs) _ := ⟨_, Hp.made hp hb hR_83⟩
     refine step_fin hp.tail.tail.tail.tail ?_
     refine treeI_rd rfl ?_
     refine sxq_val 31 (.agg #[.slice A_73 l0_0.length c_74, .slice A_79 l0_1.length c_80, .slice A_85 l0_2.length c_86, .int .i64 a0_3, .int .i64 a0_4]) (by rfl) (fun W hp => (by kernel_rfl)) ?_
     refine sxq_nil ?_
     refine treeI_ev rfl ?_
     refine sx_store (t := 29) (p := (.tmp 6)) (x := (.tmp 31)) (by rfl) (by rfl) 3 (by rfl) 0 [.slice A_73 l0_0.length c_74, .slice A_79 l0_1.length c_80, .slice A_85 l0_2.length c_86, .int .i64 a0_3, .int .i64 a0_4] (by rfl) (by rfl) (by kernel_rfl) (by simp [Value.oneCell']) (by show 5 ≤ 5; omega) #[.slice A_73 l0_0.length c_74, .slice A_79 l0_1.length c_80, .slice A_85 l0_2.length c_86, .int .i64 a0_3, .int .i64 a0_4] (by rfl) hp ?_
     intro W_89 hp; simp only [List.set_cons_succ, List.set_cons_zero] at hp
     refine step_fin hp.tail.tail.tail.tail ?_
     refine treeI_fin ?_
     exact ⟨_, g_69, A_73, c_74, A_79, c_80, A_85, c_86, F_75, F_81, F_87, fr_front [(1, .slice A1 l1.length c1), (4, .pointer (some ⟨g_3, 0, none⟩)), (6, .pointer (some ⟨g_69, 0, none⟩))] ⟨rfl, rfl, rfl, trivial⟩, (hp.take [3, 2, 1, 0, 4, 5] 6 (by decide) (by simp))⟩
    exact treeI_non
   ·
    rintro _ W_90 ⟨r_, gm_35, Am_36, cm_37, Am_38, cm_39, Am_40, cm_41, Fm_42, Fm_43, Fm_44, rfl, hp⟩
    refine sx_nil ?_
    refine ex_then_n ?_
    refine wp_seq ?_
    refine wp_seq ?_
    refine sx_region ?_
    refine sx_rd 32 (.slice A1 l1.length c1) (by rfl) (by kernel_rfl) ?_
    refine sx_rd 33 (.int .i64 (l1.length : Int)) (by rfl) (by kernel_rfl) ?_
    refine sx_rd 34 (.int .i64 0) (by rfl) (by kernel_rfl) ?_
    refine sx_nil ?_
    refine ex_then_n ?_
    refine wp_block ?_
    have e0_91 : l0_0 = (gs (⟨l0_0, l0_1, l0_2, a0_3, a0_4⟩ : Gm) l1 0).f := rfl
    have hp : Hp w (blk gm_35 #[.slice Am_36 l0_0.length cm_37, .slice Am_38 l0_1.length cm_39, .slice Am_40 l0_2.length cm_41, .int .i64 a0_3, .int .i64 a0_4] 29 :: row k59 59 w.heap.size (.slice Am_36 l0_0.length cm_37) ((gs (⟨l0_0, l0_1, l0_2, a0_3, a0_4⟩ : Gm) l1 0).f) Fm_42 :: row k59 59 w.heap.size (.slice Am_38 l0_1.length cm_39) l0_1 Fm_43 :: row (Kd.int .i64) 3 w.heap.size (.slice Am_40 l0_2.length cm_41) l0_2 Fm_44 :: blk g_3 #[.slice none 0 0, .slice none 0 0, .slice none 0 0, .int .i64 0, .int .i64 0] 29 :: blk g_1 #[.slice A0_0 l0_0.length c0_0, .slice A0_1 l0_1.length c0_1, .slice A0_2 l0_2.length c0_2, .int .i64 a0_3, .int .i64 a0_4] 29 :: cs) W_90 := by rw [← e0_91]; exact hp
    have e0_92 : l0_1 = (gs (⟨l0_0, l0_1, l0_2, a0_3, a0_4⟩ : Gm) l1 0).s := rfl
    have hp : Hp w (blk gm_35 #[.slice Am_36 l0_0.length cm_37, .slice Am_38 l0_1.length cm_39, .slice Am_40 l0_2.length cm_41, .int .i64 a0_3, .int .i64 a0_4] 29 :: row k59 59 w.heap.size (.slice Am_36 l0_0.length cm_37) ((gs (⟨l0_0, l0_1, l0_2, a0_3, a0_4⟩ : Gm) l1 0).f) Fm_42 :: row k59 59 w.heap.size (.slice Am_38 l0_1.length cm_39) ((gs (⟨l0_0, l0_1, l0_2, a0_3, a0_4⟩ : Gm) l1 0).s) Fm_43 :: row (Kd.int .i64) 3 w.heap.size (.slice Am_40 l0_2.length cm_41) l0_2 Fm_44 :: blk g_3 #[.slice none 0 0, .slice none 0 0, .slice none 0 0, .int .i64 0, .int .i64 0] 29 :: blk g_1 #[.slice A0_0 l0_0.length c0_0, .slice A0_1 l0_1.length c0_1, .slice A0_2 l0_2.length c0_2, .int .i64 a0_3, .int .i64 a0_4] 29 :: cs) W_90 := by rw [← e0_92]; exact hp
    have e0_93 : l0_2 = (gs (⟨l0_0, l0_1, l0_2, a0_3, a0_4⟩ : Gm) l1 0).r := rfl
    have hp : Hp w (blk gm_35 #[.slice Am_36 l0_0.length cm_37, .slice Am_38 l0_1.length cm_39, .slice Am_40 l0_2.length cm_41, .int .i64 a0_3, .int .i64 a0_4] 29 :: row k59 59 w.heap.size (.slice Am_36 l0_0.length cm_37) ((gs (⟨l0_0, l0_1, l0_2, a0_3, a0_4⟩ : Gm) l1 0).f) Fm_42 :: row k59 59 w.heap.size (.slice Am_38 l0_1.length cm_39) ((gs (⟨l0_0, l0_1, l0_2, a0_3, a0_4⟩ : Gm) l1 0).s) Fm_43 :: row (Kd.int .i64) 3 w.heap.size (.slice Am_40 l0_2.length cm_41) ((gs (⟨l0_0, l0_1, l0_2, a0_3, a0_4⟩ : Gm) l1 0).r) Fm_44 :: blk g_3 #[.slice none 0 0, .slice none 0 0, .slice none 0 0, .int .i64 0, .int .i64 0] 29 :: blk g_1 #[.slice A0_0 l0_0.length c0_0, .slice A0_1 l0_1.length c0_1, .slice A0_2 l0_2.length c0_2, .int .i64 a0_3, .int .i64 a0_4] 29 :: cs) W_90 := by rw [← e0_93]; exact hp
    refine wp_loop_ghost (fun n a W => ∃ (r_ : List (Nat × Value)) (i : Nat) (Aix6x0 : Option Addr) (nix6x0 cix6x0 : Nat) (Fix6x0 : Nat → Prop) (Aix6x1 : Option Addr) (nix6x1 cix6x1 : Nat) (Fix6x1 : Nat → Prop) (Aix6x2 : Option Addr) (nix6x2 cix6x2 : Nat) (Fix6x2 : Nat → Prop), n = l1.length - i ∧ a = fr 49 ([(4, .pointer (some ⟨g_3, 0, none⟩)), (6, .pointer (some ⟨gm_35, 0, none⟩)), (32, .slice A1 l1.length c1), (33, .int .i64 (l1.length : Int)), (34, .int .i64 (i : Int))] ++ r_) ∧ Hp w (row k59 59 w.heap.size (.slice Aix6x0 nix6x0 cix6x0) ((gs (⟨l0_0, l0_1, l0_2, a0_3, a0_4⟩ : Gm) l1 i).f) Fix6x0 :: row k59 59 w.heap.size (.slice Aix6x1 nix6x1 cix6x1) ((gs (⟨l0_0, l0_1, l0_2, a0_3, a0_4⟩ : Gm) l1 i).s) Fix6x1 :: row (Kd.int .i64) 3 w.heap.size (.slice Aix6x2 nix6x2 cix6x2) ((gs (⟨l0_0, l0_1, l0_2, a0_3, a0_4⟩ : Gm) l1 i).r) Fix6x2 :: blk gm_35 #[.slice Aix6x0 nix6x0 cix6x0, .slice Aix6x1 nix6x1 cix6x1, .slice Aix6x2 nix6x2 cix6x2, .int .i64 ((gs (⟨l0_0, l0_1, l0_2, a0_3, a0_4⟩ : Gm) l1 i).t), .int .i64 ((gs (⟨l0_0, l0_1, l0_2, a0_3, a0_4⟩ : Gm) l1 i).p)] 29 :: blk g_3 #[.slice none 0 0, .slice none 0 0, .slice none 0 0, .int .i64 0, .int .i64 0] 29 :: blk g_1 #[.slice A0_0 l0_0.length c0_0, .slice A0_1 l0_1.length c0_1, .slice A0_2 l0_2.length c0_2, .int .i64 a0_3, .int .i64 a0_4] 29 :: cs) W ∧ (i ≤ l1.length) ∧ (allF (⟨l0_0, l0_1, l0_2, a0_3, a0_4⟩ : Gm) l1 i = true)) _ ⟨_, 0, _, _, _, _, _, _, _, _, _, _, _, _, rfl, fr_front [(4, .pointer (some ⟨g_3, 0, none⟩)), (6, .pointer (some ⟨gm_35, 0, none⟩)), (32, .slice A1 l1.length c1), (33, .int .i64 (l1.length : Int)), (34, .int .i64 0)] ⟨rfl, rfl, rfl, rfl, rfl, trivial⟩, (hp.take [1, 2, 3, 0, 4, 5] 6 (by decide) (by simp)), Nat.zero_le _, rfl⟩ ?_
    rintro _ _ W_94 ⟨r_, i, Aix6x0, nix6x0, cix6x0, Fix6x0, Aix6x1, nix6x1, cix6x1, Fix6x1, Aix6x2, nix6x2, cix6x2, Fix6x2, rfl, rfl, hp, hi, hal⟩
    obtain ⟨rfl, hccix6x0⟩ := row_len (hp.at_ 0 _ (by rfl))
    obtain ⟨rfl, hccix6x1⟩ := row_len (hp.at_ 1 _ (by rfl))
    obtain ⟨rfl, hccix6x2⟩ := row_len (hp.at_ 2 _ (by rfl))
    have hoi := gs_ok hok0 l1 i
    have hrw := gs_row (⟨l0_0, l0_1, l0_2, a0_3, a0_4⟩ : Gm) l1 i
    dsimp only at hrw
    have hri : (gs (⟨l0_0, l0_1, l0_2, a0_3, a0_4⟩ : Gm) l1 i).r.length ≤ 2000000 := by omega
    have hz3 := hand_len hoi.f
    have hz4 := hand_len hoi.s
    refine wp_seq ?_
    refine sx_region ?_
    refine sx_rd 35 (.bool (decide ((i : Int) < (l1.length : Int)))) (by rfl) (by kernel_rfl) ?_
    refine sx_nil ?_
    refine ex_then_n ?_
    refine wp_seq ?_
    refine sx_cond (decide ((i : Int) < (l1.length : Int))) (by rfl) (fun c_95 => ?_) (fun c_95 => ?_)
    ·
     have c_95p := of_decide_eq_true c_95
     refine wp_skip ?_
     refine ex_then_n ?_
     refine wp_seq ?_
     refine wp_block ?_
     refine wp_seq ?_
     refine sx_region ?_
     refine sx_rd 36 (.pointer (some (adr A1 (i : Int) 1))) (by rfl) (ix_run (d := Kd.string) (hC1 _ hp.tail.tail.tail.tail.tail.tail) (t := 36) (by rfl) (by rfl) (by rfl) Tryz.underlying36 (by kernel_rfl) (by omega) (by omega)) ?_
     refine sx_rd 37 (.string (rdOf ByteArray.empty l1 (i : Int))) (by rfl) (ld1 (t := 9) (p := (.tmp 36)) (by rfl) (by rfl) (by kernel_rfl) (el_cell (d := Kd.string) (hC1 _ hp.tail.tail.tail.tail.tail.tail) ByteArray.empty (i : Int) (by omega) (by omega) (cells := [.string (rdOf ByteArray.empty l1 (i : Int))]) (fun cs h => h) 0 _ (by rfl))) ?_
     refine sx_rd 8 (.string (rdOf ByteArray.empty l1 (i : Int))) (by rfl) (by kernel_rfl) ?_
     refine sx_nil ?_
     refine ex_then_n ?_
     refine wp_seq ?_
     refine wp_seq ?_
     refine sx_region ?_
     refine sx_rd 38 (.agg #[.slice Aix6x0 (((gs (⟨l0_0, l0_1, l0_2, a0_3, a0_4⟩ : Gm) l1 i).f).length) cix6x0, .slice Aix6x1 (((gs (⟨l0_0, l0_1, l0_2, a0_3, a0_4⟩ : Gm) l1 i).s).length) cix6x1, .slice Aix6x2 (((gs (⟨l0_0, l0_1, l0_2, a0_3, a0_4⟩ : Gm) l1 i).r).length) cix6x2, .int .i64 ((gs (⟨l0_0, l0_1, l0_2, a0_3, a0_4⟩ : Gm) l1 i).t), .int .i64 ((gs (⟨l0_0, l0_1, l0_2, a0_3, a0_4⟩ : Gm) l1 i).p)]) (by rfl) (ldn (t := 29) (p := (.tmp 6)) (by rfl) (by rfl) (by kernel_rfl) (by kernel_rfl) (by kernel_rfl) (hp.at_ 3 _ (by rfl))) ?_
     refine sx_call 39 (by rfl) (by kernel_rfl) ((impl_Game_moves.calls Aix6x0 cix6x0 ((gs (⟨l0_0, l0_1, l0_2, a0_3, a0_4⟩ : Gm) l1 i).f) Aix6x1 cix6x1 ((gs (⟨l0_0, l0_1, l0_2, a0_3, a0_4⟩ : Gm) l1 i).s) Aix6x2 cix6x2 ((gs (⟨l0_0, l0_1, l0_2, a0_3, a0_4⟩ : Gm) l1 i).r) ((gs (⟨l0_0, l0_1, l0_2, a0_3, a0_4⟩ : Gm) l1 i).t) ((gs (⟨l0_0, l0_1, l0_2, a0_3, a0_4⟩ : Gm) l1 i).p) _ _ (row_C (hp.at_ 0 _ (by rfl))) (row_len (hp.at_ 0 _ (by rfl))).2 (row_C (hp.at_ 1 _ (by rfl))) (row_len (hp.at_ 1 _ (by rfl))).2 (row_C (hp.at_ 2 _ (by rfl))) (row_len (hp.at_ 2 _ (by rfl))).2 (moves_eq (gs (⟨l0_0, l0_1, l0_2, a0_3, a0_4⟩ : Gm) l1 i) (gm_of hoi hri))).mono ?_)
     rintro _ W_101 ⟨v_97, rfl, hR_96, hb⟩
     refine ⟨_, rfl, ?_⟩
     obtain ⟨A_98, c_99, rfl, hcc_c_99, _⟩ := Kd.R_reads hR_96
     obtain ⟨F_100, hp⟩ : ∃ F, Hp w (row Kd.string 9 w.heap.size (.slice A_98 ((gs (⟨l0_0, l0_1, l0_2, a0_3, a0_4⟩ : Gm) l1 i).moves.map txt).length c_99) ((gs (⟨l0_0, l0_1, l0_2, a0_3, a0_4⟩ : Gm) l1 i).moves.map txt) F :: row k59 59 w.heap.size (.slice Aix6x0 (((gs (⟨l0_0, l0_1, l0_2, a0_3, a0_4⟩ : Gm) l1 i).f).length) cix6x0) ((gs (⟨l0_0, l0_1, l0_2, a0_3, a0_4⟩ : Gm) l1 i).f) Fix6x0 :: row k59 59 w.heap.size (.slice Aix6x1 (((gs (⟨l0_0, l0_1, l0_2, a0_3, a0_4⟩ : Gm) l1 i).s).length) cix6x1) ((gs (⟨l0_0, l0_1, l0_2, a0_3, a0_4⟩ : Gm) l1 i).s) Fix6x1 :: row (Kd.int .i64) 3 w.heap.size (.slice Aix6x2 (((gs (⟨l0_0, l0_1, l0_2, a0_3, a0_4⟩ : Gm) l1 i).r).length) cix6x2) ((gs (⟨l0_0, l0_1, l0_2, a0_3, a0_4⟩ : Gm) l1 i).r) Fix6x2 :: blk gm_35 #[.slice Aix6x0 (((gs (⟨l0_0, l0_1, l0_2, a0_3, a0_4⟩ : Gm) l1 i).f).length) cix6x0, .slice Aix6x1 (((gs (⟨l0_0, l0_1, l0_2, a0_3, a0_4⟩ : Gm) l1 i).s).length) cix6x1, .slice Aix6x2 (((gs (⟨l0_0, l0_1, l0_2, a0_3, a0_4⟩ : Gm) l1 i).r).length) cix6x2, .int .i64 ((gs (⟨l0_0, l0_1, l0_2, a0_3, a0_4⟩ : Gm) l1 i).t), .int .i64 ((gs (⟨l0_0, l0_1, l0_2, a0_3, a0_4⟩ : Gm) l1 i).p)] 29 :: blk g_3 #[.slice none 0 0, .slice none 0 0, .slice none 0 0, .int .i64 0, .int .i64 0] 29 :: blk g_1 #[.slice A0_0 l0_0.length c0_0, .slice A0_1 l0_1.length c0_1, .slice A0_2 l0_2.length c0_2, .int .i64 a0_3, .int .i64 a0_4] 29 :: cs) _ := ⟨_, Hp.made hp hb hR_96⟩
     refine sx_rd 40 (.string (rdOf ByteArray.empty l1 (i : Int))) (by rfl) (by kernel_rfl) ?_
     obtain ⟨k_102, hk_k_102⟩ := Ev.rounds (contains_fnd (gs (⟨l0_0, l0_1, l0_2, a0_3, a0_4⟩ : Gm) l1 i) (rdOf ByteArray.empty l1 (i : Int)))
     refine sx_call 41 (by rfl) (by kernel_rfl) ((slices_Contains_string_string.calls k_102 A_98 c_99 ((gs (⟨l0_0, l0_1, l0_2, a0_3, a0_4⟩ : Gm) l1 i).moves.map txt) (rdOf ByteArray.empty l1 (i : Int)) _ _ (row_C (hp.at_ 0 _ (by rfl))) (row_len (hp.at_ 0 _ (by rfl))).2 hk_k_102).mono ?_)
     rintro _ W_103 ⟨rfl, hb⟩
     refine ⟨_, rfl, ?_⟩
     replace hp := hp.below hb.below
     clear hb
     refine sx_rd 42 (.bool (!(fnd (gs (⟨l0_0, l0_1, l0_2, a0_3, a0_4⟩ : Gm) l1 i) (rdOf ByteArray.empty l1 (i : Int))))) (by rfl) (by kernel_rfl) ?_
     refine sx_nil ?_
     refine ex_then_n ?_
     refine sx_cond (!(fnd (gs (⟨l0_0, l0_1, l0_2, a0_3, a0_4⟩ : Gm) l1 i) (rdOf ByteArray.empty l1 (i : Int)))) (by rfl) (fun c_104 => ?_) (fun c_104 => ?_)
     ·
      refine wp_seq ?_
      refine sx_region ?_
      refine sx_rd 43 (.agg #[.slice none 0 0, .slice none 0 0, .slice none 0 0, .int .i64 0, .int .i64 0]) (by rfl) (by kernel_rfl) ?_
      refine sx_store (t := 29) (p := (.tmp 4)) (x := (.tmp 43)) (by rfl) (by rfl) 5 (by rfl) 0 [.slice none 0 0, .slice none 0 0, .slice none 0 0, .int .i64 0, .int .i64 0] (by rfl) (by rfl) (by kernel_rfl) (by simp [Value.oneCell']) (by show 5 ≤ 5; omega) #[.slice none 0 0, .slice none 0 0, .slice none 0 0, .int .i64 0, .int .i64 0] (by rfl) hp ?_
      intro W_105 hp; simp only [List.set_cons_succ, List.set_cons_zero] at hp
      refine sx_rd 5 (.bool false) (by rfl) (by kernel_rfl) ?_
      refine sx_nil ?_
      refine ex_then_n ?_
      refine wp_ret ?_
      refine ex_then_r (ex_blk_r (ex_then_r (ex_then_r (ex_blk_r (ex_then_r ?_)))))
      refine sx_end (.tuple #[.agg #[.slice none 0 0, .slice none 0 0, .slice none 0 0, .int .i64 0, .int .i64 0], .bool false]) (rescT (p := 4) (u := 5) (by rfl) (by rfl) (by kernel_rfl) (by kernel_rfl) (hp.at_ 5 _ (by rfl))) ?_
      rw [if_pos ⟨hgB, by omega⟩] at h; unfold resPlay at h; rw [if_neg (by rw [allF_fail (i := i) (not_eq c_104) l1.length (by omega)]; simp)] at h; unfold noGm at h
      simp only [Option.some.injEq, Prod.mk.injEq] at h; obtain ⟨rfl, rfl, rfl, rfl, rfl, rfl⟩ := h
      exact ⟨_, _, _, rfl, Kd.R_nil _ _ _ _ _, Kd.R_nil _ _ _ _ _, Kd.R_nil _ _ _ _ _, hc2 _ (hp.tail.tail.tail.tail.tail.tail.tail)⟩
     ·
      refine wp_skip ?_
      refine ex_then_n ?_
      refine sx_region ?_
      refine sx_rd 44 (.agg #[.slice Aix6x0 (((gs (⟨l0_0, l0_1, l0_2, a0_3, a0_4⟩ : Gm) l1 i).f).length) cix6x0, .slice Aix6x1 (((gs (⟨l0_0, l0_1, l0_2, a0_3, a0_4⟩ : Gm) l1 i).s).length) cix6x1, .slice Aix6x2 (((gs (⟨l0_0, l0_1, l0_2, a0_3, a0_4⟩ : Gm) l1 i).r).length) cix6x2, .int .i64 ((gs (⟨l0_0, l0_1, l0_2, a0_3, a0_4⟩ : Gm) l1 i).t), .int .i64 ((gs (⟨l0_0, l0_1, l0_2, a0_3, a0_4⟩ : Gm) l1 i).p)]) (by rfl) (ldn (t := 29) (p := (.tmp 6)) (by rfl) (by rfl) (by kernel_rfl) (by kernel_rfl) (by kernel_rfl) (hp.at_ 4 _ (by rfl))) ?_
      refine sx_rd 45 (.string (rdOf ByteArray.empty l1 (i : Int))) (by rfl) (by kernel_rfl) ?_
      refine sx_call 46 (by rfl) (by kernel_rfl) ((impl_Game_behind.calls Aix6x0 cix6x0 ((gs (⟨l0_0, l0_1, l0_2, a0_3, a0_4⟩ : Gm) l1 i).f) Aix6x1 cix6x1 ((gs (⟨l0_0, l0_1, l0_2, a0_3, a0_4⟩ : Gm) l1 i).s) Aix6x2 cix6x2 ((gs (⟨l0_0, l0_1, l0_2, a0_3, a0_4⟩ : Gm) l1 i).r) ((gs (⟨l0_0, l0_1, l0_2, a0_3, a0_4⟩ : Gm) l1 i).t) ((gs (⟨l0_0, l0_1, l0_2, a0_3, a0_4⟩ : Gm) l1 i).p) (rdOf ByteArray.empty l1 (i : Int)) _ _ _ _ _ _ (row_C (hp.at_ 1 _ (by rfl))) (row_len (hp.at_ 1 _ (by rfl))).2 (row_C (hp.at_ 2 _ (by rfl))) (row_len (hp.at_ 2 _ (by rfl))).2 (row_C (hp.at_ 3 _ (by rfl))) (row_len (hp.at_ 3 _ (by rfl))).2 (behind_step hoi hri (not_eq c_104))).mono ?_)
      rintro _ W_121 ⟨v_109, v_110, v_111, rfl, hR_106, hR_107, hR_108, hb⟩
      refine ⟨_, rfl, ?_⟩
      obtain ⟨A_112, c_113, rfl, hcc_c_113, _⟩ := Kd.R_reads hR_106
      obtain ⟨A_115, c_116, rfl, hcc_c_116, _⟩ := Kd.R_reads hR_107
      obtain ⟨A_118, c_119, rfl, hcc_c_119, _⟩ := Kd.R_reads hR_108
      obtain ⟨F_114, F_117, F_120, hp⟩ : ∃ F_114 F_117 F_120, Hp w (row k59 59 w.heap.size (.slice A_112 ((stepM (gs (⟨l0_0, l0_1, l0_2, a0_3, a0_4⟩ : Gm) l1 i) (rdOf ByteArray.empty l1 (i : Int))).f).length c_113) ((stepM (gs (⟨l0_0, l0_1, l0_2, a0_3, a0_4⟩ : Gm) l1 i) (rdOf ByteArray.empty l1 (i : Int))).f) F_114 :: row k59 59 w.heap.size (.slice A_115 ((stepM (gs (⟨l0_0, l0_1, l0_2, a0_3, a0_4⟩ : Gm) l1 i) (rdOf ByteArray.empty l1 (i : Int))).s).length c_116) ((stepM (gs (⟨l0_0, l0_1, l0_2, a0_3, a0_4⟩ : Gm) l1 i) (rdOf ByteArray.empty l1 (i : Int))).s) F_117 :: row (Kd.int .i64) 3 w.heap.size (.slice A_118 ((stepM (gs (⟨l0_0, l0_1, l0_2, a0_3, a0_4⟩ : Gm) l1 i) (rdOf ByteArray.empty l1 (i : Int))).r).length c_119) ((stepM (gs (⟨l0_0, l0_1, l0_2, a0_3, a0_4⟩ : Gm) l1 i) (rdOf ByteArray.empty l1 (i : Int))).r) F_120 :: row Kd.string 9 w.heap.size (.slice A_98 (((gs (⟨l0_0, l0_1, l0_2, a0_3, a0_4⟩ : Gm) l1 i).moves.map txt).length) c_99) ((gs (⟨l0_0, l0_1, l0_2, a0_3, a0_4⟩ : Gm) l1 i).moves.map txt) F_100 :: row k59 59 w.heap.size (.slice Aix6x0 (((gs (⟨l0_0, l0_1, l0_2, a0_3, a0_4⟩ : Gm) l1 i).f).length) cix6x0) ((gs (⟨l0_0, l0_1, l0_2, a0_3, a0_4⟩ : Gm) l1 i).f) Fix6x0 :: row k59 59 w.heap.size (.slice Aix6x1 (((gs (⟨l0_0, l0_1, l0_2, a0_3, a0_4⟩ : Gm) l1 i).s).length) cix6x1) ((gs (⟨l0_0, l0_1, l0_2, a0_3, a0_4⟩ : Gm) l1 i).s) Fix6x1 :: row (Kd.int .i64) 3 w.heap.size (.slice Aix6x2 (((gs (⟨l0_0, l0_1, l0_2, a0_3, a0_4⟩ : Gm) l1 i).r).length) cix6x2) ((gs (⟨l0_0, l0_1, l0_2, a0_3, a0_4⟩ : Gm) l1 i).r) Fix6x2 :: blk gm_35 #[.slice Aix6x0 (((gs (⟨l0_0, l0_1, l0_2, a0_3, a0_4⟩ : Gm) l1 i).f).length) cix6x0, .slice Aix6x1 (((gs (⟨l0_0, l0_1, l0_2, a0_3, a0_4⟩ : Gm) l1 i).s).length) cix6x1, .slice Aix6x2 (((gs (⟨l0_0, l0_1, l0_2, a0_3, a0_4⟩ : Gm) l1 i).r).length) cix6x2, .int .i64 ((gs (⟨l0_0, l0_1, l0_2, a0_3, a0_4⟩ : Gm) l1 i).t), .int .i64 ((gs (⟨l0_0, l0_1, l0_2, a0_3, a0_4⟩ : Gm) l1 i).p)] 29 :: blk g_3 #[.slice none 0 0, .slice none 0 0, .slice none 0 0, .int .i64 0, .int .i64 0] 29 :: blk g_1 #[.slice A0_0 l0_0.length c0_0, .slice A0_1 l0_1.length c0_1, .slice A0_2 l0_2.length c0_2, .int .i64 a0_3, .int .i64 a0_4] 29 :: cs) _ := ⟨_, _, _, Hp.made3 hp hb rfl rfl rfl hR_106 hR_107 hR_108 (ok_apart hR_106 (fun k hk => hk)) (typed_apart hR_106 hR_108 (by decide)) (typed_apart hR_107 hR_108 (by decide))⟩
      refine sx_store (t := 29) (p := (.tmp 6)) (x := (.tmp 46)) (by rfl) (by rfl) 7 (by rfl) 0 [.slice A_112 (((stepM (gs (⟨l0_0, l0_1, l0_2, a0_3, a0_4⟩ : Gm) l1 i) (rdOf ByteArray.empty l1 (i : Int))).f).length) c_113, .slice A_115 (((stepM (gs (⟨l0_0, l0_1, l0_2, a0_3, a0_4⟩ : Gm) l1 i) (rdOf ByteArray.empty l1 (i : Int))).s).length) c_116, .slice A_118 (((stepM (gs (⟨l0_0, l0_1, l0_2, a0_3, a0_4⟩ : Gm) l1 i) (rdOf ByteArray.empty l1 (i : Int))).r).length) c_119, .int .i64 ((stepM (gs (⟨l0_0, l0_1, l0_2, a0_3, a0_4⟩ : Gm) l1 i) (rdOf ByteArray.empty l1 (i : Int))).t), .int .i64 ((stepM (gs (⟨l0_0, l0_1, l0_2, a0_3, a0_4⟩ : Gm) l1 i) (rdOf ByteArray.empty l1 (i : Int))).p)] (by rfl) (by rfl) (by kernel_rfl) (by simp [Value.oneCell']) (by show 5 ≤ 5; omega) #[.slice A_112 (((stepM (gs (⟨l0_0, l0_1, l0_2, a0_3, a0_4⟩ : Gm) l1 i) (rdOf ByteArray.empty l1 (i : Int))).f).length) c_113, .slice A_115 (((stepM (gs (⟨l0_0, l0_1, l0_2, a0_3, a0_4⟩ : Gm) l1 i) (rdOf ByteArray.empty l1 (i : Int))).s).length) c_116, .slice A_118 (((stepM (gs (⟨l0_0, l0_1, l0_2, a0_3, a0_4⟩ : Gm) l1 i) (rdOf ByteArray.empty l1 (i : Int))).r).length) c_119, .int .i64 ((stepM (gs (⟨l0_0, l0_1, l0_2, a0_3, a0_4⟩ : Gm) l1 i) (rdOf ByteArray.empty l1 (i : Int))).t), .int .i64 ((stepM (gs (⟨l0_0, l0_1, l0_2, a0_3, a0_4⟩ : Gm) l1 i) (rdOf ByteArray.empty l1 (i : Int))).p)] (by rfl) hp ?_
      intro W_122 hp; simp only [List.set_cons_succ, List.set_cons_zero] at hp
      refine sx_nil ?_
      refine ex_blk_n ?_
      refine ex_then_n ?_
      refine sx_region ?_
      refine sx_rd 47 (.int .i64 ((i : Int) + 1)) (by rfl) (wr_ok (by omega) (by kernel_rfl)) ?_
      refine sx_rd 34 (.int .i64 ((i : Int) + 1)) (by rfl) (by kernel_rfl) ?_
      refine sx_nil ?_
      refine ex_then_n ?_
      have hq_123 : (stepM (gs (⟨l0_0, l0_1, l0_2, a0_3, a0_4⟩ : Gm) l1 i) (rdOf ByteArray.empty l1 (i : Int))).f = (gs (⟨l0_0, l0_1, l0_2, a0_3, a0_4⟩ : Gm) l1 (i + 1)).f := rfl
      rw [hq_123] at hp
      have hq_124 : (stepM (gs (⟨l0_0, l0_1, l0_2, a0_3, a0_4⟩ : Gm) l1 i) (rdOf ByteArray.empty l1 (i : Int))).s = (gs (⟨l0_0, l0_1, l0_2, a0_3, a0_4⟩ : Gm) l1 (i + 1)).s := rfl
      rw [hq_124] at hp
      have hq_125 : (stepM (gs (⟨l0_0, l0_1, l0_2, a0_3, a0_4⟩ : Gm) l1 i) (rdOf ByteArray.empty l1 (i : Int))).r = (gs (⟨l0_0, l0_1, l0_2, a0_3, a0_4⟩ : Gm) l1 (i + 1)).r := rfl
      rw [hq_125] at hp
      have hq_126 : (stepM (gs (⟨l0_0, l0_1, l0_2, a0_3, a0_4⟩ : Gm) l1 i) (rdOf ByteArray.empty l1 (i : Int))).t = (gs (⟨l0_0, l0_1, l0_2, a0_3, a0_4⟩ : Gm) l1 (i + 1)).t := rfl
      rw [hq_126] at hp
      have hq_127 : (stepM (gs (⟨l0_0, l0_1, l0_2, a0_3, a0_4⟩ : Gm) l1 i) (rdOf ByteArray.empty l1 (i : Int))).p = (gs (⟨l0_0, l0_1, l0_2, a0_3, a0_4⟩ : Gm) l1 (i + 1)).p := rfl
      rw [hq_127] at hp
      exact ⟨_, (by omega), _, (i + 1), _, _, _, _, _, _, _, _, _, _, _, _, rfl, fr_front [(4, .pointer (some ⟨g_3, 0, none⟩)), (6, .pointer (some ⟨gm_35, 0, none⟩)), (32, .slice A1 l1.length c1), (33, .int .i64 (l1.length : Int)), (34, .int .i64 ((i + 1 : Nat) : Int))] ⟨rfl, rfl, rfl, rfl, rfl, trivial⟩, (hp.take [0, 1, 2, 7, 8, 9] 10 (by decide) (by simp)), (by omega), (allF_next hal (not_eq c_104))⟩
    ·
     have c_95p := of_decide_eq_false c_95
     refine wp_exit ?_
     refine ex_then_e (ex_then_e (ex_blk_here ?_))
     refine ex_then_n ?_
     refine wp_seq ?_
     refine sx_region ?_
     refine sx_rd 48 (.agg #[.slice Aix6x0 (((gs (⟨l0_0, l0_1, l0_2, a0_3, a0_4⟩ : Gm) l1 i).f).length) cix6x0, .slice Aix6x1 (((gs (⟨l0_0, l0_1, l0_2, a0_3, a0_4⟩ : Gm) l1 i).s).length) cix6x1, .slice Aix6x2 (((gs (⟨l0_0, l0_1, l0_2, a0_3, a0_4⟩ : Gm) l1 i).r).length) cix6x2, .int .i64 ((gs (⟨l0_0, l0_1, l0_2, a0_3, a0_4⟩ : Gm) l1 i).t), .int .i64 ((gs (⟨l0_0, l0_1, l0_2, a0_3, a0_4⟩ : Gm) l1 i).p)]) (by rfl) (ldn (t := 29) (p := (.tmp 6)) (by rfl) (by rfl) (by kernel_rfl) (by kernel_rfl) (by kernel_rfl) (hp.at_ 3 _ (by rfl))) ?_
     refine sx_store (t := 29) (p := (.tmp 4)) (x := (.tmp 48)) (by rfl) (by rfl) 4 (by rfl) 0 [.slice Aix6x0 (((gs (⟨l0_0, l0_1, l0_2, a0_3, a0_4⟩ : Gm) l1 i).f).length) cix6x0, .slice Aix6x1 (((gs (⟨l0_0, l0_1, l0_2, a0_3, a0_4⟩ : Gm) l1 i).s).length) cix6x1, .slice Aix6x2 (((gs (⟨l0_0, l0_1, l0_2, a0_3, a0_4⟩ : Gm) l1 i).r).length) cix6x2, .int .i64 ((gs (⟨l0_0, l0_1, l0_2, a0_3, a0_4⟩ : Gm) l1 i).t), .int .i64 ((gs (⟨l0_0, l0_1, l0_2, a0_3, a0_4⟩ : Gm) l1 i).p)] (by rfl) (by rfl) (by kernel_rfl) (by simp [Value.oneCell']) (by show 5 ≤ 5; omega) #[.slice Aix6x0 (((gs (⟨l0_0, l0_1, l0_2, a0_3, a0_4⟩ : Gm) l1 i).f).length) cix6x0, .slice Aix6x1 (((gs (⟨l0_0, l0_1, l0_2, a0_3, a0_4⟩ : Gm) l1 i).s).length) cix6x1, .slice Aix6x2 (((gs (⟨l0_0, l0_1, l0_2, a0_3, a0_4⟩ : Gm) l1 i).r).length) cix6x2, .int .i64 ((gs (⟨l0_0, l0_1, l0_2, a0_3, a0_4⟩ : Gm) l1 i).t), .int .i64 ((gs (⟨l0_0, l0_1, l0_2, a0_3, a0_4⟩ : Gm) l1 i).p)] (by rfl) hp ?_
     intro W_128 hp; simp only [List.set_cons_succ, List.set_cons_zero] at hp
     refine sx_rd 5 (.bool true) (by rfl) (by kernel_rfl) ?_
     refine sx_nil ?_
     refine ex_then_n ?_
     refine wp_ret ?_
     refine sx_end (.tuple #[.agg #[.slice Aix6x0 (((gs (⟨l0_0, l0_1, l0_2, a0_3, a0_4⟩ : Gm) l1 i).f).length) cix6x0, .slice Aix6x1 (((gs (⟨l0_0, l0_1, l0_2, a0_3, a0_4⟩ : Gm) l1 i).s).length) cix6x1, .slice Aix6x2 (((gs (⟨l0_0, l0_1, l0_2, a0_3, a0_4⟩ : Gm) l1 i).r).length) cix6x2, .int .i64 ((gs (⟨l0_0, l0_1, l0_2, a0_3, a0_4⟩ : Gm) l1 i).t), .int .i64 ((gs (⟨l0_0, l0_1, l0_2, a0_3, a0_4⟩ : Gm) l1 i).p)], .bool true]) (rescT (p := 4) (u := 5) (by rfl) (by rfl) (by kernel_rfl) (by kernel_rfl) (hp.at_ 4 _ (by rfl))) ?_
     obtain rfl : i = l1.length := by omega
     rw [if_pos ⟨hgB, by omega⟩] at h; unfold resPlay at h; rw [if_pos hal] at h; unfold Gm.out at h
     simp only [Option.some.injEq, Prod.mk.injEq] at h; obtain ⟨rfl, rfl, rfl, rfl, rfl, rfl⟩ := h
     exact ⟨_, _, _, rfl, Kd.R_mono (row_R (hp.at_ 0 _ (by rfl))) (fun k_ hk_ => Hp.apart_rows hp 0 1 (by decide) (by rfl) (by rfl) k_ hk_), Kd.R_mono (row_R (hp.at_ 1 _ (by rfl))) (fun k_ hk_ => Hp.apart_rows hp 1 0 (by decide) (by rfl) (by rfl) k_ hk_), Kd.R_mono (row_R (hp.at_ 2 _ (by rfl))) (fun _ _ => trivial), hc2 _ (hp.tail.tail.tail.tail.tail.tail)⟩
end Go.Proofs.YtkjaahmlnbgnjaaGreat.Hd
