/- impl.MostFives, by hand. -/
import Derived.Test.YtlphnpinpflaaaaMMostI
import Derived.Test.YtlphnpinpflaaaaPTile
import Derived.Test.YtlphnpinpflaaaaMHand
namespace Go.Proofs.Ytlphnpinpflaaaa.Pure
open Go.RowKit Go.Proofs.Ytlphnpinpflaaaa.Hd Go.Proofs.YtlphnpinpflaaaaW.PrintWords Go.Proofs.YtlphnpinpflaaaaW.PrintLast
set_option linter.unusedVariables false
set_option linter.unusedSimpArgs false
theorem isHand_ev (l : List S_Tile) : Ev (fun k => impl_IsHand.f k l) (handB l) := by
  unfold impl_IsHand.f handB
  by_cases h : l.length ≤ 55
  · rw [decide_eq_true h, Bool.true_and]
    refine Ev.pos (by omega) ?_
    by_cases g : l.all tileB = true
    · have g2 : l.all goodT = true := g
      rw [g2, Bool.true_and]
      exact Ev.pos g (areDif_ev l (by omega))
    · have g2 : l.all goodT = false := Bool.eq_false_iff.2 g
      rw [g2, Bool.false_and]
      exact Ev.neg g (Ev.ret rfl)
  · rw [decide_eq_false h, Bool.false_and]
    exact Ev.neg (by omega) (Ev.ret rfl)
end Go.Proofs.Ytlphnpinpflaaaa.Pure
namespace Go.Proofs.Ytlphnpinpflaaaa.Hd
open Go.RowKit Go.Proofs.Ytlphnpinpflaaaa.Pure Go.Proofs.YtlphnpinpflaaaaW.PrintWords Go.Proofs.YtlphnpinpflaaaaW.PrintLast Go.Proofs.YtlphnpinpflaaaaW.PrintMore
set_option linter.unusedVariables false
set_option linter.unusedSimpArgs false
def impl_MostFives.f (l : List S_Play) (hand : List S_Tile) : Option (List S_Play × Int × Bool) := if l.length ≤ 1048576 ∧ hand.length ≤ 1048576 then (match lyReadF l with | some s => if handB hand = true ∧ hand.length ≤ 5 then some ((walkS hand l.length 28 s l 0 ([], -1)).1, (walkS hand l.length 28 s l 0 ([], -1)).2, true) else some ([], 0, false) | none => some ([], 0, false)) else none
set_option maxRecDepth 100000 in
set_option maxHeartbeats 40000000 in
theorem impl_MostFives.calls (A0 : Option Addr) (c0 : Nat) (l0 : List S_Play) (A1 : Option Addr) (c1 : Nat) (l1 : List S_Tile) (r0 : List S_Play) (r1 : Int) (r2 : Bool) (w : World) (hr0 : Kd.C k53 w A0 l0.length l0) (hc0 : l0.length ≤ c0) (hr1 : Kd.C k51 w A1 l1.length l1) (hc1 : l1.length ≤ c1) (h : impl_MostFives.f l0 l1 = some (r0, r1, r2)) :
    Calls Try.prog 43 #[.slice A0 l0.length c0, .slice A1 l1.length c1] w fun e w' => ∃ v0_ : Value, e = .returned (.tuple #[v0_, .int .i64 r1, .bool r2]) ∧ Kd.R k53 53 w' w.heap.size (fun _ => True) v0_ r0 ∧ Below w.heap.size w w' := by
  unfold impl_MostFives.f at h
  by_cases hsz : l0.length ≤ 1048576 ∧ l1.length ≤ 1048576
  · rw [if_pos hsz] at h
    obtain ⟨hlen, hlen1⟩ := hsz
    obtain ⟨cs, hcs⟩ : ∃ cs, cs = [old w w.heap.size] := ⟨_, rfl⟩
    have hp : Hp w cs w := by rw [hcs]; exact Hp.old_start w
    have hc2 : ∀ W, Hp w cs W → Below w.heap.size w W := fun W h => by rw [hcs] at h; exact h.since 0 _ rfl
    have hC0 : ∀ W, Hp w cs W → Kd.C k53 W A0 l0.length l0 := fun W h => Kd.C_below hr0 (hc2 W h)
    have hC1 : ∀ W, Hp w cs W → Kd.C k51 W A1 l1.length l1 := fun W h => Kd.C_below hr1 (hc2 W h)
    clear hcs
    cases hf : lyReadF l0 with
    | none =>
      rw [hf] at h; dsimp only at h
      refine sx_enter (N := 31) (l := [.slice A0 l0.length c0, .slice A1 l1.length c1]) Try.func43 rfl rfl rfl ?_
      refine wp_seq ?_
      refine sx_region ?_
      refine sx_box 2 hp #[.slice A0 l0.length c0] 26 (by rfl) (fun W => by kernel_rfl) ?_
      intro g_1 W_2 hp
      refine sx_box 3 hp #[.slice A1 l1.length c1] 44 (by rfl) (fun W => by kernel_rfl) ?_
      intro g_3 W_4 hp
      refine sx_rd 4 (.slice none 0 0) (by rfl) (by kernel_rfl) ?_
      refine sx_rd 5 (.int .i64 0) (by rfl) (by kernel_rfl) ?_
      refine sx_rd 6 (.bool false) (by rfl) (by kernel_rfl) ?_
      refine sx_nil ?_
      refine ex_then_n ?_
      refine wp_seq ?_
      refine wp_seq ?_
      refine sx_region ?_
      refine sx_rd 10 (.slice A0 l0.length c0) (by rfl) (ld1 (t := 26) (p := (.tmp 2)) (by rfl) (by rfl) (by kernel_rfl) (hp.cell 1 (by rfl) 0 _ (by rfl))) ?_
      refine sx_call 11 (by rfl) (by kernel_rfl) ((impl_IsSpread.calls A0 c0 l0 _ _ (hC0 _ hp.tail.tail) hc0 (by rw [isSpread_eq, hf] <;> rfl)).mono ?_)
      rintro _ W_5 ⟨rfl, hb⟩
      refine ⟨_, rfl, ?_⟩
      replace hp := hp.below hb
      clear hb
      refine sx_rd 12 (.bool true) (by rfl) (by kernel_rfl) ?_
      refine sx_rd 13 (.bool true) (by rfl) (by kernel_rfl) ?_
      refine sx_skip 14 (by rfl) (by rfl) (by rfl) ?_
      refine sx_skip 15 (by rfl) (by rfl) (by rfl) ?_
      refine sx_skip 16 (by rfl) (by rfl) (by rfl) ?_
      refine sx_rd 17 (.bool true) (by rfl) (by kernel_rfl) ?_
      refine sx_rd 18 (.bool true) (by rfl) (by kernel_rfl) ?_
      refine sx_skip 19 (by rfl) (by rfl) (by rfl) ?_
      refine sx_skip 20 (by rfl) (by rfl) (by rfl) ?_
      refine sx_skip 21 (by rfl) (by rfl) (by rfl) ?_
      refine sx_rd 22 (.bool true) (by rfl) (by kernel_rfl) ?_
      refine sx_nil ?_
      refine ex_then_n ?_
      refine sx_then true (by rfl) rfl ?_
      refine wp_seq ?_
      refine sx_region ?_
      refine sx_rd 4 (.slice none 0 0) (by rfl) (by kernel_rfl) ?_
      refine sx_rd 5 (.int .i64 0) (by rfl) (by kernel_rfl) ?_
      refine sx_rd 6 (.bool false) (by rfl) (by kernel_rfl) ?_
      refine sx_nil ?_
      refine ex_then_n ?_
      refine wp_ret ?_
      refine ex_then_r ?_
      refine sx_end (.tuple #[.slice none 0 0, .int .i64 0, .bool false]) (res3 4 5 6 (by rfl)) ?_
      simp only [Option.some.injEq, Prod.mk.injEq] at h; obtain ⟨rfl, rfl, rfl⟩ := h
      exact ⟨_, rfl, Kd.R_nil _ _ _ _ _, hc2 _ (hp.tail.tail)⟩
    | some s =>
      rw [hf] at h; dsimp only at h
      obtain ⟨hok, hl28⟩ := lyOk_read hf
      refine sx_enter (N := 31) (l := [.slice A0 l0.length c0, .slice A1 l1.length c1]) Try.func43 rfl rfl rfl ?_
      refine wp_seq ?_
      refine sx_region ?_
      refine sx_box 2 hp #[.slice A0 l0.length c0] 26 (by rfl) (fun W => by kernel_rfl) ?_
      intro g_1 W_2 hp
      refine sx_box 3 hp #[.slice A1 l1.length c1] 44 (by rfl) (fun W => by kernel_rfl) ?_
      intro g_3 W_4 hp
      refine sx_rd 4 (.slice none 0 0) (by rfl) (by kernel_rfl) ?_
      refine sx_rd 5 (.int .i64 0) (by rfl) (by kernel_rfl) ?_
      refine sx_rd 6 (.bool false) (by rfl) (by kernel_rfl) ?_
      refine sx_nil ?_
      refine ex_then_n ?_
      refine wp_seq ?_
      refine wp_seq ?_
      rcases Bool.eq_false_or_eq_true (!(handB l1)) with c_5 | c_5
      ·
        refine sx_region ?_
        refine sx_rd 10 (.slice A0 l0.length c0) (by rfl) (ld1 (t := 26) (p := (.tmp 2)) (by rfl) (by rfl) (by kernel_rfl) (hp.cell 1 (by rfl) 0 _ (by rfl))) ?_
        refine sx_call 11 (by rfl) (by kernel_rfl) ((impl_IsSpread.calls A0 c0 l0 _ _ (hC0 _ hp.tail.tail) hc0 (by rw [isSpread_eq, hf] <;> rfl)).mono ?_)
        rintro _ W_6 ⟨rfl, hb⟩
        refine ⟨_, rfl, ?_⟩
        replace hp := hp.below hb
        clear hb
        refine sx_rd 12 (.bool false) (by rfl) (by kernel_rfl) ?_
        refine sx_rd 13 (.bool false) (by rfl) (by kernel_rfl) ?_
        refine sx_want (by rfl) ?_
        refine sx_rd 14 (.slice A1 l1.length c1) (by rfl) (ld1 (t := 44) (p := (.tmp 3)) (by rfl) (by rfl) (by kernel_rfl) (hp.cell 0 (by rfl) 0 _ (by rfl))) ?_
        refine sx_want (by rfl) ?_
        obtain ⟨k_7, hk_k_7⟩ := Ev.rounds (isHand_ev l1)
        refine sx_call 15 (by rfl) (by kernel_rfl) ((impl_IsHand.calls k_7 A1 c1 l1 _ _ (hC1 _ hp.tail.tail) hc1 hk_k_7).mono ?_)
        rintro _ W_8 ⟨rfl, hb⟩
        refine ⟨.bool false, congrArg (fun b => Ending.returned (.bool b)) (not_eq c_5), ?_⟩
        replace hp := hp.below hb
        clear hb
        refine sx_want (by rfl) ?_
        refine sx_rd 16 (.bool true) (by rfl) (by kernel_rfl) ?_
        refine sx_rd 17 (.bool true) (by rfl) (by kernel_rfl) ?_
        refine sx_rd 18 (.bool true) (by rfl) (by kernel_rfl) ?_
        refine sx_skip 19 (by rfl) (by rfl) (by rfl) ?_
        refine sx_skip 20 (by rfl) (by rfl) (by rfl) ?_
        refine sx_skip 21 (by rfl) (by rfl) (by rfl) ?_
        refine sx_rd 22 (.bool true) (by rfl) (by kernel_rfl) ?_
        refine sx_nil ?_
        refine ex_then_n ?_
        refine sx_then true (by rfl) rfl ?_
        refine wp_seq ?_
        refine sx_region ?_
        refine sx_rd 4 (.slice none 0 0) (by rfl) (by kernel_rfl) ?_
        refine sx_rd 5 (.int .i64 0) (by rfl) (by kernel_rfl) ?_
        refine sx_rd 6 (.bool false) (by rfl) (by kernel_rfl) ?_
        refine sx_nil ?_
        refine ex_then_n ?_
        refine wp_ret ?_
        refine ex_then_r ?_
        refine sx_end (.tuple #[.slice none 0 0, .int .i64 0, .bool false]) (res3 4 5 6 (by rfl)) ?_
        rw [if_neg (fun q => by have q1 := q.1; rw [(not_eq c_5)] at q1; cases q1)] at h
        simp only [Option.some.injEq, Prod.mk.injEq] at h; obtain ⟨rfl, rfl, rfl⟩ := h
        exact ⟨_, rfl, Kd.R_nil _ _ _ _ _, hc2 _ (hp.tail.tail)⟩
      ·
        refine sx_region ?_
        refine sx_rd 10 (.slice A0 l0.length c0) (by rfl) (ld1 (t := 26) (p := (.tmp 2)) (by rfl) (by rfl) (by kernel_rfl) (hp.cell 1 (by rfl) 0 _ (by rfl))) ?_
        refine sx_call 11 (by rfl) (by kernel_rfl) ((impl_IsSpread.calls A0 c0 l0 _ _ (hC0 _ hp.tail.tail) hc0 (by rw [isSpread_eq, hf] <;> rfl)).mono ?_)
        rintro _ W_9 ⟨rfl, hb⟩
        refine ⟨_, rfl, ?_⟩
        replace hp := hp.below hb
        clear hb
        refine sx_rd 12 (.bool false) (by rfl) (by kernel_rfl) ?_
        refine sx_rd 13 (.bool false) (by rfl) (by kernel_rfl) ?_
        refine sx_want (by rfl) ?_
        refine sx_rd 14 (.slice A1 l1.length c1) (by rfl) (ld1 (t := 44) (p := (.tmp 3)) (by rfl) (by rfl) (by kernel_rfl) (hp.cell 0 (by rfl) 0 _ (by rfl))) ?_
        refine sx_want (by rfl) ?_
        obtain ⟨k_10, hk_k_10⟩ := Ev.rounds (isHand_ev l1)
        refine sx_call 15 (by rfl) (by kernel_rfl) ((impl_IsHand.calls k_10 A1 c1 l1 _ _ (hC1 _ hp.tail.tail) hc1 hk_k_10).mono ?_)
        rintro _ W_11 ⟨rfl, hb⟩
        refine ⟨.bool true, congrArg (fun b => Ending.returned (.bool b)) (not_eq c_5), ?_⟩
        replace hp := hp.below hb
        clear hb
        refine sx_want (by rfl) ?_
        refine sx_rd 16 (.bool false) (by rfl) (by kernel_rfl) ?_
        refine sx_rd 17 (.bool false) (by rfl) (by kernel_rfl) ?_
        refine sx_rd 18 (.bool false) (by rfl) (by kernel_rfl) ?_
        refine sx_want (by rfl) ?_
        refine sx_rd 19 (.slice A1 l1.length c1) (by rfl) (ld1 (t := 44) (p := (.tmp 3)) (by rfl) (by rfl) (by kernel_rfl) (hp.cell 0 (by rfl) 0 _ (by rfl))) ?_
        refine sx_want (by rfl) ?_
        refine sx_rd 20 (.int .i64 (l1.length : Int)) (by rfl) (by kernel_rfl) ?_
        refine sx_want (by rfl) ?_
        refine sx_rd 21 (.bool (decide ((l1.length : Int) > 5))) (by rfl) (by kernel_rfl) ?_
        refine sx_rd 22 (.bool (decide ((l1.length : Int) > 5))) (by rfl) (by kernel_rfl) ?_
        refine sx_nil ?_
        refine ex_then_n ?_
        refine sx_cond (decide ((l1.length : Int) > 5)) (by rfl) (fun c_12 => ?_) (fun c_12 => ?_)
        ·
          have c_12p := of_decide_eq_true c_12
          refine wp_seq ?_
          refine sx_region ?_
          refine sx_rd 4 (.slice none 0 0) (by rfl) (by kernel_rfl) ?_
          refine sx_rd 5 (.int .i64 0) (by rfl) (by kernel_rfl) ?_
          refine sx_rd 6 (.bool false) (by rfl) (by kernel_rfl) ?_
          refine sx_nil ?_
          refine ex_then_n ?_
          refine wp_ret ?_
          refine ex_then_r ?_
          refine sx_end (.tuple #[.slice none 0 0, .int .i64 0, .bool false]) (res3 4 5 6 (by rfl)) ?_
          rw [if_neg (fun q => by have := q.2; omega)] at h
          simp only [Option.some.injEq, Prod.mk.injEq] at h; obtain ⟨rfl, rfl, rfl⟩ := h
          exact ⟨_, rfl, Kd.R_nil _ _ _ _ _, hc2 _ (hp.tail.tail)⟩
        ·
          have c_12p := of_decide_eq_false c_12
          refine wp_skip ?_
          refine ex_then_n ?_
          refine wp_seq ?_
          refine sx_region ?_
          refine sx_lit 23 (by rfl) k53 w.heap.size 53 ([] : List S_Play) [] (fun W => by kernel_rfl) (Reps.none _ _) (by simp) hp.size hp ?_
          intro g_13 F_14 W_15 hp hz; clear hz
          refine sx_box 7 hp #[.slice none 0 0] 26 (by rfl) (fun W => by kernel_rfl) ?_
          intro g_16 W_17 hp
          refine sx_box 8 hp #[.int .i64 0] 3 (by rfl) (fun W => by kernel_rfl) ?_
          intro g_18 W_19 hp
          refine sx_store (t := 26) (p := (.tmp 7)) (x := (.tmp 23)) (by rfl) (by rfl) 1 (by rfl) 0 [.slice (some ⟨g_13, 0, none⟩) (([] : List S_Play).length) (([] : List S_Play).length)] (by rfl) (by rfl) (by kernel_rfl) (by simp [Value.oneCell']) (by show 1 ≤ 1; omega) #[.slice (some ⟨g_13, 0, none⟩) (([] : List S_Play).length) (([] : List S_Play).length)] (by rfl) hp ?_
          intro W_20 hp; simp only [List.set_cons_succ, List.set_cons_zero] at hp
          refine sx_store (t := 3) (p := (.tmp 8)) (x := (.const (Go.Value.int Go.IntKind.i64 (-1)))) (by rfl) (by rfl) 0 (by rfl) 0 [.int .i64 (-1)] (by rfl) (by rfl) (by kernel_rfl) (by simp [Value.oneCell']) (by show 1 ≤ 1; omega) #[.int .i64 (-1)] (by rfl) hp ?_
          intro W_21 hp; simp only [List.set_cons_succ, List.set_cons_zero] at hp
          refine sx_nil ?_
          refine ex_then_n ?_
          refine wp_seq ?_
          refine sx_region ?_
          refine sx_box 9 hp #[.nilFunc] 97 (by rfl) (fun W => by kernel_rfl) ?_
          intro g_22 W_23 hp
          refine sx_nil ?_
          refine ex_then_n ?_
          refine wp_seq ?_
          refine sx_region ?_
          refine sx_rd 24 (.func (.func 70) #[] #[.pointer (some ⟨g_18, 0, none⟩), .pointer (some ⟨g_1, 0, none⟩), .pointer (some ⟨g_16, 0, none⟩), .pointer (some ⟨g_3, 0, none⟩), .pointer (some ⟨g_22, 0, none⟩)]) (by rfl) (by kernel_rfl) ?_
          refine sx_store (t := 97) (p := (.tmp 9)) (x := (.tmp 24)) (by rfl) (by rfl) 0 (by rfl) 0 [.func (.func 70) #[] #[.pointer (some ⟨g_18, 0, none⟩), .pointer (some ⟨g_1, 0, none⟩), .pointer (some ⟨g_16, 0, none⟩), .pointer (some ⟨g_3, 0, none⟩), .pointer (some ⟨g_22, 0, none⟩)]] (by rfl) (by rfl) (by kernel_rfl) (by simp [Value.oneCell']) (by show 1 ≤ 1; omega) #[.func (.func 70) #[] #[.pointer (some ⟨g_18, 0, none⟩), .pointer (some ⟨g_1, 0, none⟩), .pointer (some ⟨g_16, 0, none⟩), .pointer (some ⟨g_3, 0, none⟩), .pointer (some ⟨g_22, 0, none⟩)]] (by rfl) hp ?_
          intro W_24 hp; simp only [List.set_cons_succ, List.set_cons_zero] at hp
          refine sx_nil ?_
          refine ex_then_n ?_
          refine wp_seq ?_
          refine sx_drawT [] (.rd 0 (.rd 1 (.alt 2 (.fin) .non))) 3 (C := Hp w (blk g_22 #[.func (.func 70) #[] #[.pointer (some ⟨g_18, 0, none⟩), .pointer (some ⟨g_1, 0, none⟩), .pointer (some ⟨g_16, 0, none⟩), .pointer (some ⟨g_3, 0, none⟩), .pointer (some ⟨g_22, 0, none⟩)]] 97 :: blk g_18 #[.int .i64 (-1)] 3 :: blk g_16 #[.slice (some ⟨g_13, 0, none⟩) (([] : List S_Play).length) (([] : List S_Play).length)] 26 :: row k53 53 w.heap.size (.slice (some ⟨g_13, 0, none⟩) (([] : List S_Play).length) (([] : List S_Play).length)) ([] : List S_Play) F_14 :: blk g_3 #[.slice A1 l1.length c1] 44 :: blk g_1 #[.slice A0 l0.length c0] 26 :: cs)) (by kernel_rfl) (by kernel_rfl) (fun d _ _ _ _ h => by cases d <;> exact h) (fun W h => h.drew) hp ?_
          refine preI_nil ?_
          intro W_25 hp
          refine treeI_rd rfl ?_
          refine sxq_val 25 (.func (.func 70) #[] #[.pointer (some ⟨g_18, 0, none⟩), .pointer (some ⟨g_1, 0, none⟩), .pointer (some ⟨g_16, 0, none⟩), .pointer (some ⟨g_3, 0, none⟩), .pointer (some ⟨g_22, 0, none⟩)]) (by rfl) (fun W hp => (ld1 (t := 97) (p := (.tmp 9)) (by rfl) (by rfl) (by kernel_rfl) (hp.cell 0 (by rfl) 0 _ (by rfl)))) ?_
          refine sxq_nil ?_
          refine treeI_rd rfl ?_
          refine sxq_val 26 (.slice A0 l0.length c0) (by rfl) (fun W hp => (ld1 (t := 26) (p := (.tmp 2)) (by rfl) (by rfl) (by kernel_rfl) (hp.cell 5 (by rfl) 0 _ (by rfl)))) ?_
          refine sxq_nil ?_
          refine treeI_ev rfl ?_
          refine sx_call 27 (by rfl) (by kernel_rfl) ((slices_Clone_impl_Play_impl_Play.calls A0 c0 l0 _ _ (hC0 _ hp.tail.tail.tail.tail.tail.tail) hc0 (clone_playeq l0 (by omega))).mono ?_)
          rintro _ W_31 ⟨v_27, rfl, hR_26, hb⟩
          refine ⟨_, rfl, ?_⟩
          obtain ⟨A_28, c_29, rfl, hcc_c_29, _⟩ := Kd.R_reads hR_26
          obtain ⟨F_30, hp⟩ : ∃ F, Hp w (row k53 53 w.heap.size (.slice A_28 l0.length c_29) l0 F :: blk g_22 #[.func (.func 70) #[] #[.pointer (some ⟨g_18, 0, none⟩), .pointer (some ⟨g_1, 0, none⟩), .pointer (some ⟨g_16, 0, none⟩), .pointer (some ⟨g_3, 0, none⟩), .pointer (some ⟨g_22, 0, none⟩)]] 97 :: blk g_18 #[.int .i64 (-1)] 3 :: blk g_16 #[.slice (some ⟨g_13, 0, none⟩) (([] : List S_Play).length) (([] : List S_Play).length)] 26 :: row k53 53 w.heap.size (.slice (some ⟨g_13, 0, none⟩) (([] : List S_Play).length) (([] : List S_Play).length)) ([] : List S_Play) F_14 :: blk g_3 #[.slice A1 l1.length c1] 44 :: blk g_1 #[.slice A0 l0.length c0] 26 :: cs) _ := ⟨_, Hp.made hp hb hR_26⟩
          refine step_fin hp.tail ?_
          refine treeI_fin ?_
          refine tail_of [3] (by rfl) ?_
          refine tailI_op rfl ?_
          refine sx_call 28 (by rfl) (by kernel_rfl) ((most_sx g_18 g_1 g_16 g_3 g_22 A0 A1 c0 c1 l0 l1 hlen1 hc1 (show handB l1 = true from by have q := (not_eq c_5); simpa using q) 28 w _ (row k53 53 w.heap.size (.slice A_28 l0.length c_29) l0 F_30 :: cs) s l0 A_28 c_29 0 hf (by omega) (Nat.le_refl _) (by omega) (row_len (hp.at_ 0 _ (by rfl))).2 (fun W h => row_C (h.at_ 0 _ (by rfl))) (fun W h => hC1 W h.tail) (([] : List S_Play), (-1 : Int)) (some ⟨g_13, 0, none⟩) (([] : List S_Play).length) F_14 (hp.take [2, 3, 4, 6, 5, 1, 0] 7 (by decide) (by simp))).mono ?_)
          rintro _ W_32 ⟨Ab2, cb2, Fb2, rfl, hp⟩
          refine ⟨_, rfl, ?_⟩
          refine tailI_next ?_
          refine tailI_nil ?_
          refine ex_then_n ?_
          refine wp_seq ?_
          refine sx_drawT [] (.rd 0 (.rd 1 (.rd 2 (.rd 3 (.rd 4 (.fin)))))) 5 (C := Hp w (blk g_18 #[.int .i64 ((walkS l1 l0.length 28 s l0 0 (([] : List S_Play), (-1 : Int))).2)] 3 :: blk g_16 #[.slice Ab2 ((walkS l1 l0.length 28 s l0 0 (([] : List S_Play), (-1 : Int))).1.length) cb2] 26 :: row k53 53 w.heap.size (.slice Ab2 ((walkS l1 l0.length 28 s l0 0 (([] : List S_Play), (-1 : Int))).1.length) cb2) ((walkS l1 l0.length 28 s l0 0 (([] : List S_Play), (-1 : Int))).1) Fb2 :: blk g_1 #[.slice A0 l0.length c0] 26 :: blk g_3 #[.slice A1 l1.length c1] 44 :: blk g_22 #[.func (.func 70) #[] #[.pointer (some ⟨g_18, 0, none⟩), .pointer (some ⟨g_1, 0, none⟩), .pointer (some ⟨g_16, 0, none⟩), .pointer (some ⟨g_3, 0, none⟩), .pointer (some ⟨g_22, 0, none⟩)]] 97 :: row k53 53 w.heap.size (.slice A_28 l0.length c_29) l0 F_30 :: cs)) (by kernel_rfl) (by kernel_rfl) (fun d _ _ _ _ h => by cases d <;> exact h) (fun W h => h.drew) hp ?_
          refine preI_nil ?_
          intro W_33 hp
          refine treeI_rd rfl ?_
          refine sxq_val 29 (.slice Ab2 ((walkS l1 l0.length 28 s l0 0 (([] : List S_Play), (-1 : Int))).1.length) cb2) (by rfl) (fun W hp => (ld1 (t := 26) (p := (.tmp 7)) (by rfl) (by rfl) (by kernel_rfl) (hp.cell 1 (by rfl) 0 _ (by rfl)))) ?_
          refine sxq_nil ?_
          refine treeI_rd rfl ?_
          refine sxq_val 30 (.int .i64 ((walkS l1 l0.length 28 s l0 0 (([] : List S_Play), (-1 : Int))).2)) (by rfl) (fun W hp => (ld1 (t := 3) (p := (.tmp 8)) (by rfl) (by rfl) (by kernel_rfl) (hp.cell 0 (by rfl) 0 _ (by rfl)))) ?_
          refine sxq_nil ?_
          refine treeI_rd rfl ?_
          refine sxq_val 4 (.slice Ab2 ((walkS l1 l0.length 28 s l0 0 (([] : List S_Play), (-1 : Int))).1.length) cb2) (by rfl) (fun W hp => (by kernel_rfl)) ?_
          refine sxq_nil ?_
          refine treeI_rd rfl ?_
          refine sxq_val 5 (.int .i64 ((walkS l1 l0.length 28 s l0 0 (([] : List S_Play), (-1 : Int))).2)) (by rfl) (fun W hp => (by kernel_rfl)) ?_
          refine sxq_nil ?_
          refine treeI_rd rfl ?_
          refine sxq_val 6 (.bool true) (by rfl) (fun W hp => (by kernel_rfl)) ?_
          refine sxq_nil ?_
          refine treeI_fin ?_
          refine sx_nil ?_
          refine ex_then_n ?_
          refine wp_ret ?_
          refine sx_end (.tuple #[.slice Ab2 ((walkS l1 l0.length 28 s l0 0 (([] : List S_Play), (-1 : Int))).1.length) cb2, .int .i64 ((walkS l1 l0.length 28 s l0 0 (([] : List S_Play), (-1 : Int))).2), .bool true]) (res3 4 5 6 (by rfl)) ?_
          rw [if_pos ⟨(show handB l1 = true from by have q := (not_eq c_5); simpa using q), by omega⟩] at h
          simp only [Option.some.injEq, Prod.mk.injEq] at h; obtain ⟨rfl, rfl, rfl⟩ := h
          exact ⟨_, rfl, Kd.R_mono (row_R (hp.at_ 2 _ (by rfl))) (fun _ _ => trivial), hc2 _ (hp.tail.tail.tail.tail.tail.tail.tail)⟩
  · rw [if_neg hsz] at h
    cases h
end Go.Proofs.Ytlphnpinpflaaaa.Hd
