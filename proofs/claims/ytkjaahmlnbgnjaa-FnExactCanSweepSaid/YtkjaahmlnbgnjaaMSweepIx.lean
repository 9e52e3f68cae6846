/- impl.CanSweep, by hand. -/
import Derived.Test.YtkjaahmlnbgnjaaMSweeps
import Derived.Test.YtkjaahmlnbgnjaaPSweepC
import Derived.Test.YtkjaahmlnbgnjaaPGame
import Derived.Test.YtkjaahmlnbgnjaaMFitting
import Derived.Test.YtkjaahmlnbgnjaaPGames
import Derived.Test.YtkjaahmlnbgnjaaMSx3
namespace Go.Proofs.Ytkjaahmlnbgnjaa.Hd
open Go.RowKit Go.Proofs.Ytkjaahmlnbgnjaa.Pure Go.Proofs.YtkjaahmlnbgnjaaW.PrintWords Go.Proofs.YtkjaahmlnbgnjaaW.PrintLast Go.Proofs.YtkjaahmlnbgnjaaW.PrintMore
set_option linter.unusedVariables false
set_option linter.unusedSimpArgs false
set_option maxRecDepth 100000 in
set_option maxHeartbeats 40000000 in
theorem gameOwn_sx (A0_0 : Option Addr) (c0_0 : Nat) (l0_0 : List S_Tile) (A0_1 : Option Addr) (c0_1 : Nat) (l0_1 : List S_Tile) (A0_2 : Option Addr) (c0_2 : Nat) (l0_2 : List Int) (a0_3 : Int) (a0_4 : Int) (v : Value) (w : World) (hr0_0 : Kd.C k79 w A0_0 l0_0.length l0_0) (hc0_0 : l0_0.length ≤ c0_0) (hr0_1 : Kd.C k79 w A0_1 l0_1.length l0_1) (hc0_1 : l0_1.length ≤ c0_1) (hr0_2 : Kd.C (Kd.int .i64) w A0_2 l0_2.length l0_2) (hc0_2 : l0_2.length ≤ c0_2) (hv0 : (a0_3 == 0) = true → v = .slice A0_0 l0_0.length c0_0) (hv1 : (a0_3 == 0) = false → v = .slice A0_1 l0_1.length c0_1) :
    Calls Try.prog 53 #[.agg #[.slice A0_0 l0_0.length c0_0, .slice A0_1 l0_1.length c0_1, .slice A0_2 l0_2.length c0_2, .int .i64 a0_3, .int .i64 a0_4]] w fun e w' => e = .returned v ∧ Below w.heap.size w w' := by
  obtain ⟨cs, hcs⟩ : ∃ cs, cs = [old w w.heap.size] := ⟨_, rfl⟩
  have hp : Hp w cs w := by rw [hcs]; exact Hp.old_start w
  have hc2 : ∀ W, Hp w cs W → Below w.heap.size w W := fun W h => by rw [hcs] at h; exact h.since 0 _ rfl
  have hC0_0 : ∀ W, Hp w cs W → Kd.C k79 W A0_0 l0_0.length l0_0 := fun W h => Kd.C_below hr0_0 (hc2 W h)
  have hC0_1 : ∀ W, Hp w cs W → Kd.C k79 W A0_1 l0_1.length l0_1 := fun W h => Kd.C_below hr0_1 (hc2 W h)
  have hC0_2 : ∀ W, Hp w cs W → Kd.C (Kd.int .i64) W A0_2 l0_2.length l0_2 := fun W h => Kd.C_below hr0_2 (hc2 W h)
  clear hcs
  refine sx_enter (N := 10) (l := [.agg #[.slice A0_0 l0_0.length c0_0, .slice A0_1 l0_1.length c0_1, .slice A0_2 l0_2.length c0_2, .int .i64 a0_3, .int .i64 a0_4]]) Try.func53 rfl rfl rfl ?_
  refine wp_seq ?_
  refine sx_region ?_
  refine sx_box 1 hp #[.slice A0_0 l0_0.length c0_0, .slice A0_1 l0_1.length c0_1, .slice A0_2 l0_2.length c0_2, .int .i64 a0_3, .int .i64 a0_4] 41 (by rfl) (fun W => by kernel_rfl) ?_
  intro g_1 W_2 hp
  refine sx_rd 2 (.slice none 0 0) (by rfl) (by kernel_rfl) ?_
  refine sx_nil ?_
  refine ex_then_n ?_
  refine wp_seq ?_
  refine wp_seq ?_
  refine sx_region ?_
  refine sx_rd 3 (.pointer (some ⟨g_1, 3, none⟩)) (by rfl) (by kernel_rfl) ?_
  refine sx_rd 4 (.int .i64 a0_3) (by rfl) (ld1 (t := 3) (p := (.tmp 3)) (by rfl) (by rfl) (by kernel_rfl) (hp.cell 0 (by rfl) 3 _ (by rfl))) ?_
  refine sx_rd 5 (.bool (a0_3 == 0)) (by rfl) (by kernel_rfl) ?_
  refine sx_nil ?_
  refine ex_then_n ?_
  refine sx_cond (a0_3 == 0) (by rfl) (fun c_3 => ?_) (fun c_3 => ?_)
  ·
    have c_3p := eq_of_beq_ c_3
    refine wp_seq ?_
    refine sx_region ?_
    refine sx_rd 6 (.pointer (some ⟨g_1, 0, none⟩)) (by rfl) (by kernel_rfl) ?_
    refine sx_rd 7 (.slice A0_0 l0_0.length c0_0) (by rfl) (ld1 (t := 39) (p := (.tmp 6)) (by rfl) (by rfl) (by kernel_rfl) (hp.cell 0 (by rfl) 0 _ (by rfl))) ?_
    refine sx_rd 2 (.slice A0_0 l0_0.length c0_0) (by rfl) (by kernel_rfl) ?_
    refine sx_nil ?_
    refine ex_then_n ?_
    refine wp_ret ?_
    refine ex_then_r ?_
    refine sx_end (.slice A0_0 l0_0.length c0_0) (res1 2 (by rfl)) ?_
    exact ⟨congrArg Ending.returned (hv0 c_3).symm, hc2 _ (hp.tail)⟩
  ·
    have c_3p := ne_of_beq_ c_3
    refine wp_skip ?_
    refine ex_then_n ?_
    refine wp_seq ?_
    refine sx_region ?_
    refine sx_rd 8 (.pointer (some ⟨g_1, 1, none⟩)) (by rfl) (by kernel_rfl) ?_
    refine sx_rd 9 (.slice A0_1 l0_1.length c0_1) (by rfl) (ld1 (t := 39) (p := (.tmp 8)) (by rfl) (by rfl) (by kernel_rfl) (hp.cell 0 (by rfl) 1 _ (by rfl))) ?_
    refine sx_rd 2 (.slice A0_1 l0_1.length c0_1) (by rfl) (by kernel_rfl) ?_
    refine sx_nil ?_
    refine ex_then_n ?_
    refine wp_ret ?_
    refine sx_end (.slice A0_1 l0_1.length c0_1) (res1 2 (by rfl)) ?_
    exact ⟨congrArg Ending.returned (hv1 c_3).symm, hc2 _ (hp.tail)⟩
end Go.Proofs.Ytkjaahmlnbgnjaa.Hd
namespace Go.Proofs.Ytkjaahmlnbgnjaa.Hd
open Go.RowKit Go.Proofs.Ytkjaahmlnbgnjaa.Pure Go.Proofs.YtkjaahmlnbgnjaaW.PrintWords Go.Proofs.YtkjaahmlnbgnjaaW.PrintLast Go.Proofs.YtkjaahmlnbgnjaaW.PrintMore
set_option linter.unusedVariables false
set_option linter.unusedSimpArgs false
def impl_CanSweep.f (f s : List S_Tile) (r : List Int) (t p : Int) : Option (Bool × Bool) := if f.length ≤ 1048576 ∧ s.length ≤ 1048576 ∧ r.length ≤ 1048576 then some (resCanSweep f s r t p) else none
set_option maxRecDepth 100000 in
set_option maxHeartbeats 40000000 in
theorem impl_CanSweep.calls (A0_0 : Option Addr) (c0_0 : Nat) (l0_0 : List S_Tile) (A0_1 : Option Addr) (c0_1 : Nat) (l0_1 : List S_Tile) (A0_2 : Option Addr) (c0_2 : Nat) (l0_2 : List Int) (a0_3 : Int) (a0_4 : Int) (r0 : Bool) (r1 : Bool) (w : World) (hr0_0 : Kd.C k79 w A0_0 l0_0.length l0_0) (hc0_0 : l0_0.length ≤ c0_0) (hr0_1 : Kd.C k79 w A0_1 l0_1.length l0_1) (hc0_1 : l0_1.length ≤ c0_1) (hr0_2 : Kd.C (Kd.int .i64) w A0_2 l0_2.length l0_2) (hc0_2 : l0_2.length ≤ c0_2) (h : impl_CanSweep.f l0_0 l0_1 l0_2 a0_3 a0_4 = some (r0, r1)) :
  Calls Try.prog 20 #[.agg #[.slice A0_0 l0_0.length c0_0, .slice A0_1 l0_1.length c0_1, .slice A0_2 l0_2.length c0_2, .int .i64 a0_3, .int .i64 a0_4]] w fun e w' => e = .returned (.tuple #[.bool r0, .bool r1]) ∧ Below w.heap.size w w' := by
 unfold impl_CanSweep.f resCanSweep at h
 by_cases hsz : l0_0.length ≤ 1048576 ∧ l0_1.length ≤ 1048576 ∧ l0_2.length ≤ 1048576
 case neg => rw [if_neg hsz] at h; cases h
 rw [if_pos hsz] at h
 obtain ⟨hy0, hy1, hy2⟩ := hsz
 obtain ⟨cs, hcs⟩ : ∃ cs, cs = [old w w.heap.size] := ⟨_, rfl⟩
 have hp : Hp w cs w := by rw [hcs]; exact Hp.old_start w
 have hc2 : ∀ W, Hp w cs W → Below w.heap.size w W := fun W h => by rw [hcs] at h; exact h.since 0 _ rfl
 have hC0_0 : ∀ W, Hp w cs W → Kd.C k79 W A0_0 l0_0.length l0_0 := fun W h => Kd.C_below hr0_0 (hc2 W h)
 have hC0_1 : ∀ W, Hp w cs W → Kd.C k79 W A0_1 l0_1.length l0_1 := fun W h => Kd.C_below hr0_1 (hc2 W h)
 have hC0_2 : ∀ W, Hp w cs W → Kd.C (Kd.int .i64) W A0_2 l0_2.length l0_2 := fun W h => Kd.C_below hr0_2 (hc2 W h)
 clear hcs
 refine sx_enter (N := 18) (l := [.agg #[.slice A0_0 l0_0.length c0_0, .slice A0_1 l0_1.length c0_1, .slice A0_2 l0_2.length c0_2, .int .i64 a0_3, .int .i64 a0_4]]) Try.func20 rfl rfl rfl ?_
 refine wp_seq ?_
 refine sx_region ?_
 refine sx_box 1 hp #[.slice A0_0 l0_0.length c0_0, .slice A0_1 l0_1.length c0_1, .slice A0_2 l0_2.length c0_2, .int .i64 a0_3, .int .i64 a0_4] 41 (by rfl) (fun W => by kernel_rfl) ?_
 intro g_1 W_2 hp
 refine sx_rd 2 (.bool false) (by rfl) (by kernel_rfl) ?_
 refine sx_rd 3 (.bool false) (by rfl) (by kernel_rfl) ?_
 refine sx_nil ?_
 refine ex_then_n ?_
 refine wp_seq ?_
 refine wp_seq ?_
 rcases Bool.eq_false_or_eq_true (!(gameB l0_0 l0_1 l0_2 a0_3 a0_4)) with c_3 | c_3
 ·
  refine sx_region ?_
  refine sx_rd 4 (.agg #[.slice A0_0 l0_0.length c0_0, .slice A0_1 l0_1.length c0_1, .slice A0_2 l0_2.length c0_2, .int .i64 a0_3, .int .i64 a0_4]) (by rfl) (ldn (t := 41) (p := (.tmp 1)) (by rfl) (by rfl) (by kernel_rfl) (by kernel_rfl) (by kernel_rfl) (hp.at_ 0 _ (by rfl))) ?_
  obtain ⟨k_4, hk_k_4⟩ := Ev.rounds (isGame_ev l0_0 l0_1 l0_2 a0_3 a0_4 (by omega) (by omega) (by omega))
  refine sx_call 5 (by rfl) (by kernel_rfl) ((impl_IsGame.calls k_4 _ A0_0 c0_0 l0_0 _ A0_1 c0_1 l0_1 A0_2 c0_2 l0_2 a0_3 a0_4 _ _ (Kd.V_mk hc0_0 (Kd.C_F k79_heap (hC0_0 _ hp.tail))) (Kd.V_mk hc0_1 (Kd.C_F k79_heap (hC0_1 _ hp.tail))) (hC0_2 _ hp.tail) hc0_2 hk_k_4).mono ?_)
  rintro _ W_5 ⟨rfl, hb⟩
  refine ⟨.bool false, congrArg (fun b => Ending.returned (.bool b)) (not_eq c_3), ?_⟩
  replace hp := hp.below hb
  clear hb
  refine sx_rd 6 (.bool true) (by rfl) (by kernel_rfl) ?_
  refine sx_rd 7 (.bool true) (by rfl) (by kernel_rfl) ?_
  refine sx_skip 8 (by rfl) (by rfl) (by rfl) ?_
  refine sx_skip 9 (by rfl) (by rfl) (by rfl) ?_
  refine sx_skip 10 (by rfl) (by rfl) (by rfl) ?_
  refine sx_skip 11 (by rfl) (by rfl) (by rfl) ?_
  refine sx_rd 12 (.bool true) (by rfl) (by kernel_rfl) ?_
  refine sx_nil ?_
  refine ex_then_n ?_
  refine sx_then true (by rfl) rfl ?_
  refine wp_seq ?_
  refine sx_region ?_
  refine sx_rd 2 (.bool false) (by rfl) (by kernel_rfl) ?_
  refine sx_rd 3 (.bool false) (by rfl) (by kernel_rfl) ?_
  refine sx_nil ?_
  refine ex_then_n ?_
  refine wp_ret ?_
  refine ex_then_r ?_
  refine sx_end (.tuple #[.bool false, .bool false]) (res2 2 3 (by rfl)) ?_
  rw [if_neg (fun q => by have q1 := q.1; rw [(not_eq c_3)] at q1; cases q1)] at h; simp only [Option.some.injEq, Prod.mk.injEq] at h; obtain ⟨rfl, rfl⟩ := h
  exact ⟨rfl, hc2 _ (hp.tail)⟩
 ·
  have hgB : (gameB l0_0 l0_1 l0_2 a0_3 a0_4) = true := by have q := c_3; simpa using q
  have hok := GmOk.of hgB
  obtain ⟨ht0, ht1⟩ : 0 ≤ a0_3 ∧ a0_3 ≤ 1 := hok.t
  have hhf : handB l0_0 = true := hok.f
  have hhs : handB l0_1 = true := hok.s
  rcases Bool.eq_false_or_eq_true (a0_3 == 0) with c_6 | c_6
  ·
   have c_6p := eq_of_beq_ c_6
   refine sx_region ?_
   refine sx_rd 4 (.agg #[.slice A0_0 l0_0.length c0_0, .slice A0_1 l0_1.length c0_1, .slice A0_2 l0_2.length c0_2, .int .i64 a0_3, .int .i64 a0_4]) (by rfl) (ldn (t := 41) (p := (.tmp 1)) (by rfl) (by rfl) (by kernel_rfl) (by kernel_rfl) (by kernel_rfl) (hp.at_ 0 _ (by rfl))) ?_
   obtain ⟨k_7, hk_k_7⟩ := Ev.rounds (isGame_ev l0_0 l0_1 l0_2 a0_3 a0_4 (by omega) (by omega) (by omega))
   refine sx_call 5 (by rfl) (by kernel_rfl) ((impl_IsGame.calls k_7 _ A0_0 c0_0 l0_0 _ A0_1 c0_1 l0_1 A0_2 c0_2 l0_2 a0_3 a0_4 _ _ (Kd.V_mk hc0_0 (Kd.C_F k79_heap (hC0_0 _ hp.tail))) (Kd.V_mk hc0_1 (Kd.C_F k79_heap (hC0_1 _ hp.tail))) (hC0_2 _ hp.tail) hc0_2 hk_k_7).mono ?_)
   rintro _ W_8 ⟨rfl, hb⟩
   refine ⟨.bool true, congrArg (fun b => Ending.returned (.bool b)) (not_eq c_3), ?_⟩
   replace hp := hp.below hb
   clear hb
   refine sx_rd 6 (.bool false) (by rfl) (by kernel_rfl) ?_
   refine sx_rd 7 (.bool false) (by rfl) (by kernel_rfl) ?_
   refine sx_want (by rfl) ?_
   refine sx_rd 8 (.agg #[.slice A0_0 l0_0.length c0_0, .slice A0_1 l0_1.length c0_1, .slice A0_2 l0_2.length c0_2, .int .i64 a0_3, .int .i64 a0_4]) (by rfl) (ldn (t := 41) (p := (.tmp 1)) (by rfl) (by rfl) (by kernel_rfl) (by kernel_rfl) (by kernel_rfl) (hp.at_ 0 _ (by rfl))) ?_
   refine sx_want (by rfl) ?_
   refine sx_call 9 (by rfl) (by kernel_rfl) ((gameOwn_sx A0_0 c0_0 l0_0 A0_1 c0_1 l0_1 A0_2 c0_2 l0_2 a0_3 a0_4 (.slice A0_0 l0_0.length c0_0) _ (hC0_0 _ hp.tail) hc0_0 (hC0_1 _ hp.tail) hc0_1 (hC0_2 _ hp.tail) hc0_2 (fun _ => rfl) (fun q => by rw [c_6] at q; cases q)).mono ?_)
   rintro _ W_9 ⟨rfl, hb⟩
   refine ⟨_, rfl, ?_⟩
   replace hp := hp.below hb
   clear hb
   refine sx_want (by rfl) ?_
   refine sx_rd 10 (.int .i64 (l0_0.length : Int)) (by rfl) (by kernel_rfl) ?_
   refine sx_want (by rfl) ?_
   refine sx_rd 11 (.bool (decide ((l0_0.length : Int) > 8))) (by rfl) (by kernel_rfl) ?_
   refine sx_rd 12 (.bool (decide ((l0_0.length : Int) > 8))) (by rfl) (by kernel_rfl) ?_
   refine sx_nil ?_
   refine ex_then_n ?_
   refine sx_cond (decide ((l0_0.length : Int) > 8)) (by rfl) (fun c_10 => ?_) (fun c_10 => ?_)
   ·
    have c_10p := of_decide_eq_true c_10
    refine wp_seq ?_
    refine sx_region ?_
    refine sx_rd 2 (.bool false) (by rfl) (by kernel_rfl) ?_
    refine sx_rd 3 (.bool false) (by rfl) (by kernel_rfl) ?_
    refine sx_nil ?_
    refine ex_then_n ?_
    refine wp_ret ?_
    refine ex_then_r ?_
    refine sx_end (.tuple #[.bool false, .bool false]) (res2 2 3 (by rfl)) ?_
    have hq := c_6
    simp only [beq_iff_eq, beq_eq_false_iff_ne, ne_eq] at hq
    have how : ownT l0_0 l0_1 a0_3 = l0_0 := by unfold ownT; rw [if_neg (by omega)]
    rw [how] at h
    rw [if_neg (fun q => by have q1 := q.2; omega)] at h; simp only [Option.some.injEq, Prod.mk.injEq] at h; obtain ⟨rfl, rfl⟩ := h
    exact ⟨rfl, hc2 _ (hp.tail)⟩
   ·
    have c_10p := of_decide_eq_false c_10
    refine wp_skip ?_
    refine ex_then_n ?_
    refine wp_seq ?_
    refine sx_drawT [2] (.rd 0 (.rd 3 (.alt 1 (.alt 4 (.rd 5 (.rd 6 (.fin))) .non) .non))) 7 (C := Hp w (blk g_1 #[.slice A0_0 l0_0.length c0_0, .slice A0_1 l0_1.length c0_1, .slice A0_2 l0_2.length c0_2, .int .i64 a0_3, .int .i64 a0_4] 41 :: cs)) (by kernel_rfl) (by kernel_rfl) (fun d _ _ _ _ h => by cases d <;> exact h) (fun W h => h.drew) hp ?_
    refine preI_read rfl ?_
    refine sxq_val 15 (.pointer (some ⟨g_1, 2, none⟩)) (by rfl) (fun W _ => (by kernel_rfl)) ?_
    refine sxq_nil ?_
    refine preI_nil ?_
    intro W_11 hp
    refine treeI_rd rfl ?_
    refine sxq_val 13 (.agg #[.slice A0_0 l0_0.length c0_0, .slice A0_1 l0_1.length c0_1, .slice A0_2 l0_2.length c0_2, .int .i64 a0_3, .int .i64 a0_4]) (by rfl) (fun W hp => (ldn (t := 41) (p := (.tmp 1)) (by rfl) (by rfl) (by kernel_rfl) (by kernel_rfl) (by kernel_rfl) (hp.at_ 0 _ (by rfl)))) ?_
    refine sxq_nil ?_
    refine treeI_rd rfl ?_
    refine sxq_val 16 (.slice A0_2 l0_2.length c0_2) (by rfl) (fun W hp => (ld1 (t := 33) (p := (.tmp 15)) (by rfl) (by rfl) (by kernel_rfl) (hp.cell 0 (by rfl) 2 _ (by rfl)))) ?_
    refine sxq_nil ?_
    refine treeI_ev rfl ?_
    refine sx_call 14 (by rfl) (by kernel_rfl) ((gameOwn_sx A0_0 c0_0 l0_0 A0_1 c0_1 l0_1 A0_2 c0_2 l0_2 a0_3 a0_4 (.slice A0_0 l0_0.length c0_0) _ (hC0_0 _ hp.tail) hc0_0 (hC0_1 _ hp.tail) hc0_1 (hC0_2 _ hp.tail) hc0_2 (fun _ => rfl) (fun q => by rw [c_6] at q; cases q)).mono ?_)
    rintro _ W_12 ⟨rfl, hb⟩
    refine ⟨_, rfl, ?_⟩
    replace hp := hp.below hb
    clear hb
    refine step_fin hp ?_
    refine treeI_ev rfl ?_
    have hsw := swAll_impl hhf (show l0_0.length ≤ 8 by omega) l0_2
    refine sx_call 17 (by rfl) (by kernel_rfl) (((hsw ▸ sw_all 9 w _ (blk g_1 #[.slice A0_0 l0_0.length c0_0, .slice A0_1 l0_1.length c0_1, .slice A0_2 l0_2.length c0_2, .int .i64 a0_3, .int .i64 a0_4] 41 :: cs) l0_0 l0_2 A0_0 c0_0 A0_2 c0_2 hhf (by omega) (by omega) hc0_0 hc0_2 (fun W q => hC0_0 W q.tail) (fun W q => hC0_2 W q.tail) hp)).mono ?_)
    rintro _ W_13 ⟨rfl, hp⟩
    refine ⟨_, rfl, ?_⟩
    refine step_fin hp ?_
    refine treeI_rd rfl ?_
    refine sxq_val 2 (.bool (swAll l0_0 l0_2)) (by rfl) (fun W hp => (by kernel_rfl)) ?_
    refine sxq_nil ?_
    refine treeI_rd rfl ?_
    refine sxq_val 3 (.bool true) (by rfl) (fun W hp => (by kernel_rfl)) ?_
    refine sxq_nil ?_
    refine treeI_fin ?_
    refine sx_nil ?_
    refine ex_then_n ?_
    refine wp_ret ?_
    refine sx_end (.tuple #[.bool (swAll l0_0 l0_2), .bool true]) (res2 2 3 (by rfl)) ?_
    have hq := c_6
    simp only [beq_iff_eq, beq_eq_false_iff_ne, ne_eq] at hq
    have how : ownT l0_0 l0_1 a0_3 = l0_0 := by unfold ownT; rw [if_neg (by omega)]
    rw [how] at h
    rw [if_pos ⟨hgB, by omega⟩] at h; simp only [Option.some.injEq, Prod.mk.injEq] at h; obtain ⟨rfl, rfl⟩ := h
    exact ⟨rfl, hc2 _ (hp.tail)⟩
  ·
   have c_6p := ne_of_beq_ c_6
   refine sx_region ?_
   refine sx_rd 4 (.agg #[.slice A0_0 l0_0.length c0_0, .slice A0_1 l0_1.length c0_1, .slice A0_2 l0_2.length c0_2, .int .i64 a0_3, .int .i64 a0_4]) (by rfl) (ldn (t := 41) (p := (.tmp 1)) (by rfl) (by rfl) (by kernel_rfl) (by kernel_rfl) (by kernel_rfl) (hp.at_ 0 _ (by rfl))) ?_
   obtain ⟨k_14, hk_k_14⟩ := Ev.rounds (isGame_ev l0_0 l0_1 l0_2 a0_3 a0_4 (by omega) (by omega) (by omega))
   refine sx_call 5 (by rfl) (by kernel_rfl) ((impl_IsGame.calls k_14 _ A0_0 c0_0 l0_0 _ A0_1 c0_1 l0_1 A0_2 c0_2 l0_2 a0_3 a0_4 _ _ (Kd.V_mk hc0_0 (Kd.C_F k79_heap (hC0_0 _ hp.tail))) (Kd.V_mk hc0_1 (Kd.C_F k79_heap (hC0_1 _ hp.tail))) (hC0_2 _ hp.tail) hc0_2 hk_k_14).mono ?_)
   rintro _ W_15 ⟨rfl, hb⟩
   refine ⟨.bool true, congrArg (fun b => Ending.returned (.bool b)) (not_eq c_3), ?_⟩
   replace hp := hp.below hb
   clear hb
   refine sx_rd 6 (.bool false) (by rfl) (by kernel_rfl) ?_
   refine sx_rd 7 (.bool false) (by rfl) (by kernel_rfl) ?_
   refine sx_want (by rfl) ?_
   refine sx_rd 8 (.agg #[.slice A0_0 l0_0.length c0_0, .slice A0_1 l0_1.length c0_1, .slice A0_2 l0_2.length c0_2, .int .i64 a0_3, .int .i64 a0_4]) (by rfl) (ldn (t := 41) (p := (.tmp 1)) (by rfl) (by rfl) (by kernel_rfl) (by kernel_rfl) (by kernel_rfl) (hp.at_ 0 _ (by rfl))) ?_
   refine sx_want (by rfl) ?_
   refine sx_call 9 (by rfl) (by kernel_rfl) ((gameOwn_sx A0_0 c0_0 l0_0 A0_1 c0_1 l0_1 A0_2 c0_2 l0_2 a0_3 a0_4 (.slice A0_1 l0_1.length c0_1) _ (hC0_0 _ hp.tail) hc0_0 (hC0_1 _ hp.tail) hc0_1 (hC0_2 _ hp.tail) hc0_2 (fun q => by rw [c_6] at q; cases q) (fun _ => rfl)).mono ?_)
   rintro _ W_16 ⟨rfl, hb⟩
   refine ⟨_, rfl, ?_⟩
   replace hp := hp.below hb
   clear hb
   refine sx_want (by rfl) ?_
   refine sx_rd 10 (.int .i64 (l0_1.length : Int)) (by rfl) (by kernel_rfl) ?_
   refine sx_want (by rfl) ?_
   refine sx_rd 11 (.bool (decide ((l0_1.length : Int) > 8))) (by rfl) (by kernel_rfl) ?_
   refine sx_rd 12 (.bool (decide ((l0_1.length : Int) > 8))) (by rfl) (by kernel_rfl) ?_
   refine sx_nil ?_
   refine ex_then_n ?_
   refine sx_cond (decide ((l0_1.length : Int) > 8)) (by rfl) (fun c_17 => ?_) (fun c_17 => ?_)
   ·
    have c_17p := of_decide_eq_true c_17
    refine wp_seq ?_
    refine sx_region ?_
    refine sx_rd 2 (.bool false) (by rfl) (by kernel_rfl) ?_
    refine sx_rd 3 (.bool false) (by rfl) (by kernel_rfl) ?_
    refine sx_nil ?_
    refine ex_then_n ?_
    refine wp_ret ?_
    refine ex_then_r ?_
    refine sx_end (.tuple #[.bool false, .bool false]) (res2 2 3 (by rfl)) ?_
    have hq := c_6
    simp only [beq_iff_eq, beq_eq_false_iff_ne, ne_eq] at hq
    have how : ownT l0_0 l0_1 a0_3 = l0_1 := by unfold ownT; rw [if_pos (by omega)]
    rw [how] at h
    rw [if_neg (fun q => by have q1 := q.2; omega)] at h; simp only [Option.some.injEq, Prod.mk.injEq] at h; obtain ⟨rfl, rfl⟩ := h
    exact ⟨rfl, hc2 _ (hp.tail)⟩
   ·
    have c_17p := of_decide_eq_false c_17
    refine wp_skip ?_
    refine ex_then_n ?_
    refine wp_seq ?_
    refine sx_drawT [2] (.rd 0 (.rd 3 (.alt 1 (.alt 4 (.rd 5 (.rd 6 (.fin))) .non) .non))) 7 (C := Hp w (blk g_1 #[.slice A0_0 l0_0.length c0_0, .slice A0_1 l0_1.length c0_1, .slice A0_2 l0_2.length c0_2, .int .i64 a0_3, .int .i64 a0_4] 41 :: cs)) (by kernel_rfl) (by kernel_rfl) (fun d _ _ _ _ h => by cases d <;> exact h) (fun W h => h.drew) hp ?_
    refine preI_read rfl ?_
    refine sxq_val 15 (.pointer (some ⟨g_1, 2, none⟩)) (by rfl) (fun W _ => (by kernel_rfl)) ?_
    refine sxq_nil ?_
    refine preI_nil ?_
    intro W_18 hp
    refine treeI_rd rfl ?_
    refine sxq_val 13 (.agg #[.slice A0_0 l0_0.length c0_0, .slice A0_1 l0_1.length c0_1, .slice A0_2 l0_2.length c0_2, .int .i64 a0_3, .int .i64 a0_4]) (by rfl) (fun W hp => (ldn (t := 41) (p := (.tmp 1)) (by rfl) (by rfl) (by kernel_rfl) (by kernel_rfl) (by kernel_rfl) (hp.at_ 0 _ (by rfl)))) ?_
    refine sxq_nil ?_
    refine treeI_rd rfl ?_
    refine sxq_val 16 (.slice A0_2 l0_2.length c0_2) (by rfl) (fun W hp => (ld1 (t := 33) (p := (.tmp 15)) (by rfl) (by rfl) (by kernel_rfl) (hp.cell 0 (by rfl) 2 _ (by rfl)))) ?_
    refine sxq_nil ?_
    refine treeI_ev rfl ?_
    refine sx_call 14 (by rfl) (by kernel_rfl) ((gameOwn_sx A0_0 c0_0 l0_0 A0_1 c0_1 l0_1 A0_2 c0_2 l0_2 a0_3 a0_4 (.slice A0_1 l0_1.length c0_1) _ (hC0_0 _ hp.tail) hc0_0 (hC0_1 _ hp.tail) hc0_1 (hC0_2 _ hp.tail) hc0_2 (fun q => by rw [c_6] at q; cases q) (fun _ => rfl)).mono ?_)
    rintro _ W_19 ⟨rfl, hb⟩
    refine ⟨_, rfl, ?_⟩
    replace hp := hp.below hb
    clear hb
    refine step_fin hp ?_
    refine treeI_ev rfl ?_
    have hsw := swAll_impl hhs (show l0_1.length ≤ 8 by omega) l0_2
    refine sx_call 17 (by rfl) (by kernel_rfl) (((hsw ▸ sw_all 9 w _ (blk g_1 #[.slice A0_0 l0_0.length c0_0, .slice A0_1 l0_1.length c0_1, .slice A0_2 l0_2.length c0_2, .int .i64 a0_3, .int .i64 a0_4] 41 :: cs) l0_1 l0_2 A0_1 c0_1 A0_2 c0_2 hhs (by omega) (by omega) hc0_1 hc0_2 (fun W q => hC0_1 W q.tail) (fun W q => hC0_2 W q.tail) hp)).mono ?_)
    rintro _ W_20 ⟨rfl, hp⟩
    refine ⟨_, rfl, ?_⟩
    refine step_fin hp ?_
    refine treeI_rd rfl ?_
    refine sxq_val 2 (.bool (swAll l0_1 l0_2)) (by rfl) (fun W hp => (by kernel_rfl)) ?_
    refine sxq_nil ?_
    refine treeI_rd rfl ?_
    refine sxq_val 3 (.bool true) (by rfl) (fun W hp => (by kernel_rfl)) ?_
    refine sxq_nil ?_
    refine treeI_fin ?_
    refine sx_nil ?_
    refine ex_then_n ?_
    refine wp_ret ?_
    refine sx_end (.tuple #[.bool (swAll l0_1 l0_2), .bool true]) (res2 2 3 (by rfl)) ?_
    have hq := c_6
    simp only [beq_iff_eq, beq_eq_false_iff_ne, ne_eq] at hq
    have how : ownT l0_0 l0_1 a0_3 = l0_1 := by unfold ownT; rw [if_pos (by omega)]
    rw [how] at h
    rw [if_pos ⟨hgB, by omega⟩] at h; simp only [Option.some.injEq, Prod.mk.injEq] at h; obtain ⟨rfl, rfl⟩ := h
    exact ⟨rfl, hc2 _ (hp.tail)⟩
end Go.Proofs.Ytkjaahmlnbgnjaa.Hd
