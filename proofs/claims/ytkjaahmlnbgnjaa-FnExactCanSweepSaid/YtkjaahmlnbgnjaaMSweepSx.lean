/- spec.CanSweep, by hand. -/
import Derived.Test.YtkjaahmlnbgnjaaMLookS
import Derived.Test.YtkjaahmlnbgnjaaPSweepC
import Derived.Test.YtkjaahmlnbgnjaaPGame
namespace Go.Proofs.Ytkjaahmlnbgnjaa.Hd
open Go.RowKit Go.Proofs.Ytkjaahmlnbgnjaa.Pure Go.Proofs.YtkjaahmlnbgnjaaW.PrintWords Go.Proofs.YtkjaahmlnbgnjaaW.PrintLast Go.Proofs.YtkjaahmlnbgnjaaW.PrintMore
set_option linter.unusedVariables false
set_option linter.unusedSimpArgs false
theorem alls_run {P : Program} {N : Nat} {s : List (Nat × Value)} {o : Oper} {W : World} {t t2 : TypeId} {X Y : Operand} {n : Nat} (ho : o.op = .binOp .sub t X Y t2) (hX : evl N s X = .int .i64 ((shlN 1 n : Nat) : Int)) (hY : evl N s Y = .int .i64 1) (hn : n ≤ 8) : (execOp (evl N s) o).run P W = .ok (.value (.int .i64 ((2 ^ n - 1 : Nat) : Int))) W := by
 have h1 := (shl_small n hn).2.2.1
 have h2 := pow_all n hn
 rw [h1] at hX
 refine wr_ok (run := fun W => (execOp (evl N s) o).run P W) ⟨by omega, by omega⟩ ?_
 unfold execOp
 simp only [ho, hX, hY]
 have h3 : ((2 ^ n : Nat) : Int) - 1 = ((2 ^ n - 1 : Nat) : Int) := by omega
 simp [binOp, Op.intArith, eqGuard, Sem.run_bind, Sem.run_pure]
 simpa using congrArg IntKind.i64.wrap h3
def spec_CanSweep.f (f s : List S_Tile) (r : List Int) (t p : Int) : Option (Bool × Bool) := if f.length ≤ 1048576 ∧ s.length ≤ 1048576 ∧ r.length ≤ 1048576 then some (resCanSweep f s r t p) else none
set_option maxRecDepth 100000 in
set_option maxHeartbeats 40000000 in
theorem spec_CanSweep.calls (A0_0 : Option Addr) (c0_0 : Nat) (l0_0 : List S_Tile) (A0_1 : Option Addr) (c0_1 : Nat) (l0_1 : List S_Tile) (A0_2 : Option Addr) (c0_2 : Nat) (l0_2 : List Int) (a0_3 : Int) (a0_4 : Int) (r0 : Bool) (r1 : Bool) (w : World) (hr0_0 : Kd.C k79 w A0_0 l0_0.length l0_0) (hc0_0 : l0_0.length ≤ c0_0) (hr0_1 : Kd.C k79 w A0_1 l0_1.length l0_1) (hc0_1 : l0_1.length ≤ c0_1) (hr0_2 : Kd.C (Kd.int .i64) w A0_2 l0_2.length l0_2) (hc0_2 : l0_2.length ≤ c0_2) (h : spec_CanSweep.f l0_0 l0_1 l0_2 a0_3 a0_4 = some (r0, r1)) :
  Calls Try.prog 18 #[.agg #[.slice A0_0 l0_0.length c0_0, .slice A0_1 l0_1.length c0_1, .slice A0_2 l0_2.length c0_2, .int .i64 a0_3, .int .i64 a0_4]] w fun e w' => e = .returned (.tuple #[.bool r0, .bool r1]) ∧ Below w.heap.size w w' := by
 unfold spec_CanSweep.f resCanSweep at h
 by_cases hsz : l0_0.length ≤ 1048576 ∧ l0_1.length ≤ 1048576 ∧ l0_2.length ≤ 1048576
 case neg => rw [if_neg hsz] at h; cases h
 rw [if_pos hsz] at h
 obtain ⟨hy0, hy1, hy2⟩ := hsz
 obtain ⟨cs, hcs⟩ : ∃ cs, cs = [old w w.heap.size] := ⟨_, rfl⟩
 have hp : Hp w cs w := by rw [hcs]; exact Hp.old_start w
 have hc2 : ∀ W, Hp w cs W → Below w.heap.size w W := fun W h => by rw [hcs] at h; exact h.since 0 _ rfl
 have hC0_0 : ∀ W, Hp w cs W → Kd.C k79 W A0_0 l0_0.length l0_0 := fun W h => Kd.C_below hr0_0 (hc2 W h)
 have hC0_1 : ∀ W, Hp w cs W → Kd.C k79 W A0_1 l0_1.length l0_1 := fun W h => Kd.C_below hr0_1 (hc2 W h)
 have hC0_2 : ∀ W, Hp w cs W → Kd.C (Kd.int .i64) W A0_2 l0_2.length l0_2 := fun W h => Kd.C_below hr0_2 (hc2 W h)
 clear hcs
 refine sx_enter (N := 73) (l := [.agg #[.slice A0_0 l0_0.length c0_0, .slice A0_1 l0_1.length c0_1, .slice A0_2 l0_2.length c0_2, .int .i64 a0_3, .int .i64 a0_4]]) Try.func18 rfl rfl rfl ?_
 refine wp_seq ?_
 refine sx_region ?_
 refine sx_box 1 hp #[.slice A0_0 l0_0.length c0_0, .slice A0_1 l0_1.length c0_1, .slice A0_2 l0_2.length c0_2, .int .i64 a0_3, .int .i64 a0_4] 41 (by rfl) (fun W => by kernel_rfl) ?_
 intro g_1 W_2 hp
 refine sx_rd 2 (.bool false) (by rfl) (by kernel_rfl) ?_
 refine sx_rd 3 (.bool false) (by rfl) (by kernel_rfl) ?_
 refine sx_nil ?_
 refine ex_then_n ?_
 refine wp_seq ?_
 refine wp_seq ?_
 refine sx_region ?_
 refine sx_rd 9 (.agg #[.slice A0_0 l0_0.length c0_0, .slice A0_1 l0_1.length c0_1, .slice A0_2 l0_2.length c0_2, .int .i64 a0_3, .int .i64 a0_4]) (by rfl) (ldn (t := 41) (p := (.tmp 1)) (by rfl) (by rfl) (by kernel_rfl) (by kernel_rfl) (by kernel_rfl) (hp.at_ 0 _ (by rfl))) ?_
 obtain ⟨k_3, hk_k_3⟩ := Ev.rounds (plGood_ev l0_0 l0_1 l0_2 a0_3 a0_4 (by omega) (by omega) (by omega))
 refine sx_call 10 (by rfl) (by kernel_rfl) ((spec_plGood.calls k_3 A0_0 c0_0 l0_0 A0_1 c0_1 l0_1 A0_2 c0_2 l0_2 a0_3 a0_4 _ _ (hC0_0 _ hp.tail) hc0_0 (hC0_1 _ hp.tail) hc0_1 (hC0_2 _ hp.tail) hc0_2 hk_k_3).mono ?_)
 rintro _ W_4 ⟨rfl, hb⟩
 refine ⟨_, rfl, ?_⟩
 replace hp := hp.below hb
 clear hb
 refine sx_rd 11 (.bool (!(gameB l0_0 l0_1 l0_2 a0_3 a0_4))) (by rfl) (by kernel_rfl) ?_
 refine sx_nil ?_
 refine ex_then_n ?_
 refine sx_cond (!(gameB l0_0 l0_1 l0_2 a0_3 a0_4)) (by rfl) (fun c_5 => ?_) (fun c_5 => ?_)
 ·
  refine wp_seq ?_
  refine sx_region ?_
  refine sx_rd 2 (.bool false) (by rfl) (by kernel_rfl) ?_
  refine sx_rd 3 (.bool false) (by rfl) (by kernel_rfl) ?_
  refine sx_nil ?_
  refine ex_then_n ?_
  refine wp_ret ?_
  refine ex_then_r ?_
  refine sx_end (.tuple #[.bool false, .bool false]) (res2 2 3 (by rfl)) ?_
  rw [if_neg (fun q => by have q1 := q.1; rw [(not_eq c_5)] at q1; cases q1)] at h; simp only [Option.some.injEq, Prod.mk.injEq] at h; obtain ⟨rfl, rfl⟩ := h
  exact ⟨rfl, hc2 _ (hp.tail)⟩
 ·
  have hgB : (gameB l0_0 l0_1 l0_2 a0_3 a0_4) = true := by have q := c_5; simpa using q
  have hok := GmOk.of hgB
  obtain ⟨ht0, ht1⟩ : 0 ≤ a0_3 ∧ a0_3 ≤ 1 := hok.t
  have hhf : handB l0_0 = true := hok.f
  have hhs : handB l0_1 = true := hok.s
  refine wp_skip ?_
  refine ex_then_n ?_
  refine wp_seq ?_
  refine sx_region ?_
  refine sx_rd 12 (.pointer (some ⟨g_1, 0, none⟩)) (by rfl) (by kernel_rfl) ?_
  refine sx_rd 13 (.slice A0_0 l0_0.length c0_0) (by rfl) (ld1 (t := 39) (p := (.tmp 12)) (by rfl) (by rfl) (by kernel_rfl) (hp.cell 0 (by rfl) 0 _ (by rfl))) ?_
  refine sx_rd 4 (.slice A0_0 l0_0.length c0_0) (by rfl) (by kernel_rfl) ?_
  refine sx_nil ?_
  refine ex_then_n ?_
  refine wp_seq ?_
  refine wp_seq ?_
  refine sx_region ?_
  refine sx_rd 14 (.pointer (some ⟨g_1, 3, none⟩)) (by rfl) (by kernel_rfl) ?_
  refine sx_rd 15 (.int .i64 a0_3) (by rfl) (ld1 (t := 3) (p := (.tmp 14)) (by rfl) (by rfl) (by kernel_rfl) (hp.cell 0 (by rfl) 3 _ (by rfl))) ?_
  refine sx_rd 16 (.bool (a0_3 == 1)) (by rfl) (by kernel_rfl) ?_
  refine sx_nil ?_
  refine ex_then_n ?_
  refine sx_cond (a0_3 == 1) (by rfl) (fun c_6 => ?_) (fun c_6 => ?_)
  ·
   have c_6p := eq_of_beq_ c_6
   refine sx_region ?_
   refine sx_rd 17 (.pointer (some ⟨g_1, 1, none⟩)) (by rfl) (by kernel_rfl) ?_
   refine sx_rd 18 (.slice A0_1 l0_1.length c0_1) (by rfl) (ld1 (t := 39) (p := (.tmp 17)) (by rfl) (by rfl) (by kernel_rfl) (hp.cell 0 (by rfl) 1 _ (by rfl))) ?_
   refine sx_rd 4 (.slice A0_1 l0_1.length c0_1) (by rfl) (by kernel_rfl) ?_
   refine sx_nil ?_
   refine ex_then_n ?_
   refine wp_seq ?_
   refine wp_seq ?_
   refine sx_region ?_
   refine sx_rd 19 (.slice A0_1 l0_1.length c0_1) (by rfl) (by kernel_rfl) ?_
   refine sx_rd 20 (.int .i64 (l0_1.length : Int)) (by rfl) (by kernel_rfl) ?_
   refine sx_rd 21 (.bool (decide ((l0_1.length : Int) > 8))) (by rfl) (by kernel_rfl) ?_
   refine sx_nil ?_
   refine ex_then_n ?_
   refine sx_cond (decide ((l0_1.length : Int) > 8)) (by rfl) (fun c_7 => ?_) (fun c_7 => ?_)
   ·
    have c_7p := of_decide_eq_true c_7
    refine wp_seq ?_
    refine sx_region ?_
    refine sx_rd 2 (.bool false) (by rfl) (by kernel_rfl) ?_
    refine sx_rd 3 (.bool false) (by rfl) (by kernel_rfl) ?_
    refine sx_nil ?_
    refine ex_then_n ?_
    refine wp_ret ?_
    refine ex_then_r ?_
    refine sx_end (.tuple #[.bool false, .bool false]) (res2 2 3 (by rfl)) ?_
    have how : ownT l0_0 l0_1 a0_3 = l0_1 := by unfold ownT; rw [if_pos (by omega)]
    rw [how] at h
    rw [if_neg (fun q => by have q1 := q.2; omega)] at h; simp only [Option.some.injEq, Prod.mk.injEq] at h; obtain ⟨rfl, rfl⟩ := h
    exact ⟨rfl, hc2 _ (hp.tail)⟩
   ·
    have c_7p := of_decide_eq_false c_7
    have how : ownT l0_0 l0_1 a0_3 = l0_1 := by unfold ownT; rw [if_pos (by omega)]
    have h8 : l0_1.length ≤ 8 := by omega
    obtain ⟨hnd, hgd⟩ := handB_parts hhs
    obtain ⟨hs1, hs2, hs3, hs4⟩ := shl_small l0_1.length h8
    have hsh : shlN 100 l0_1.length ≤ 25600 ∧ shlN 1 l0_1.length ≤ 256 := ⟨hs1, hs2⟩
    have hpw := pow_all l0_1.length h8
    have hN : (List.replicate (shlN 100 l0_1.length) false).length = 100 * 2 ^ l0_1.length := by rw [List.length_replicate]; exact hs4
    refine wp_skip ?_
    refine ex_then_n ?_
    refine wp_seq ?_
    refine sx_region ?_
    refine sx_rd 22 (.slice A0_1 l0_1.length c0_1) (by rfl) (by kernel_rfl) ?_
    refine sx_rd 23 (.slice A0_1 l0_1.length c0_1) (by rfl) (by kernel_rfl) ?_
    refine sx_rd 24 (.int .i64 (l0_1.length : Int)) (by rfl) (by kernel_rfl) ?_
    refine sx_rd 25 (.int .i64 ((shlN 100 l0_1.length : Nat) : Int)) (by rfl) (shl_run (a := 100) (i := l0_1.length) (by rfl) (by rfl) (by rfl) (by omega) (by have := hsh; omega)) ?_
    refine sx_make 26 (by rfl) Kd.bool w.heap.size 4 (shlN 100 l0_1.length) (by rfl) (by rfl) (by rfl) (by omega) Try.underlying75 (.bool false) 1 (by rfl) (by rfl) (by decide) (by decide) false rfl (by omega) hp.size hp ?_
    intro g_8 F_9 W_10 hp
    refine sx_rd 27 (.agg #[.slice A0_1 l0_1.length c0_1, .slice (some ⟨g_8, 0, none⟩) ((List.replicate (shlN 100 l0_1.length) false).length) ((List.replicate (shlN 100 l0_1.length) false).length)]) (by rfl) (by kernel_rfl) ?_
    refine sx_box 28 hp #[.slice A0_1 l0_1.length c0_1, .slice (some ⟨g_8, 0, none⟩) ((List.replicate (shlN 100 l0_1.length) false).length) ((List.replicate (shlN 100 l0_1.length) false).length)] 77 (by rfl) (fun W => by kernel_rfl) ?_
    intro g_11 W_12 hp
    refine sx_rd 5 (.pointer (some ⟨g_11, 0, none⟩)) (by rfl) (by kernel_rfl) ?_
    refine sx_nil ?_
    refine ex_then_n ?_
    refine wp_seq ?_
    refine sx_region ?_
    refine sx_rd 29 (.slice A0_1 l0_1.length c0_1) (by rfl) (by kernel_rfl) ?_
    refine sx_rd 30 (.int .i64 (l0_1.length : Int)) (by rfl) (by kernel_rfl) ?_
    refine sx_rd 31 (.int .i64 ((shlN 1 l0_1.length : Nat) : Int)) (by rfl) (shl_run (a := 1) (i := l0_1.length) (by rfl) (by rfl) (by rfl) (by omega) (by have := hsh; omega)) ?_
    refine sx_rd 32 (.int .i64 ((2 ^ l0_1.length - 1 : Nat) : Int)) (by rfl) (alls_run (n := l0_1.length) (by rfl) (by rfl) (by rfl) (by omega)) ?_
    refine sx_rd 6 (.int .i64 ((2 ^ l0_1.length - 1 : Nat) : Int)) (by rfl) (by kernel_rfl) ?_
    refine sx_nil ?_
    refine ex_then_n ?_
    refine wp_seq ?_
    refine wp_seq ?_
    refine sx_region ?_
    refine sx_rd 33 (.pointer (some ⟨g_1, 2, none⟩)) (by rfl) (by kernel_rfl) ?_
    refine sx_rd 34 (.slice A0_2 l0_2.length c0_2) (by rfl) (ld1 (t := 33) (p := (.tmp 33)) (by rfl) (by rfl) (by kernel_rfl) (hp.cell 2 (by rfl) 2 _ (by rfl))) ?_
    refine sx_rd 35 (.int .i64 (l0_2.length : Int)) (by rfl) (by kernel_rfl) ?_
    refine sx_rd 36 (.bool (decide ((l0_2.length : Int) > 0))) (by rfl) (by kernel_rfl) ?_
    refine sx_nil ?_
    refine ex_then_n ?_
    refine sx_cond (decide ((l0_2.length : Int) > 0)) (by rfl) (fun c_13 => ?_) (fun c_13 => ?_)
    ·
     have c_13p := of_decide_eq_true c_13
     obtain ⟨⟨hea, heb⟩, hec, hed⟩ := game_ends hgB (show l0_2.length ≠ 0 by omega)
     refine wp_seq ?_
     refine sx_drawT2 [0, 1, 2, 6, 8] (.rd 3 (.rd 4 (.rd 5 (.rd 7 (.rd 9 (.rd 10 (.rd 11 (.rd 12 (.rd 13 (.alt 14 (.rd 15 (.rd 16 (.fin))) .non)))))))))) 17 (C := Hp w (blk g_1 #[.slice A0_0 l0_0.length c0_0, .slice A0_1 l0_1.length c0_1, .slice A0_2 l0_2.length c0_2, .int .i64 a0_3, .int .i64 a0_4] 41 :: cs)) (Hp w (blk g_11 #[.slice A0_1 l0_1.length c0_1, .slice (some ⟨g_8, 0, none⟩) ((List.replicate (shlN 100 l0_1.length) false).length) ((List.replicate (shlN 100 l0_1.length) false).length)] 77 :: row Kd.bool 4 w.heap.size (.slice (some ⟨g_8, 0, none⟩) ((List.replicate (shlN 100 l0_1.length) false).length) ((List.replicate (shlN 100 l0_1.length) false).length)) (List.replicate (shlN 100 l0_1.length) false) F_9 :: blk g_1 #[.slice A0_0 l0_0.length c0_0, .slice A0_1 l0_1.length c0_1, .slice A0_2 l0_2.length c0_2, .int .i64 a0_3, .int .i64 a0_4] 41 :: cs)) (fun W h => h.take [2] 3 (by decide) (by simp)) (by kernel_rfl) (by kernel_rfl) (fun d _ _ _ _ h => by cases d <;> exact h) (fun W h => h.drew) hp ?_
     refine preI_read rfl ?_
     refine sxq_val 37 (.pointer (some ⟨g_11, 0, none⟩)) (by rfl) (fun W _ => (by kernel_rfl)) ?_
     refine sxq_nil ?_
     refine preI_read rfl ?_
     refine sxq_val 38 (.int .i64 ((2 ^ l0_1.length - 1 : Nat) : Int)) (by rfl) (fun W _ => (by kernel_rfl)) ?_
     refine sxq_nil ?_
     refine preI_read rfl ?_
     refine sxq_val 39 (.pointer (some ⟨g_1, 2, none⟩)) (by rfl) (fun W _ => (by kernel_rfl)) ?_
     refine sxq_nil ?_
     refine preI_read rfl ?_
     refine sxq_val 43 (.pointer (some ⟨g_1, 2, none⟩)) (by rfl) (fun W _ => (by kernel_rfl)) ?_
     refine sxq_nil ?_
     refine preI_read rfl ?_
     refine sxq_val 45 (.pointer (some ⟨g_1, 2, none⟩)) (by rfl) (fun W _ => (by kernel_rfl)) ?_
     refine sxq_nil ?_
     refine preI_nil ?_
     intro W_14 hp
     refine treeI_rd rfl ?_
     refine sxq_val 40 (.slice A0_2 l0_2.length c0_2) (by rfl) (fun W hp => (ld1 (t := 33) (p := (.tmp 39)) (by rfl) (by rfl) (by kernel_rfl) (hp.cell 0 (by rfl) 2 _ (by rfl)))) ?_
     refine sxq_nil ?_
     refine treeI_rd rfl ?_
     refine sxq_val 41 (.pointer (some (adr A0_2 0 1))) (by rfl) (fun W hp => (ix_run (d := (Kd.int .i64)) (hC0_2 _ hp.tail) (t := 33) (by rfl) (by rfl) (by rfl) Try.underlying33 (by kernel_rfl) (by omega) (by omega))) ?_
     refine sxq_nil ?_
     refine treeI_rd rfl ?_
     refine sxq_val 42 (.int .i64 (rd l0_2 0)) (by rfl) (fun W hp => (ld1 (t := 3) (p := (.tmp 41)) (by rfl) (by rfl) (by kernel_rfl) (el_cell (d := (Kd.int .i64)) (hC0_2 _ hp.tail) 0 0 (by omega) (by omega) (cells := [.int .i64 (rd l0_2 0)]) (fun cs h => h) 0 _ (by rfl)))) ?_
     refine sxq_nil ?_
     refine treeI_rd rfl ?_
     refine sxq_val 44 (.slice A0_2 l0_2.length c0_2) (by rfl) (fun W hp => (ld1 (t := 33) (p := (.tmp 43)) (by rfl) (by rfl) (by kernel_rfl) (hp.cell 0 (by rfl) 2 _ (by rfl)))) ?_
     refine sxq_nil ?_
     refine treeI_rd rfl ?_
     refine sxq_val 46 (.slice A0_2 l0_2.length c0_2) (by rfl) (fun W hp => (ld1 (t := 33) (p := (.tmp 45)) (by rfl) (by rfl) (by kernel_rfl) (hp.cell 0 (by rfl) 2 _ (by rfl)))) ?_
     refine sxq_nil ?_
     refine treeI_rd rfl ?_
     refine sxq_val 47 (.int .i64 (l0_2.length : Int)) (by rfl) (fun W hp => (by kernel_rfl)) ?_
     refine sxq_nil ?_
     refine treeI_rd rfl ?_
     refine sxq_val 48 (.int .i64 ((l0_2.length : Int) - 1)) (by rfl) (fun W hp => (wr_ok (by omega) (by kernel_rfl))) ?_
     refine sxq_nil ?_
     refine treeI_rd rfl ?_
     refine sxq_val 49 (.pointer (some (adr A0_2 ((l0_2.length : Int) - 1) 1))) (by rfl) (fun W hp => (ix_run (d := (Kd.int .i64)) (hC0_2 _ hp.tail) (t := 33) (by rfl) (by rfl) (by rfl) Try.underlying33 (by kernel_rfl) (by omega) (by omega))) ?_
     refine sxq_nil ?_
     refine treeI_rd rfl ?_
     refine sxq_val 50 (.int .i64 (rd l0_2 ((l0_2.length : Int) - 1))) (by rfl) (fun W hp => (ld1 (t := 3) (p := (.tmp 49)) (by rfl) (by rfl) (by kernel_rfl) (el_cell (d := (Kd.int .i64)) (hC0_2 _ hp.tail) 0 ((l0_2.length : Int) - 1) (by omega) (by omega) (cells := [.int .i64 (rd l0_2 ((l0_2.length : Int) - 1))]) (fun cs h => h) 0 _ (by rfl)))) ?_
     refine sxq_nil ?_
     refine treeI_ev rfl ?_
     refine sx_call 51 (by rfl) (by kernel_rfl) ((lookS_all 256 w _ (blk g_1 #[.slice A0_0 l0_0.length c0_0, .slice A0_1 l0_1.length c0_1, .slice A0_2 l0_2.length c0_2, .int .i64 a0_3, .int .i64 a0_4] 41 :: cs) l0_1 A0_1 c0_1 g_11 g_8 ((List.replicate (shlN 100 l0_1.length) false).length) ((List.replicate (shlN 100 l0_1.length) false).length) (List.replicate (shlN 100 l0_1.length) false) F_9 (2 ^ l0_1.length - 1) (rd l0_2 0) (rd l0_2 ((l0_2.length : Int) - 1)) (2 ^ l0_1.length) hnd h8 hgd hc0_1 rfl (by omega) (by omega) hN rfl (by omega) (by omega) (by omega) (by omega) (OldOk.zero _ _ _) (fun W q => hC0_1 W q.tail) (hp.take [0, 1, 2] 3 (by decide) (by simp))).mono ?_)
     rintro _ W_15 ⟨sn4, FL4, rfl, hl4, hx4, hp⟩
     refine ⟨_, rfl, ?_⟩
     refine step_fin hp.tail.tail ?_
     refine treeI_rd rfl ?_
     refine sxq_val 2 (.bool (sw (subH l0_1 (2 ^ l0_1.length - 1)) (rd l0_2 0) (rd l0_2 ((l0_2.length : Int) - 1)))) (by rfl) (fun W hp => (by kernel_rfl)) ?_
     refine sxq_nil ?_
     refine treeI_rd rfl ?_
     refine sxq_val 3 (.bool true) (by rfl) (fun W hp => (by kernel_rfl)) ?_
     refine sxq_nil ?_
     refine treeI_fin ?_
     refine sx_nil ?_
     refine ex_then_n ?_
     refine wp_ret ?_
     refine ex_then_r ?_
     refine sx_end (.tuple #[.bool (sw (subH l0_1 (2 ^ l0_1.length - 1)) (rd l0_2 0) (rd l0_2 ((l0_2.length : Int) - 1))), .bool true]) (res2 2 3 (by rfl)) ?_
     have hv : swAll l0_1 l0_2 = (sw (subH l0_1 (2 ^ l0_1.length - 1)) (rd l0_2 0) (rd l0_2 ((l0_2.length : Int) - 1))) := swAll_row (show l0_2.length ≠ 0 by omega)
     rw [how, hv] at h
     rw [if_pos ⟨hgB, h8⟩] at h; simp only [Option.some.injEq, Prod.mk.injEq] at h; obtain ⟨rfl, rfl⟩ := h
     exact ⟨rfl, hc2 _ (hp.tail.tail.tail)⟩
    ·
     have c_13p := of_decide_eq_false c_13
     refine wp_skip ?_
     refine ex_then_n ?_
     refine wp_seq ?_
     refine wp_seq ?_
     refine sx_region ?_
     refine sx_rd 52 (.slice A0_1 l0_1.length c0_1) (by rfl) (by kernel_rfl) ?_
     refine sx_rd 53 (.int .i64 (l0_1.length : Int)) (by rfl) (by kernel_rfl) ?_
     refine sx_rd 54 (.int .i64 0) (by rfl) (by kernel_rfl) ?_
     refine sx_nil ?_
     refine ex_then_n ?_
     refine wp_block ?_
     refine wp_loop_ghost (fun n_ a_ W => ∃ (r_ : List (Nat × Value)) (i : Nat) (sn2 : List Bool) (F2 : Nat → Prop), n_ = l0_1.length - i ∧ a_ = fr 73 ([(4, .slice A0_1 l0_1.length c0_1), (5, .pointer (some ⟨g_11, 0, none⟩)), (6, .int .i64 ((2 ^ l0_1.length - 1 : Nat) : Int)), (52, .slice A0_1 l0_1.length c0_1), (53, .int .i64 (l0_1.length : Int)), (54, .int .i64 (i : Int))] ++ r_) ∧ Hp w (blk g_11 #[.slice A0_1 l0_1.length c0_1, .slice (some ⟨g_8, 0, none⟩) ((List.replicate (shlN 100 l0_1.length) false).length) ((List.replicate (shlN 100 l0_1.length) false).length)] 77 :: row Kd.bool 4 w.heap.size (.slice (some ⟨g_8, 0, none⟩) ((List.replicate (shlN 100 l0_1.length) false).length) ((List.replicate (shlN 100 l0_1.length) false).length)) sn2 F2 :: blk g_1 #[.slice A0_0 l0_0.length c0_0, .slice A0_1 l0_1.length c0_1, .slice A0_2 l0_2.length c0_2, .int .i64 a0_3, .int .i64 a0_4] 41 :: cs) W ∧ (i ≤ l0_1.length) ∧ (sn2.length = (List.replicate (shlN 100 l0_1.length) false).length) ∧ (ExtT l0_1 (List.replicate (shlN 100 l0_1.length) false) sn2) ∧ (∀ j, j < i → sw (subH l0_1 (clr (2 ^ l0_1.length - 1) j)) (rd_Tile l0_1 (j : Int)).f0 (rd_Tile l0_1 (j : Int)).f1 = false)) _ ⟨_, 0, (List.replicate (shlN 100 l0_1.length) false), _, rfl, fr_front [(4, .slice A0_1 l0_1.length c0_1), (5, .pointer (some ⟨g_11, 0, none⟩)), (6, .int .i64 ((2 ^ l0_1.length - 1 : Nat) : Int)), (52, .slice A0_1 l0_1.length c0_1), (53, .int .i64 (l0_1.length : Int)), (54, .int .i64 ((0 : Nat) : Int))] ⟨rfl, rfl, rfl, rfl, rfl, rfl, trivial⟩, (hp.take [0, 1, 2] 3 (by decide) (by simp)), (Nat.zero_le _), rfl, (ExtT.refl _ _), (fun j hj => absurd hj (Nat.not_lt_zero _))⟩ ?_
     rintro _ _ W_16 ⟨r_, i, sn2, F2, rfl, rfl, hp, hi, hl2, hE2, hno⟩
     refine wp_seq ?_
     refine sx_region ?_
     refine sx_rd 55 (.bool (decide ((i : Int) < (l0_1.length : Int)))) (by rfl) (by kernel_rfl) ?_
     refine sx_nil ?_
     refine ex_then_n ?_
     refine wp_seq ?_
     refine sx_cond (decide ((i : Int) < (l0_1.length : Int))) (by rfl) (fun c_17 => ?_) (fun c_17 => ?_)
     ·
      have c_17p := of_decide_eq_true c_17
      have hgt : goodT (rd_Tile l0_1 (i : Int)) = true := by rw [rdTile_lt (show i < l0_1.length by omega)]; exact hgd _ (List.getElem_mem _)
      have hgt2 := hgt
      unfold goodT at hgt2
      simp only [Bool.and_eq_true, decide_eq_true_eq] at hgt2
      have hcl := clr_bits (2 ^ l0_1.length - 1) (by omega) i (by omega)
      have hshi := (shl8 i (by omega))
      have hsh : shlN 1 i ≤ 128 := hshi
      refine wp_skip ?_
      refine ex_then_n ?_
      refine wp_seq ?_
      refine wp_block ?_
      refine wp_seq ?_
      refine sx_region ?_
      refine sx_rd 56 (.int .i64 (i : Int)) (by rfl) (by kernel_rfl) ?_
      refine sx_rd 57 (.pointer (some (adr A0_1 (i : Int) 2))) (by rfl) (ix_run (d := k79) (hC0_1 _ hp.tail.tail.tail) (t := 39) (by rfl) (by rfl) (by rfl) Try.underlying39 (by kernel_rfl) (by omega) (by omega)) ?_
      refine sx_rd 58 (.agg #[.int .i64 ((rd_Tile l0_1 (i : Int)).f0), .int .i64 ((rd_Tile l0_1 (i : Int)).f1)]) (by rfl) (el_run (d := k79) (hC0_1 _ hp.tail.tail.tail) z79 (i : Int) (by omega) (by omega) (cells := [.int .i64 ((rd_Tile l0_1 (i : Int)).f0), .int .i64 ((rd_Tile l0_1 (i : Int)).f1)]) (fun cs h => k79_open h) 0 [.int .i64 ((rd_Tile l0_1 (i : Int)).f0), .int .i64 ((rd_Tile l0_1 (i : Int)).f1)] (by rfl) (t := 79) (p := (.tmp 57)) (by rfl) (by rfl) (by kernel_rfl) (by kernel_rfl)) ?_
      refine sx_box 8 hp #[.int .i64 0, .int .i64 0] 79 (by rfl) (fun W => by kernel_rfl) ?_
      intro g_18 W_19 hp
      refine sx_rd 7 (.int .i64 (i : Int)) (by rfl) (by kernel_rfl) ?_
      refine sx_store (t := 79) (p := (.tmp 8)) (x := (.tmp 58)) (by rfl) (by rfl) 0 (by rfl) 0 [.int .i64 ((rd_Tile l0_1 (i : Int)).f0), .int .i64 ((rd_Tile l0_1 (i : Int)).f1)] (by rfl) (by rfl) (by kernel_rfl) (by simp [Value.oneCell']) (by show 2 ≤ 2; omega) #[.int .i64 ((rd_Tile l0_1 (i : Int)).f0), .int .i64 ((rd_Tile l0_1 (i : Int)).f1)] (by rfl) hp ?_
      intro W_20 hp; simp only [List.set_cons_succ, List.set_cons_zero] at hp
      refine sx_nil ?_
      refine ex_then_n ?_
      refine wp_seq ?_
      refine sx_drawT2 [0, 1, 2, 3, 4, 5, 7] (.rd 6 (.rd 8 (.alt 9 (.fin) .non))) 10 (C := Hp w (blk g_18 #[.int .i64 ((rd_Tile l0_1 (i : Int)).f0), .int .i64 ((rd_Tile l0_1 (i : Int)).f1)] 79 :: blk g_1 #[.slice A0_0 l0_0.length c0_0, .slice A0_1 l0_1.length c0_1, .slice A0_2 l0_2.length c0_2, .int .i64 a0_3, .int .i64 a0_4] 41 :: cs)) (Hp w (blk g_18 #[.int .i64 ((rd_Tile l0_1 (i : Int)).f0), .int .i64 ((rd_Tile l0_1 (i : Int)).f1)] 79 :: blk g_11 #[.slice A0_1 l0_1.length c0_1, .slice (some ⟨g_8, 0, none⟩) ((List.replicate (shlN 100 l0_1.length) false).length) ((List.replicate (shlN 100 l0_1.length) false).length)] 77 :: row Kd.bool 4 w.heap.size (.slice (some ⟨g_8, 0, none⟩) ((List.replicate (shlN 100 l0_1.length) false).length) ((List.replicate (shlN 100 l0_1.length) false).length)) sn2 F2 :: blk g_1 #[.slice A0_0 l0_0.length c0_0, .slice A0_1 l0_1.length c0_1, .slice A0_2 l0_2.length c0_2, .int .i64 a0_3, .int .i64 a0_4] 41 :: cs)) (fun W h => h.take [0, 3] 4 (by decide) (by simp)) (by kernel_rfl) (by kernel_rfl) (fun d _ _ _ _ h => by cases d <;> exact h) (fun W h => h.drew) hp ?_
      refine preI_read rfl ?_
      refine sxq_val 59 (.pointer (some ⟨g_11, 0, none⟩)) (by rfl) (fun W _ => (by kernel_rfl)) ?_
      refine sxq_nil ?_
      refine preI_read rfl ?_
      refine sxq_val 60 (.int .i64 ((2 ^ l0_1.length - 1 : Nat) : Int)) (by rfl) (fun W _ => (by kernel_rfl)) ?_
      refine sxq_nil ?_
      refine preI_read rfl ?_
      refine sxq_val 61 (.int .i64 (i : Int)) (by rfl) (fun W _ => (by kernel_rfl)) ?_
      refine sxq_nil ?_
      refine preI_read rfl ?_
      refine sxq_val 62 (.int .i64 ((shlN 1 i : Nat) : Int)) (by rfl) (fun W _ => (shl_run (a := 1) (i := i) (by rfl) (by rfl) (by rfl) (by omega) (by have := hsh; omega))) ?_
      refine sxq_nil ?_
      refine preI_read rfl ?_
      refine sxq_val 63 (.int .i64 ((clr (2 ^ l0_1.length - 1) i : Nat) : Int)) (by rfl) (fun W _ => (andn_run (by rfl) (by rfl) (by rfl) (by omega) (by omega))) ?_
      refine sxq_nil ?_
      refine preI_read rfl ?_
      refine sxq_val 64 (.pointer (some ⟨g_18, 0, none⟩)) (by rfl) (fun W _ => (by kernel_rfl)) ?_
      refine sxq_nil ?_
      refine preI_read rfl ?_
      refine sxq_val 66 (.pointer (some ⟨g_18, 1, none⟩)) (by rfl) (fun W _ => (by kernel_rfl)) ?_
      refine sxq_nil ?_
      refine preI_nil ?_
      intro W_21 hp
      refine treeI_rd rfl ?_
      refine sxq_val 65 (.int .i64 ((rd_Tile l0_1 (i : Int)).f0)) (by rfl) (fun W hp => (ld1 (t := 3) (p := (.tmp 64)) (by rfl) (by rfl) (by kernel_rfl) (hp.cell 0 (by rfl) 0 _ (by rfl)))) ?_
      refine sxq_nil ?_
      refine treeI_rd rfl ?_
      refine sxq_val 67 (.int .i64 ((rd_Tile l0_1 (i : Int)).f1)) (by rfl) (fun W hp => (ld1 (t := 3) (p := (.tmp 66)) (by rfl) (by rfl) (by kernel_rfl) (hp.cell 0 (by rfl) 1 _ (by rfl)))) ?_
      refine sxq_nil ?_
      refine treeI_ev rfl ?_
      refine sx_call 68 (by rfl) (by kernel_rfl) ((lookS_all 256 w _ (blk g_18 #[.int .i64 ((rd_Tile l0_1 (i : Int)).f0), .int .i64 ((rd_Tile l0_1 (i : Int)).f1)] 79 :: blk g_1 #[.slice A0_0 l0_0.length c0_0, .slice A0_1 l0_1.length c0_1, .slice A0_2 l0_2.length c0_2, .int .i64 a0_3, .int .i64 a0_4] 41 :: cs) l0_1 A0_1 c0_1 g_11 g_8 ((List.replicate (shlN 100 l0_1.length) false).length) ((List.replicate (shlN 100 l0_1.length) false).length) sn2 F2 (clr (2 ^ l0_1.length - 1) i) ((rd_Tile l0_1 (i : Int)).f0) ((rd_Tile l0_1 (i : Int)).f1) (2 ^ l0_1.length) hnd h8 hgd hc0_1 rfl (by omega) (by omega) hN hl2 (by omega) (by omega) (by omega) (by omega) ((OldOk.zero _ _ _).ext hE2) (fun W q => hC0_1 W q.tail.tail) (hp.take [1, 2, 0, 3] 4 (by decide) (by simp))).mono ?_)
      rintro _ W_22 ⟨sn4, FL4, rfl, hl4, hx4, hp⟩
      refine ⟨_, rfl, ?_⟩
      refine step_fin hp.tail.tail ?_
      refine treeI_fin ?_
      refine sx_nil ?_
      refine ex_then_n ?_
      refine sx_cond (sw (subH l0_1 (clr (2 ^ l0_1.length - 1) i)) ((rd_Tile l0_1 (i : Int)).f0) ((rd_Tile l0_1 (i : Int)).f1)) (by rfl) (fun c_23 => ?_) (fun c_23 => ?_)
      ·
       refine wp_seq ?_
       refine sx_region ?_
       refine sx_rd 2 (.bool true) (by rfl) (by kernel_rfl) ?_
       refine sx_rd 3 (.bool true) (by rfl) (by kernel_rfl) ?_
       refine sx_nil ?_
       refine ex_then_n ?_
       refine wp_ret ?_
       refine ex_blk_r (ex_then_r (ex_then_r (ex_blk_r (ex_then_r ?_))))
       refine sx_end (.tuple #[.bool true, .bool true]) (res2 2 3 (by rfl)) ?_
       have hv : swAll l0_1 l0_2 = true := swAll_yes hnd h8 (show l0_2.length = 0 by omega) (show i < l0_1.length by omega) c_23
       rw [how, hv] at h
       rw [if_pos ⟨hgB, h8⟩] at h; simp only [Option.some.injEq, Prod.mk.injEq] at h; obtain ⟨rfl, rfl⟩ := h
       exact ⟨rfl, hc2 _ (hp.tail.tail.tail.tail)⟩
      ·
       refine wp_skip ?_
       refine ex_blk_n ?_
       refine ex_then_n ?_
       refine sx_region ?_
       refine sx_rd 69 (.int .i64 ((i : Int) + 1)) (by rfl) (wr_ok (by omega) (by kernel_rfl)) ?_
       refine sx_rd 54 (.int .i64 ((i : Int) + 1)) (by rfl) (by kernel_rfl) ?_
       refine sx_nil ?_
       refine ex_then_n ?_
       exact ⟨_, (by omega), _, (i + 1), sn4, _, rfl, fr_front [(4, .slice A0_1 l0_1.length c0_1), (5, .pointer (some ⟨g_11, 0, none⟩)), (6, .int .i64 ((2 ^ l0_1.length - 1 : Nat) : Int)), (52, .slice A0_1 l0_1.length c0_1), (53, .int .i64 (l0_1.length : Int)), (54, .int .i64 ((i + 1 : Nat) : Int))] ⟨rfl, rfl, rfl, rfl, rfl, rfl, trivial⟩, (hp.take [0, 1, 3] 4 (by decide) (by simp)), (by omega), hl4, (ExtT.trans hE2 (hx4 c_23)), (fun j hj => by rcases Nat.lt_succ_iff_lt_or_eq.1 hj with q | rfl; exact hno j q; exact c_23)⟩
     ·
      have c_17p := of_decide_eq_false c_17
      refine wp_exit ?_
      refine ex_then_e (ex_then_e (ex_blk_here ?_))
      refine ex_then_n ?_
      refine wp_seq ?_
      refine sx_region ?_
      refine sx_rd 70 (.slice A0_1 l0_1.length c0_1) (by rfl) (by kernel_rfl) ?_
      refine sx_rd 71 (.int .i64 (l0_1.length : Int)) (by rfl) (by kernel_rfl) ?_
      refine sx_rd 72 (.bool ((l0_1.length : Int) == 0)) (by rfl) (by kernel_rfl) ?_
      refine sx_rd 2 (.bool ((l0_1.length : Int) == 0)) (by rfl) (by kernel_rfl) ?_
      refine sx_rd 3 (.bool true) (by rfl) (by kernel_rfl) ?_
      refine sx_nil ?_
      refine ex_then_n ?_
      refine wp_ret ?_
      refine sx_end (.tuple #[.bool ((l0_1.length : Int) == 0), .bool true]) (res2 2 3 (by rfl)) ?_
      have hv : swAll l0_1 l0_2 = ((l0_1.length : Int) == 0) := swAll_no hnd h8 (show l0_2.length = 0 by omega) (fun j hj => hno j (by omega))
      rw [how, hv] at h
      rw [if_pos ⟨hgB, h8⟩] at h; simp only [Option.some.injEq, Prod.mk.injEq] at h; obtain ⟨rfl, rfl⟩ := h
      exact ⟨rfl, hc2 _ (hp.tail.tail.tail)⟩
  ·
   have c_6p := ne_of_beq_ c_6
   refine wp_skip ?_
   refine ex_then_n ?_
   refine wp_seq ?_
   refine wp_seq ?_
   refine sx_region ?_
   refine sx_rd 19 (.slice A0_0 l0_0.length c0_0) (by rfl) (by kernel_rfl) ?_
   refine sx_rd 20 (.int .i64 (l0_0.length : Int)) (by rfl) (by kernel_rfl) ?_
   refine sx_rd 21 (.bool (decide ((l0_0.length : Int) > 8))) (by rfl) (by kernel_rfl) ?_
   refine sx_nil ?_
   refine ex_then_n ?_
   refine sx_cond (decide ((l0_0.length : Int) > 8)) (by rfl) (fun c_24 => ?_) (fun c_24 => ?_)
   ·
    have c_24p := of_decide_eq_true c_24
    refine wp_seq ?_
    refine sx_region ?_
    refine sx_rd 2 (.bool false) (by rfl) (by kernel_rfl) ?_
    refine sx_rd 3 (.bool false) (by rfl) (by kernel_rfl) ?_
    refine sx_nil ?_
    refine ex_then_n ?_
    refine wp_ret ?_
    refine ex_then_r ?_
    refine sx_end (.tuple #[.bool false, .bool false]) (res2 2 3 (by rfl)) ?_
    have how : ownT l0_0 l0_1 a0_3 = l0_0 := by unfold ownT; rw [if_neg (by omega)]
    rw [how] at h
    rw [if_neg (fun q => by have q1 := q.2; omega)] at h; simp only [Option.some.injEq, Prod.mk.injEq] at h; obtain ⟨rfl, rfl⟩ := h
    exact ⟨rfl, hc2 _ (hp.tail)⟩
   ·
    have c_24p := of_decide_eq_false c_24
    have how : ownT l0_0 l0_1 a0_3 = l0_0 := by unfold ownT; rw [if_neg (by omega)]
    have h8 : l0_0.length ≤ 8 := by omega
    obtain ⟨hnd, hgd⟩ := handB_parts hhf
    obtain ⟨hs1, hs2, hs3, hs4⟩ := shl_small l0_0.length h8
    have hsh : shlN 100 l0_0.length ≤ 25600 ∧ shlN 1 l0_0.length ≤ 256 := ⟨hs1, hs2⟩
    have hpw := pow_all l0_0.length h8
    have hN : (List.replicate (shlN 100 l0_0.length) false).length = 100 * 2 ^ l0_0.length := by rw [List.length_replicate]; exact hs4
    refine wp_skip ?_
    refine ex_then_n ?_
    refine wp_seq ?_
    refine sx_region ?_
    refine sx_rd 22 (.slice A0_0 l0_0.length c0_0) (by rfl) (by kernel_rfl) ?_
    refine sx_rd 23 (.slice A0_0 l0_0.length c0_0) (by rfl) (by kernel_rfl) ?_
    refine sx_rd 24 (.int .i64 (l0_0.length : Int)) (by rfl) (by kernel_rfl) ?_
    refine sx_rd 25 (.int .i64 ((shlN 100 l0_0.length : Nat) : Int)) (by rfl) (shl_run (a := 100) (i := l0_0.length) (by rfl) (by rfl) (by rfl) (by omega) (by have := hsh; omega)) ?_
    refine sx_make 26 (by rfl) Kd.bool w.heap.size 4 (shlN 100 l0_0.length) (by rfl) (by rfl) (by rfl) (by omega) Try.underlying75 (.bool false) 1 (by rfl) (by rfl) (by decide) (by decide) false rfl (by omega) hp.size hp ?_
    intro g_25 F_26 W_27 hp
    refine sx_rd 27 (.agg #[.slice A0_0 l0_0.length c0_0, .slice (some ⟨g_25, 0, none⟩) ((List.replicate (shlN 100 l0_0.length) false).length) ((List.replicate (shlN 100 l0_0.length) false).length)]) (by rfl) (by kernel_rfl) ?_
    refine sx_box 28 hp #[.slice A0_0 l0_0.length c0_0, .slice (some ⟨g_25, 0, none⟩) ((List.replicate (shlN 100 l0_0.length) false).length) ((List.replicate (shlN 100 l0_0.length) false).length)] 77 (by rfl) (fun W => by kernel_rfl) ?_
    intro g_28 W_29 hp
    refine sx_rd 5 (.pointer (some ⟨g_28, 0, none⟩)) (by rfl) (by kernel_rfl) ?_
    refine sx_nil ?_
    refine ex_then_n ?_
    refine wp_seq ?_
    refine sx_region ?_
    refine sx_rd 29 (.slice A0_0 l0_0.length c0_0) (by rfl) (by kernel_rfl) ?_
    refine sx_rd 30 (.int .i64 (l0_0.length : Int)) (by rfl) (by kernel_rfl) ?_
    refine sx_rd 31 (.int .i64 ((shlN 1 l0_0.length : Nat) : Int)) (by rfl) (shl_run (a := 1) (i := l0_0.length) (by rfl) (by rfl) (by rfl) (by omega) (by have := hsh; omega)) ?_
    refine sx_rd 32 (.int .i64 ((2 ^ l0_0.length - 1 : Nat) : Int)) (by rfl) (alls_run (n := l0_0.length) (by rfl) (by rfl) (by rfl) (by omega)) ?_
    refine sx_rd 6 (.int .i64 ((2 ^ l0_0.length - 1 : Nat) : Int)) (by rfl) (by kernel_rfl) ?_
    refine sx_nil ?_
    refine ex_then_n ?_
    refine wp_seq ?_
    refine wp_seq ?_
    refine sx_region ?_
    refine sx_rd 33 (.pointer (some ⟨g_1, 2, none⟩)) (by rfl) (by kernel_rfl) ?_
    refine sx_rd 34 (.slice A0_2 l0_2.length c0_2) (by rfl) (ld1 (t := 33) (p := (.tmp 33)) (by rfl) (by rfl) (by kernel_rfl) (hp.cell 2 (by rfl) 2 _ (by rfl))) ?_
    refine sx_rd 35 (.int .i64 (l0_2.length : Int)) (by rfl) (by kernel_rfl) ?_
    refine sx_rd 36 (.bool (decide ((l0_2.length : Int) > 0))) (by rfl) (by kernel_rfl) ?_
    refine sx_nil ?_
    refine ex_then_n ?_
    refine sx_cond (decide ((l0_2.length : Int) > 0)) (by rfl) (fun c_30 => ?_) (fun c_30 => ?_)
    ·
     have c_30p := of_decide_eq_true c_30
     obtain ⟨⟨hea, heb⟩, hec, hed⟩ := game_ends hgB (show l0_2.length ≠ 0 by omega)
     refine wp_seq ?_
     refine sx_drawT2 [0, 1, 2, 6, 8] (.rd 3 (.rd 4 (.rd 5 (.rd 7 (.rd 9 (.rd 10 (.rd 11 (.rd 12 (.rd 13 (.alt 14 (.rd 15 (.rd 16 (.fin))) .non)))))))))) 17 (C := Hp w (blk g_1 #[.slice A0_0 l0_0.length c0_0, .slice A0_1 l0_1.length c0_1, .slice A0_2 l0_2.length c0_2, .int .i64 a0_3, .int .i64 a0_4] 41 :: cs)) (Hp w (blk g_28 #[.slice A0_0 l0_0.length c0_0, .slice (some ⟨g_25, 0, none⟩) ((List.replicate (shlN 100 l0_0.length) false).length) ((List.replicate (shlN 100 l0_0.length) false).length)] 77 :: row Kd.bool 4 w.heap.size (.slice (some ⟨g_25, 0, none⟩) ((List.replicate (shlN 100 l0_0.length) false).length) ((List.replicate (shlN 100 l0_0.length) false).length)) (List.replicate (shlN 100 l0_0.length) false) F_26 :: blk g_1 #[.slice A0_0 l0_0.length c0_0, .slice A0_1 l0_1.length c0_1, .slice A0_2 l0_2.length c0_2, .int .i64 a0_3, .int .i64 a0_4] 41 :: cs)) (fun W h => h.take [2] 3 (by decide) (by simp)) (by kernel_rfl) (by kernel_rfl) (fun d _ _ _ _ h => by cases d <;> exact h) (fun W h => h.drew) hp ?_
     refine preI_read rfl ?_
     refine sxq_val 37 (.pointer (some ⟨g_28, 0, none⟩)) (by rfl) (fun W _ => (by kernel_rfl)) ?_
     refine sxq_nil ?_
     refine preI_read rfl ?_
     refine sxq_val 38 (.int .i64 ((2 ^ l0_0.length - 1 : Nat) : Int)) (by rfl) (fun W _ => (by kernel_rfl)) ?_
     refine sxq_nil ?_
     refine preI_read rfl ?_
     refine sxq_val 39 (.pointer (some ⟨g_1, 2, none⟩)) (by rfl) (fun W _ => (by kernel_rfl)) ?_
     refine sxq_nil ?_
     refine preI_read rfl ?_
     refine sxq_val 43 (.pointer (some ⟨g_1, 2, none⟩)) (by rfl) (fun W _ => (by kernel_rfl)) ?_
     refine sxq_nil ?_
     refine preI_read rfl ?_
     refine sxq_val 45 (.pointer (some ⟨g_1, 2, none⟩)) (by rfl) (fun W _ => (by kernel_rfl)) ?_
     refine sxq_nil ?_
     refine preI_nil ?_
     intro W_31 hp
     refine treeI_rd rfl ?_
     refine sxq_val 40 (.slice A0_2 l0_2.length c0_2) (by rfl) (fun W hp => (ld1 (t := 33) (p := (.tmp 39)) (by rfl) (by rfl) (by kernel_rfl) (hp.cell 0 (by rfl) 2 _ (by rfl)))) ?_
     refine sxq_nil ?_
     refine treeI_rd rfl ?_
     refine sxq_val 41 (.pointer (some (adr A0_2 0 1))) (by rfl) (fun W hp => (ix_run (d := (Kd.int .i64)) (hC0_2 _ hp.tail) (t := 33) (by rfl) (by rfl) (by rfl) Try.underlying33 (by kernel_rfl) (by omega) (by omega))) ?_
     refine sxq_nil ?_
     refine treeI_rd rfl ?_
     refine sxq_val 42 (.int .i64 (rd l0_2 0)) (by rfl) (fun W hp => (ld1 (t := 3) (p := (.tmp 41)) (by rfl) (by rfl) (by kernel_rfl) (el_cell (d := (Kd.int .i64)) (hC0_2 _ hp.tail) 0 0 (by omega) (by omega) (cells := [.int .i64 (rd l0_2 0)]) (fun cs h => h) 0 _ (by rfl)))) ?_
     refine sxq_nil ?_
     refine treeI_rd rfl ?_
     refine sxq_val 44 (.slice A0_2 l0_2.length c0_2) (by rfl) (fun W hp => (ld1 (t := 33) (p := (.tmp 43)) (by rfl) (by rfl) (by kernel_rfl) (hp.cell 0 (by rfl) 2 _ (by rfl)))) ?_
     refine sxq_nil ?_
     refine treeI_rd rfl ?_
     refine sxq_val 46 (.slice A0_2 l0_2.length c0_2) (by rfl) (fun W hp => (ld1 (t := 33) (p := (.tmp 45)) (by rfl) (by rfl) (by kernel_rfl) (hp.cell 0 (by rfl) 2 _ (by rfl)))) ?_
     refine sxq_nil ?_
     refine treeI_rd rfl ?_
     refine sxq_val 47 (.int .i64 (l0_2.length : Int)) (by rfl) (fun W hp => (by kernel_rfl)) ?_
     refine sxq_nil ?_
     refine treeI_rd rfl ?_
     refine sxq_val 48 (.int .i64 ((l0_2.length : Int) - 1)) (by rfl) (fun W hp => (wr_ok (by omega) (by kernel_rfl))) ?_
     refine sxq_nil ?_
     refine treeI_rd rfl ?_
     refine sxq_val 49 (.pointer (some (adr A0_2 ((l0_2.length : Int) - 1) 1))) (by rfl) (fun W hp => (ix_run (d := (Kd.int .i64)) (hC0_2 _ hp.tail) (t := 33) (by rfl) (by rfl) (by rfl) Try.underlying33 (by kernel_rfl) (by omega) (by omega))) ?_
     refine sxq_nil ?_
     refine treeI_rd rfl ?_
     refine sxq_val 50 (.int .i64 (rd l0_2 ((l0_2.length : Int) - 1))) (by rfl) (fun W hp => (ld1 (t := 3) (p := (.tmp 49)) (by rfl) (by rfl) (by kernel_rfl) (el_cell (d := (Kd.int .i64)) (hC0_2 _ hp.tail) 0 ((l0_2.length : Int) - 1) (by omega) (by omega) (cells := [.int .i64 (rd l0_2 ((l0_2.length : Int) - 1))]) (fun cs h => h) 0 _ (by rfl)))) ?_
     refine sxq_nil ?_
     refine treeI_ev rfl ?_
     refine sx_call 51 (by rfl) (by kernel_rfl) ((lookS_all 256 w _ (blk g_1 #[.slice A0_0 l0_0.length c0_0, .slice A0_1 l0_1.length c0_1, .slice A0_2 l0_2.length c0_2, .int .i64 a0_3, .int .i64 a0_4] 41 :: cs) l0_0 A0_0 c0_0 g_28 g_25 ((List.replicate (shlN 100 l0_0.length) false).length) ((List.replicate (shlN 100 l0_0.length) false).length) (List.replicate (shlN 100 l0_0.length) false) F_26 (2 ^ l0_0.length - 1) (rd l0_2 0) (rd l0_2 ((l0_2.length : Int) - 1)) (2 ^ l0_0.length) hnd h8 hgd hc0_0 rfl (by omega) (by omega) hN rfl (by omega) (by omega) (by omega) (by omega) (OldOk.zero _ _ _) (fun W q => hC0_0 W q.tail) (hp.take [0, 1, 2] 3 (by decide) (by simp))).mono ?_)
     rintro _ W_32 ⟨sn4, FL4, rfl, hl4, hx4, hp⟩
     refine ⟨_, rfl, ?_⟩
     refine step_fin hp.tail.tail ?_
     refine treeI_rd rfl ?_
     refine sxq_val 2 (.bool (sw (subH l0_0 (2 ^ l0_0.length - 1)) (rd l0_2 0) (rd l0_2 ((l0_2.length : Int) - 1)))) (by rfl) (fun W hp => (by kernel_rfl)) ?_
     refine sxq_nil ?_
     refine treeI_rd rfl ?_
     refine sxq_val 3 (.bool true) (by rfl) (fun W hp => (by kernel_rfl)) ?_
     refine sxq_nil ?_
     refine treeI_fin ?_
     refine sx_nil ?_
     refine ex_then_n ?_
     refine wp_ret ?_
     refine ex_then_r ?_
     refine sx_end (.tuple #[.bool (sw (subH l0_0 (2 ^ l0_0.length - 1)) (rd l0_2 0) (rd l0_2 ((l0_2.length : Int) - 1))), .bool true]) (res2 2 3 (by rfl)) ?_
     have hv : swAll l0_0 l0_2 = (sw (subH l0_0 (2 ^ l0_0.length - 1)) (rd l0_2 0) (rd l0_2 ((l0_2.length : Int) - 1))) := swAll_row (show l0_2.length ≠ 0 by omega)
     rw [how, hv] at h
     rw [if_pos ⟨hgB, h8⟩] at h; simp only [Option.some.injEq, Prod.mk.injEq] at h; obtain ⟨rfl, rfl⟩ := h
     exact ⟨rfl, hc2 _ (hp.tail.tail.tail)⟩
    ·
     have c_30p := of_decide_eq_false c_30
     refine wp_skip ?_
     refine ex_then_n ?_
     refine wp_seq ?_
     refine wp_seq ?_
     refine sx_region ?_
     refine sx_rd 52 (.slice A0_0 l0_0.length c0_0) (by rfl) (by kernel_rfl) ?_
     refine sx_rd 53 (.int .i64 (l0_0.length : Int)) (by rfl) (by kernel_rfl) ?_
     refine sx_rd 54 (.int .i64 0) (by rfl) (by kernel_rfl) ?_
     refine sx_nil ?_
     refine ex_then_n ?_
     refine wp_block ?_
     refine wp_loop_ghost (fun n_ a_ W => ∃ (r_ : List (Nat × Value)) (i : Nat) (sn2 : List Bool) (F2 : Nat → Prop), n_ = l0_0.length - i ∧ a_ = fr 73 ([(4, .slice A0_0 l0_0.length c0_0), (5, .pointer (some ⟨g_28, 0, none⟩)), (6, .int .i64 ((2 ^ l0_0.length - 1 : Nat) : Int)), (52, .slice A0_0 l0_0.length c0_0), (53, .int .i64 (l0_0.length : Int)), (54, .int .i64 (i : Int))] ++ r_) ∧ Hp w (blk g_28 #[.slice A0_0 l0_0.length c0_0, .slice (some ⟨g_25, 0, none⟩) ((List.replicate (shlN 100 l0_0.length) false).length) ((List.replicate (shlN 100 l0_0.length) false).length)] 77 :: row Kd.bool 4 w.heap.size (.slice (some ⟨g_25, 0, none⟩) ((List.replicate (shlN 100 l0_0.length) false).length) ((List.replicate (shlN 100 l0_0.length) false).length)) sn2 F2 :: blk g_1 #[.slice A0_0 l0_0.length c0_0, .slice A0_1 l0_1.length c0_1, .slice A0_2 l0_2.length c0_2, .int .i64 a0_3, .int .i64 a0_4] 41 :: cs) W ∧ (i ≤ l0_0.length) ∧ (sn2.length = (List.replicate (shlN 100 l0_0.length) false).length) ∧ (ExtT l0_0 (List.replicate (shlN 100 l0_0.length) false) sn2) ∧ (∀ j, j < i → sw (subH l0_0 (clr (2 ^ l0_0.length - 1) j)) (rd_Tile l0_0 (j : Int)).f0 (rd_Tile l0_0 (j : Int)).f1 = false)) _ ⟨_, 0, (List.replicate (shlN 100 l0_0.length) false), _, rfl, fr_front [(4, .slice A0_0 l0_0.length c0_0), (5, .pointer (some ⟨g_28, 0, none⟩)), (6, .int .i64 ((2 ^ l0_0.length - 1 : Nat) : Int)), (52, .slice A0_0 l0_0.length c0_0), (53, .int .i64 (l0_0.length : Int)), (54, .int .i64 ((0 : Nat) : Int))] ⟨rfl, rfl, rfl, rfl, rfl, rfl, trivial⟩, (hp.take [0, 1, 2] 3 (by decide) (by simp)), (Nat.zero_le _), rfl, (ExtT.refl _ _), (fun j hj => absurd hj (Nat.not_lt_zero _))⟩ ?_
     rintro _ _ W_33 ⟨r_, i, sn2, F2, rfl, rfl, hp, hi, hl2, hE2, hno⟩
     refine wp_seq ?_
     refine sx_region ?_
     refine sx_rd 55 (.bool (decide ((i : Int) < (l0_0.length : Int)))) (by rfl) (by kernel_rfl) ?_
     refine sx_nil ?_
     refine ex_then_n ?_
     refine wp_seq ?_
     refine sx_cond (decide ((i : Int) < (l0_0.length : Int))) (by rfl) (fun c_34 => ?_) (fun c_34 => ?_)
     ·
      have c_34p := of_decide_eq_true c_34
      have hgt : goodT (rd_Tile l0_0 (i : Int)) = true := by rw [rdTile_lt (show i < l0_0.length by omega)]; exact hgd _ (List.getElem_mem _)
      have hgt2 := hgt
      unfold goodT at hgt2
      simp only [Bool.and_eq_true, decide_eq_true_eq] at hgt2
      have hcl := clr_bits (2 ^ l0_0.length - 1) (by omega) i (by omega)
      have hshi := (shl8 i (by omega))
      have hsh : shlN 1 i ≤ 128 := hshi
      refine wp_skip ?_
      refine ex_then_n ?_
      refine wp_seq ?_
      refine wp_block ?_
      refine wp_seq ?_
      refine sx_region ?_
      refine sx_rd 56 (.int .i64 (i : Int)) (by rfl) (by kernel_rfl) ?_
      refine sx_rd 57 (.pointer (some (adr A0_0 (i : Int) 2))) (by rfl) (ix_run (d := k79) (hC0_0 _ hp.tail.tail.tail) (t := 39) (by rfl) (by rfl) (by rfl) Try.underlying39 (by kernel_rfl) (by omega) (by omega)) ?_
      refine sx_rd 58 (.agg #[.int .i64 ((rd_Tile l0_0 (i : Int)).f0), .int .i64 ((rd_Tile l0_0 (i : Int)).f1)]) (by rfl) (el_run (d := k79) (hC0_0 _ hp.tail.tail.tail) z79 (i : Int) (by omega) (by omega) (cells := [.int .i64 ((rd_Tile l0_0 (i : Int)).f0), .int .i64 ((rd_Tile l0_0 (i : Int)).f1)]) (fun cs h => k79_open h) 0 [.int .i64 ((rd_Tile l0_0 (i : Int)).f0), .int .i64 ((rd_Tile l0_0 (i : Int)).f1)] (by rfl) (t := 79) (p := (.tmp 57)) (by rfl) (by rfl) (by kernel_rfl) (by kernel_rfl)) ?_
      refine sx_box 8 hp #[.int .i64 0, .int .i64 0] 79 (by rfl) (fun W => by kernel_rfl) ?_
      intro g_35 W_36 hp
      refine sx_rd 7 (.int .i64 (i : Int)) (by rfl) (by kernel_rfl) ?_
      refine sx_store (t := 79) (p := (.tmp 8)) (x := (.tmp 58)) (by rfl) (by rfl) 0 (by rfl) 0 [.int .i64 ((rd_Tile l0_0 (i : Int)).f0), .int .i64 ((rd_Tile l0_0 (i : Int)).f1)] (by rfl) (by rfl) (by kernel_rfl) (by simp [Value.oneCell']) (by show 2 ≤ 2; omega) #[.int .i64 ((rd_Tile l0_0 (i : Int)).f0), .int .i64 ((rd_Tile l0_0 (i : Int)).f1)] (by rfl) hp ?_
      intro W_37 hp; simp only [List.set_cons_succ, List.set_cons_zero] at hp
      refine sx_nil ?_
      refine ex_then_n ?_
      refine wp_seq ?_
      refine sx_drawT2 [0, 1, 2, 3, 4, 5, 7] (.rd 6 (.rd 8 (.alt 9 (.fin) .non))) 10 (C := Hp w (blk g_35 #[.int .i64 ((rd_Tile l0_0 (i : Int)).f0), .int .i64 ((rd_Tile l0_0 (i : Int)).f1)] 79 :: blk g_1 #[.slice A0_0 l0_0.length c0_0, .slice A0_1 l0_1.length c0_1, .slice A0_2 l0_2.length c0_2, .int .i64 a0_3, .int .i64 a0_4] 41 :: cs)) (Hp w (blk g_35 #[.int .i64 ((rd_Tile l0_0 (i : Int)).f0), .int .i64 ((rd_Tile l0_0 (i : Int)).f1)] 79 :: blk g_28 #[.slice A0_0 l0_0.length c0_0, .slice (some ⟨g_25, 0, none⟩) ((List.replicate (shlN 100 l0_0.length) false).length) ((List.replicate (shlN 100 l0_0.length) false).length)] 77 :: row Kd.bool 4 w.heap.size (.slice (some ⟨g_25, 0, none⟩) ((List.replicate (shlN 100 l0_0.length) false).length) ((List.replicate (shlN 100 l0_0.length) false).length)) sn2 F2 :: blk g_1 #[.slice A0_0 l0_0.length c0_0, .slice A0_1 l0_1.length c0_1, .slice A0_2 l0_2.length c0_2, .int .i64 a0_3, .int .i64 a0_4] 41 :: cs)) (fun W h => h.take [0, 3] 4 (by decide) (by simp)) (by kernel_rfl) (by kernel_rfl) (fun d _ _ _ _ h => by cases d <;> exact h) (fun W h => h.drew) hp ?_
      refine preI_read rfl ?_
      refine sxq_val 59 (.pointer (some ⟨g_28, 0, none⟩)) (by rfl) (fun W _ => (by kernel_rfl)) ?_
      refine sxq_nil ?_
      refine preI_read rfl ?_
      refine sxq_val 60 (.int .i64 ((2 ^ l0_0.length - 1 : Nat) : Int)) (by rfl) (fun W _ => (by kernel_rfl)) ?_
      refine sxq_nil ?_
      refine preI_read rfl ?_
      refine sxq_val 61 (.int .i64 (i : Int)) (by rfl) (fun W _ => (by kernel_rfl)) ?_
      refine sxq_nil ?_
      refine preI_read rfl ?_
      refine sxq_val 62 (.int .i64 ((shlN 1 i : Nat) : Int)) (by rfl) (fun W _ => (shl_run (a := 1) (i := i) (by rfl) (by rfl) (by rfl) (by omega) (by have := hsh; omega))) ?_
      refine sxq_nil ?_
      refine preI_read rfl ?_
      refine sxq_val 63 (.int .i64 ((clr (2 ^ l0_0.length - 1) i : Nat) : Int)) (by rfl) (fun W _ => (andn_run (by rfl) (by rfl) (by rfl) (by omega) (by omega))) ?_
      refine sxq_nil ?_
      refine preI_read rfl ?_
      refine sxq_val 64 (.pointer (some ⟨g_35, 0, none⟩)) (by rfl) (fun W _ => (by kernel_rfl)) ?_
      refine sxq_nil ?_
      refine preI_read rfl ?_
      refine sxq_val 66 (.pointer (some ⟨g_35, 1, none⟩)) (by rfl) (fun W _ => (by kernel_rfl)) ?_
      refine sxq_nil ?_
      refine preI_nil ?_
      intro W_38 hp
      refine treeI_rd rfl ?_
      refine sxq_val 65 (.int .i64 ((rd_Tile l0_0 (i : Int)).f0)) (by rfl) (fun W hp => (ld1 (t := 3) (p := (.tmp 64)) (by rfl) (by rfl) (by kernel_rfl) (hp.cell 0 (by rfl) 0 _ (by rfl)))) ?_
      refine sxq_nil ?_
      refine treeI_rd rfl ?_
      refine sxq_val 67 (.int .i64 ((rd_Tile l0_0 (i : Int)).f1)) (by rfl) (fun W hp => (ld1 (t := 3) (p := (.tmp 66)) (by rfl) (by rfl) (by kernel_rfl) (hp.cell 0 (by rfl) 1 _ (by rfl)))) ?_
      refine sxq_nil ?_
      refine treeI_ev rfl ?_
      refine sx_call 68 (by rfl) (by kernel_rfl) ((lookS_all 256 w _ (blk g_35 #[.int .i64 ((rd_Tile l0_0 (i : Int)).f0), .int .i64 ((rd_Tile l0_0 (i : Int)).f1)] 79 :: blk g_1 #[.slice A0_0 l0_0.length c0_0, .slice A0_1 l0_1.length c0_1, .slice A0_2 l0_2.length c0_2, .int .i64 a0_3, .int .i64 a0_4] 41 :: cs) l0_0 A0_0 c0_0 g_28 g_25 ((List.replicate (shlN 100 l0_0.length) false).length) ((List.replicate (shlN 100 l0_0.length) false).length) sn2 F2 (clr (2 ^ l0_0.length - 1) i) ((rd_Tile l0_0 (i : Int)).f0) ((rd_Tile l0_0 (i : Int)).f1) (2 ^ l0_0.length) hnd h8 hgd hc0_0 rfl (by omega) (by omega) hN hl2 (by omega) (by omega) (by omega) (by omega) ((OldOk.zero _ _ _).ext hE2) (fun W q => hC0_0 W q.tail.tail) (hp.take [1, 2, 0, 3] 4 (by decide) (by simp))).mono ?_)
      rintro _ W_39 ⟨sn4, FL4, rfl, hl4, hx4, hp⟩
      refine ⟨_, rfl, ?_⟩
      refine step_fin hp.tail.tail ?_
      refine treeI_fin ?_
      refine sx_nil ?_
      refine ex_then_n ?_
      refine sx_cond (sw (subH l0_0 (clr (2 ^ l0_0.length - 1) i)) ((rd_Tile l0_0 (i : Int)).f0) ((rd_Tile l0_0 (i : Int)).f1)) (by rfl) (fun c_40 => ?_) (fun c_40 => ?_)
      ·
       refine wp_seq ?_
       refine sx_region ?_
       refine sx_rd 2 (.bool true) (by rfl) (by kernel_rfl) ?_
       refine sx_rd 3 (.bool true) (by rfl) (by kernel_rfl) ?_
       refine sx_nil ?_
       refine ex_then_n ?_
       refine wp_ret ?_
       refine ex_blk_r (ex_then_r (ex_then_r (ex_blk_r (ex_then_r ?_))))
       refine sx_end (.tuple #[.bool true, .bool true]) (res2 2 3 (by rfl)) ?_
       have hv : swAll l0_0 l0_2 = true := swAll_yes hnd h8 (show l0_2.length = 0 by omega) (show i < l0_0.length by omega) c_40
       rw [how, hv] at h
       rw [if_pos ⟨hgB, h8⟩] at h; simp only [Option.some.injEq, Prod.mk.injEq] at h; obtain ⟨rfl, rfl⟩ := h
       exact ⟨rfl, hc2 _ (hp.tail.tail.tail.tail)⟩
      ·
       refine wp_skip ?_
       refine ex_blk_n ?_
       refine ex_then_n ?_
       refine sx_region ?_
       refine sx_rd 69 (.int .i64 ((i : Int) + 1)) (by rfl) (wr_ok (by omega) (by kernel_rfl)) ?_
       refine sx_rd 54 (.int .i64 ((i : Int) + 1)) (by rfl) (by kernel_rfl) ?_
       refine sx_nil ?_
       refine ex_then_n ?_
       exact ⟨_, (by omega), _, (i + 1), sn4, _, rfl, fr_front [(4, .slice A0_0 l0_0.length c0_0), (5, .pointer (some ⟨g_28, 0, none⟩)), (6, .int .i64 ((2 ^ l0_0.length - 1 : Nat) : Int)), (52, .slice A0_0 l0_0.length c0_0), (53, .int .i64 (l0_0.length : Int)), (54, .int .i64 ((i + 1 : Nat) : Int))] ⟨rfl, rfl, rfl, rfl, rfl, rfl, trivial⟩, (hp.take [0, 1, 3] 4 (by decide) (by simp)), (by omega), hl4, (ExtT.trans hE2 (hx4 c_40)), (fun j hj => by rcases Nat.lt_succ_iff_lt_or_eq.1 hj with q | rfl; exact hno j q; exact c_40)⟩
     ·
      have c_34p := of_decide_eq_false c_34
      refine wp_exit ?_
      refine ex_then_e (ex_then_e (ex_blk_here ?_))
      refine ex_then_n ?_
      refine wp_seq ?_
      refine sx_region ?_
      refine sx_rd 70 (.slice A0_0 l0_0.length c0_0) (by rfl) (by kernel_rfl) ?_
      refine sx_rd 71 (.int .i64 (l0_0.length : Int)) (by rfl) (by kernel_rfl) ?_
      refine sx_rd 72 (.bool ((l0_0.length : Int) == 0)) (by rfl) (by kernel_rfl) ?_
      refine sx_rd 2 (.bool ((l0_0.length : Int) == 0)) (by rfl) (by kernel_rfl) ?_
      refine sx_rd 3 (.bool true) (by rfl) (by kernel_rfl) ?_
      refine sx_nil ?_
      refine ex_then_n ?_
      refine wp_ret ?_
      refine sx_end (.tuple #[.bool ((l0_0.length : Int) == 0), .bool true]) (res2 2 3 (by rfl)) ?_
      have hv : swAll l0_0 l0_2 = ((l0_0.length : Int) == 0) := swAll_no hnd h8 (show l0_2.length = 0 by omega) (fun j hj => hno j (by omega))
      rw [how, hv] at h
      rw [if_pos ⟨hgB, h8⟩] at h; simp only [Option.some.injEq, Prod.mk.injEq] at h; obtain ⟨rfl, rfl⟩ := h
      exact ⟨rfl, hc2 _ (hp.tail.tail.tail)⟩
end Go.Proofs.Ytkjaahmlnbgnjaa.Hd
