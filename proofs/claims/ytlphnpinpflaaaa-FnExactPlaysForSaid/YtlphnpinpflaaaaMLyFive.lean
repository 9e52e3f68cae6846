/- spec.AllFives, by hand. -/
import Derived.Test.YtlphnpinpflaaaaMLyEx
namespace Go.Proofs.Ytlphnpinpflaaaa.Hd
open Go.RowKit Go.Proofs.Ytlphnpinpflaaaa.Pure Go.Proofs.YtlphnpinpflaaaaW.PrintWords Go.Proofs.YtlphnpinpflaaaaW.PrintLast Go.Proofs.YtlphnpinpflaaaaW.PrintMore
set_option linter.unusedVariables false
set_option linter.unusedSimpArgs false
theorem fold_can {l : List S_Play} {s s1 : LySt} (i : Nat) (h : i < l.length) (hf : l.foldlM lyAdd lyS0 = some s) (hs : (l.take i).foldlM lyAdd lyS0 = some s1) : lyCan s1 l[i] = true := by
  cases hc : lyCan s1 l[i] with
  | true => rfl
  | false =>
    have := foldM_none lyAdd lyS0 l (i + 1) (by rw [foldM_next lyAdd lyS0 l i h s1 hs]; simp [lyAdd, hc])
    rw [this] at hf; cases hf
theorem read_fold {l : List S_Play} {s : LySt} (h : lyReadF l = some s) : l.foldlM lyAdd lyS0 = some s := by
  unfold lyReadF at h
  split at h
  · cases h
  · exact h
/-- The points behind each of the first n plays. -/
def fivesTo (l : List S_Play) : Nat → Int
  | 0 => 0
  | n + 1 => fivesTo l n + lyPointsF (((l.take (n + 1)).foldlM lyAdd lyS0).getD lyS0)
theorem lyPointsF_bd {s : LySt} {n : Nat} (h : LyOk s n) (hn : n ≤ 28) : -200 ≤ lyPointsF s ∧ lyPointsF s ≤ 1800 := by
  have := lySumF_bd s (by have := h.ti; omega) (by have := h.ar; omega) ⟨h.ends, h.tiles⟩
  unfold lyPointsF
  split <;> omega
theorem fivesTo_bd (l : List S_Play) (hl : l.length ≤ 28) {s : LySt} (hf : l.foldlM lyAdd lyS0 = some s) : ∀ n, n ≤ l.length → -200 * (n : Int) ≤ fivesTo l n ∧ fivesTo l n ≤ 1800 * (n : Int) := by
  intro n
  induction n with
  | zero => intro _; simp [fivesTo]
  | succ n ih =>
    intro h
    have h1 := ih (by omega)
    cases hs : (l.take (n + 1)).foldlM lyAdd lyS0 with
    | none => have := foldM_none lyAdd lyS0 l (n + 1) hs; rw [this] at hf; cases hf
    | some s1 =>
      have hok := lyOk_fold _ _ _ _ lyOk_start hs
      rw [Nat.zero_add, List.length_take, Nat.min_eq_left h] at hok
      have h2 := lyPointsF_bd hok (by omega)
      simp only [fivesTo, hs, Option.getD_some]
      omega
def spec_AllFives.f (l : List S_Play) : Option (Int × Bool) := if l.length ≤ 8388608 then (match lyReadF l with | some _ => some (fivesTo l l.length, true) | none => some (0, false)) else none
set_option maxRecDepth 100000 in
set_option maxHeartbeats 40000000 in
theorem spec_AllFives.calls (A0 : Option Addr) (c0 : Nat) (l0 : List S_Play) (r0 : Int) (r1 : Bool) (w : World) (hr0 : Kd.C k53 w A0 l0.length l0) (hc0 : l0.length ≤ c0) (h : spec_AllFives.f l0 = some (r0, r1)) :
    Calls Try.prog 19 #[.slice A0 l0.length c0] w fun e w' => e = .returned (.tuple #[.int .i64 r0, .bool r1]) ∧ Below w.heap.size w w' := by
  unfold spec_AllFives.f at h
  by_cases hsz : l0.length ≤ 8388608
  · rw [if_pos hsz] at h
    have hlen : l0.length ≤ 8388608 := hsz
    obtain ⟨cs, hcs⟩ : ∃ cs, cs = [old w w.heap.size] := ⟨_, rfl⟩
    have hp : Hp w cs w := by rw [hcs]; exact Hp.old_start w
    have hc2 : ∀ W, Hp w cs W → Below w.heap.size w W := fun W h => by rw [hcs] at h; exact h.since 0 _ rfl
    have hC : ∀ W, Hp w cs W → Kd.C k53 W A0 l0.length l0 := fun W h => Kd.C_below hr0 (hc2 W h)
    clear hcs
    cases hf : lyReadF l0 with
    | none =>
      rw [hf] at h; simp only [Option.some.injEq, Prod.mk.injEq] at h; obtain ⟨rfl, rfl⟩ := h
      refine sx_enter (N := 33) (l := [.slice A0 l0.length c0]) Try.func19 rfl rfl rfl ?_
      refine wp_seq ?_
      refine sx_region ?_
      refine sx_rd 2 (.int .i64 0) (by rfl) (by kernel_rfl) ?_
      refine sx_rd 3 (.bool false) (by rfl) (by kernel_rfl) ?_
      refine sx_nil ?_
      refine ex_then_n ?_
      refine wp_seq ?_
      refine wp_seq ?_
      refine sx_region ?_
      refine sx_rd 11 (.slice A0 l0.length c0) (by rfl) (by kernel_rfl) ?_
      refine sx_call 12 (by rfl) (by kernel_rfl) ((lyRead_none w _ cs l0 A0 c0 hlen hC hp hf).mono ?_)
      rintro _ W_1 ⟨g, rfl, hp⟩
      refine ⟨_, rfl, ?_⟩
      refine sx_rd 10 (.tuple #[.pointer (some ⟨g, 0, none⟩), .bool false]) (by rfl) (by kernel_rfl) ?_
      refine sx_rd 13 (.pointer (some ⟨g, 0, none⟩)) (by rfl) (by kernel_rfl) ?_
      refine sx_rd 14 (.bool false) (by rfl) (by kernel_rfl) ?_
      refine sx_rd 4 (.pointer (some ⟨g, 0, none⟩)) (by rfl) (by kernel_rfl) ?_
      refine sx_rd 5 (.bool false) (by rfl) (by kernel_rfl) ?_
      refine sx_nil ?_
      refine ex_then_n ?_
      refine wp_seq ?_
      refine sx_region ?_
      refine sx_rd 15 (.bool false) (by rfl) (by kernel_rfl) ?_
      refine sx_rd 16 (.bool true) (by rfl) (by kernel_rfl) ?_
      refine sx_nil ?_
      refine ex_then_n ?_
      refine sx_then true (by rfl) rfl ?_
      refine wp_seq ?_
      refine sx_region ?_
      refine sx_rd 2 (.int .i64 0) (by rfl) (by kernel_rfl) ?_
      refine sx_rd 3 (.bool false) (by rfl) (by kernel_rfl) ?_
      refine sx_nil ?_
      refine ex_then_n ?_
      refine wp_ret ?_
      refine ex_then_r ?_
      refine sx_end (.tuple #[.int .i64 0, .bool false]) (res2 2 3 (by rfl)) ?_
      exact ⟨rfl, hc2 _ (hp)⟩
    | some s =>
      rw [hf] at h; simp only [Option.some.injEq, Prod.mk.injEq] at h; obtain ⟨rfl, rfl⟩ := h
      obtain ⟨hok, hl28⟩ := lyOk_read hf
      have hfold := read_fold hf
      refine sx_enter (N := 33) (l := [.slice A0 l0.length c0]) Try.func19 rfl rfl rfl ?_
      refine wp_seq ?_
      refine sx_region ?_
      refine sx_rd 2 (.int .i64 0) (by rfl) (by kernel_rfl) ?_
      refine sx_rd 3 (.bool false) (by rfl) (by kernel_rfl) ?_
      refine sx_nil ?_
      refine ex_then_n ?_
      refine wp_seq ?_
      refine wp_seq ?_
      refine sx_region ?_
      refine sx_rd 11 (.slice A0 l0.length c0) (by rfl) (by kernel_rfl) ?_
      refine sx_call 12 (by rfl) (by kernel_rfl) ((lyRead_some w _ cs l0 A0 c0 hlen hC hp s hf).mono ?_)
      rintro _ W_1 ⟨g, A1, c1, A2, c2, F1, F2, rfl, hp⟩
      refine ⟨_, rfl, ?_⟩
      replace hp := hp.tail.tail.tail
      refine sx_rd 10 (.tuple #[.pointer (some ⟨g, 0, none⟩), .bool true]) (by rfl) (by kernel_rfl) ?_
      refine sx_rd 13 (.pointer (some ⟨g, 0, none⟩)) (by rfl) (by kernel_rfl) ?_
      refine sx_rd 14 (.bool true) (by rfl) (by kernel_rfl) ?_
      refine sx_rd 4 (.pointer (some ⟨g, 0, none⟩)) (by rfl) (by kernel_rfl) ?_
      refine sx_rd 5 (.bool true) (by rfl) (by kernel_rfl) ?_
      refine sx_nil ?_
      refine ex_then_n ?_
      refine wp_seq ?_
      refine sx_region ?_
      refine sx_rd 15 (.bool true) (by rfl) (by kernel_rfl) ?_
      refine sx_rd 16 (.bool false) (by rfl) (by kernel_rfl) ?_
      refine sx_nil ?_
      refine ex_then_n ?_
      refine sx_else false (by rfl) rfl ?_
      refine wp_skip ?_
      refine ex_then_n ?_
      refine wp_seq ?_
      refine sx_region ?_
      refine sx_call 17 (by rfl) (by kernel_rfl) ((lyNew_sx w _ _ hp).mono ?_)
      rintro _ W_2 ⟨q, rfl, hp⟩
      refine ⟨_, rfl, ?_⟩
      replace hp := (hp.nilrow k51 51 w.heap.size).nilrow k85 85 w.heap.size
      refine sx_rd 6 (.pointer (some ⟨q, 0, none⟩)) (by rfl) (by kernel_rfl) ?_
      refine sx_rd 7 (.int .i64 0) (by rfl) (by kernel_rfl) ?_
      refine sx_nil ?_
      refine ex_then_n ?_
      refine wp_seq ?_
      refine wp_seq ?_
      refine sx_region ?_
      refine sx_rd 18 (.slice A0 l0.length c0) (by rfl) (by kernel_rfl) ?_
      refine sx_rd 19 (.int .i64 (l0.length : Int)) (by rfl) (by kernel_rfl) ?_
      refine sx_rd 20 (.int .i64 0) (by rfl) (by kernel_rfl) ?_
      refine sx_nil ?_
      refine ex_then_n ?_
      refine wp_block ?_
      refine wp_loop_ghost (fun n a W => ∃ (r : List (Nat × Value)) (i : Nat) (s1 : LySt) (A1 : Option Addr) (c1 : Nat) (A2 : Option Addr) (c2 : Nat) (F1 F2 : Nat → Prop), n = l0.length - i ∧ a = fr 33 ([(6, .pointer (some ⟨q, 0, none⟩)), (7, .int .i64 (fivesTo l0 i)), (18, .slice A0 l0.length c0), (19, .int .i64 (l0.length : Int)), (20, .int .i64 (i : Int))] ++ r) ∧ Hp w (blk q #[.slice A1 s1.ar.length c1, .slice A2 s1.ti.length c2, .int .i64 s1.sp, .int .i64 s1.wt, .bool s1.fi, .bool s1.l0, .bool s1.l1] 83 :: row k85 85 w.heap.size (.slice A1 s1.ar.length c1) s1.ar F1 :: row k51 51 w.heap.size (.slice A2 s1.ti.length c2) s1.ti F2 :: cs) W ∧ (i ≤ l0.length) ∧ ((l0.take i).foldlM lyAdd lyS0 = some s1)) _ ⟨_, 0, lyS0, _, _, _, _, _, _, rfl, fr_front [(6, .pointer (some ⟨q, 0, none⟩)), (7, .int .i64 0), (18, .slice A0 l0.length c0), (19, .int .i64 (l0.length : Int)), (20, .int .i64 0)] ⟨rfl, rfl, rfl, rfl, rfl, trivial⟩, (hp.take [2, 0, 1] 3 (by decide) (by simp)), Nat.zero_le _, rfl⟩ ?_
      rintro _ _ W_3 ⟨r, i, s1, A1, c1, A2, c2, F1, F2, rfl, rfl, hp, hi, hs⟩
      have hok1 := lyOk_fold _ _ _ _ lyOk_start hs
      rw [Nat.zero_add, List.length_take, Nat.min_eq_left hi] at hok1
      have hfb := fivesTo_bd l0 hl28 hfold i hi
      refine wp_seq ?_
      refine sx_region ?_
      refine sx_rd 21 (.bool (decide ((i : Int) < (l0.length : Int)))) (by rfl) (by kernel_rfl) ?_
      refine sx_nil ?_
      refine ex_then_n ?_
      refine wp_seq ?_
      refine sx_cond (decide ((i : Int) < (l0.length : Int))) (by rfl) (fun c_4 => ?_) (fun c_4 => ?_)
      ·
        have c_4p := of_decide_eq_true c_4
        refine wp_skip ?_
        refine ex_then_n ?_
        refine wp_seq ?_
        refine wp_block ?_
        refine wp_seq ?_
        refine sx_region ?_
        refine sx_rd 22 (.pointer (some (adr A0 (i : Int) 3))) (by rfl) (ix_run (d := k53) (hC _ hp.tail.tail.tail) (t := 26) (by rfl) (by rfl) (by rfl) Try.underlying26 (by kernel_rfl) (by omega) (by omega)) ?_
        refine sx_rd 23 (.agg #[.int .i64 ((rd_Play l0 (i : Int)).f0.f0), .int .i64 ((rd_Play l0 (i : Int)).f0.f1), .int .i64 ((rd_Play l0 (i : Int)).f1)]) (by rfl) (el_run (d := k53) (hC _ hp.tail.tail.tail) z53 (i : Int) (by omega) (by omega) (cells := [.int .i64 ((rd_Play l0 (i : Int)).f0.f0), .int .i64 ((rd_Play l0 (i : Int)).f0.f1), .int .i64 ((rd_Play l0 (i : Int)).f1)]) (fun cs h => k53_open h) 0 [.int .i64 ((rd_Play l0 (i : Int)).f0.f0), .int .i64 ((rd_Play l0 (i : Int)).f0.f1), .int .i64 ((rd_Play l0 (i : Int)).f1)] (by rfl) (t := 53) (p := (.tmp 22)) (by rfl) (by rfl) (by kernel_rfl) (by kernel_rfl)) ?_
        refine sx_box 9 hp #[.int .i64 0, .int .i64 0, .int .i64 0] 53 (by rfl) (fun W => by kernel_rfl) ?_
        intro g_5 W_6 hp
        refine sx_store (t := 53) (p := (.tmp 9)) (x := (.tmp 23)) (by rfl) (by rfl) 0 (by rfl) 0 [.int .i64 ((rd_Play l0 (i : Int)).f0.f0), .int .i64 ((rd_Play l0 (i : Int)).f0.f1), .int .i64 ((rd_Play l0 (i : Int)).f1)] (by rfl) (by rfl) (by kernel_rfl) (by simp [Value.oneCell']) (by show 3 ≤ 3; omega) #[.int .i64 ((rd_Play l0 (i : Int)).f0.f0), .int .i64 ((rd_Play l0 (i : Int)).f0.f1), .int .i64 ((rd_Play l0 (i : Int)).f1)] (by rfl) hp ?_
        intro W_7 hp; simp only [List.set_cons_succ, List.set_cons_zero] at hp
        refine sx_nil ?_
        refine ex_then_n ?_
        refine wp_seq ?_
        refine sx_region ?_
        refine sx_rd 24 (.pointer (some ⟨q, 0, none⟩)) (by rfl) (by kernel_rfl) ?_
        refine sx_rd 25 (.agg #[.int .i64 ((rd_Play l0 (i : Int)).f0.f0), .int .i64 ((rd_Play l0 (i : Int)).f0.f1), .int .i64 ((rd_Play l0 (i : Int)).f1)]) (by rfl) (ldn (t := 53) (p := (.tmp 9)) (by rfl) (by rfl) (by kernel_rfl) (by kernel_rfl) (by kernel_rfl) (hp.at_ 0 _ (by rfl))) ?_
        have hcan : lyCan s1 (rd_Play l0 (i : Int)) = true := by rw [rd_play l0 i (by omega)]; exact fold_can i (by omega) hfold hs
        refine sx_call 26 (by rfl) (by kernel_rfl) ((lyAdd_sx w _ (blk g_5 #[.int .i64 ((rd_Play l0 (i : Int)).f0.f0), .int .i64 ((rd_Play l0 (i : Int)).f0.f1), .int .i64 ((rd_Play l0 (i : Int)).f1)] 53 :: cs) q s1 A1 c1 A2 c2 w.heap.size F1 F2 (rd_Play l0 (i : Int)) (Nat.le_refl _) (by have := hok1.ti; omega) (by have := hok1.ar; omega) (hp.take [1, 2, 3, 0] 4 (by decide) (by simp))).mono ?_)
        rintro _ W_8 ⟨s', A1', c1', A2', c2', F1', F2', rfl, hs', hp⟩
        refine ⟨.bool true, congrArg (fun b => Ending.returned (.bool b)) hcan, ?_⟩
        rw [hcan, if_pos rfl] at hs'
        have hn : (l0.take (i + 1)).foldlM lyAdd lyS0 = some s' := by rw [foldM_next lyAdd lyS0 l0 i (by omega) s1 hs, ← rd_play l0 i (by omega), hs']; simp [lyAdd, hcan]
        have hok2 := lyOk_fold _ _ _ _ lyOk_start hn
        rw [Nat.zero_add, List.length_take, Nat.min_eq_left (by omega)] at hok2
        have hpb := lyPointsF_bd hok2 (by omega)
        refine sx_nil ?_
        refine ex_then_n ?_
        refine sx_region ?_
        refine sx_rd 27 (.int .i64 (fivesTo l0 i)) (by rfl) (by kernel_rfl) ?_
        refine sx_rd 28 (.pointer (some ⟨q, 0, none⟩)) (by rfl) (by kernel_rfl) ?_
        refine sx_call 29 (by rfl) (by kernel_rfl) ((lyPoints_sx w _ (blk g_5 #[.int .i64 ((rd_Play l0 (i : Int)).f0.f0), .int .i64 ((rd_Play l0 (i : Int)).f0.f1), .int .i64 ((rd_Play l0 (i : Int)).f1)] 53 :: cs) q s' A1' c1' A2' c2' w.heap.size F1' F2' (by have := hok2.ti; omega) (by have := hok2.ar; omega) ⟨hok2.ends, hok2.tiles⟩ (hp.take [0, 1, 2, 3] 4 (by decide) (by simp))).mono ?_)
        rintro _ W_9 ⟨rfl, hp⟩
        refine ⟨_, rfl, ?_⟩
        refine sx_rd 30 (.int .i64 ((fivesTo l0 i) + (lyPointsF s'))) (by rfl) (wr_ok (by omega) (by kernel_rfl)) ?_
        refine sx_rd 7 (.int .i64 ((fivesTo l0 i) + (lyPointsF s'))) (by rfl) (by kernel_rfl) ?_
        refine sx_nil ?_
        refine ex_blk_n ?_
        refine ex_then_n ?_
        refine sx_region ?_
        refine sx_rd 31 (.int .i64 ((i : Int) + 1)) (by rfl) (wr_ok (by omega) (by kernel_rfl)) ?_
        refine sx_rd 20 (.int .i64 ((i : Int) + 1)) (by rfl) (by kernel_rfl) ?_
        refine sx_nil ?_
        refine ex_then_n ?_
        have hnx : fivesTo l0 i + lyPointsF s' = fivesTo l0 (i + 1) := by simp only [fivesTo, hn, Option.getD_some]
        exact ⟨_, (show l0.length - (i + 1) < l0.length - i by omega), _, i + 1, s', _, _, _, _, _, _, rfl, fr_front [(6, .pointer (some ⟨q, 0, none⟩)), (7, .int .i64 (fivesTo l0 (i + 1))), (18, .slice A0 l0.length c0), (19, .int .i64 (l0.length : Int)), (20, .int .i64 ((i + 1 : Nat) : Int))] ⟨rfl, congrArg (Value.int .i64) hnx, rfl, rfl, rfl, trivial⟩, (hp.take [0, 1, 2] 4 (by decide) (by simp)), (by omega), hn⟩
      ·
        have c_4p := of_decide_eq_false c_4
        refine wp_exit ?_
        refine ex_then_e (ex_then_e (ex_blk_here ?_))
        refine ex_then_n ?_
        refine wp_seq ?_
        refine sx_region ?_
        refine sx_rd 32 (.int .i64 (fivesTo l0 i)) (by rfl) (by kernel_rfl) ?_
        refine sx_rd 2 (.int .i64 (fivesTo l0 i)) (by rfl) (by kernel_rfl) ?_
        refine sx_rd 3 (.bool true) (by rfl) (by kernel_rfl) ?_
        refine sx_nil ?_
        refine ex_then_n ?_
        refine wp_ret ?_
        refine sx_end (.tuple #[.int .i64 (fivesTo l0 i), .bool true]) (res2 2 3 (by rfl)) ?_
        obtain rfl : i = l0.length := by omega
        exact ⟨rfl, hc2 _ (hp.tail.tail.tail)⟩
  · rw [if_neg hsz] at h
    cases h
end Go.Proofs.Ytlphnpinpflaaaa.Hd
