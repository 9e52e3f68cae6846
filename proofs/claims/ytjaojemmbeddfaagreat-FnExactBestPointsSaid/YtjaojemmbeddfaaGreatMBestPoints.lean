/- impl.BestPoints, by hand. -/
import Derived.Test.YtjaojemmbeddfaaGreatMFateW
import Derived.Test.YtjaojemmbeddfaaGreatPGame
import Derived.Test.YtjaojemmbeddfaaGreatPFate2
import Derived.Test.YtjaojemmbeddfaaGreatPKeyF
import Derived.Test.YtjaojemmbeddfaaGreatG2
import Derived.Test.YtjaojemmbeddfaaGreatG4
namespace Go.Proofs.YtjaojemmbeddfaaGreat.Pure
open Go Go.RowKit Go.Proofs.YtjaojemmbeddfaaGreat.Hd Go.Proofs.YtjaojemmbeddfaaGreatW.PrintWords Go.Proofs.YtjaojemmbeddfaaGreatW.PrintLast
set_option linter.unusedVariables false
set_option linter.unusedSimpArgs false
def smallB (f s : List S_Tile) (r : List Int) (t p : Int) : Bool := gameB f s r t p && decide (f.length + s.length ≤ 8)
theorem small_dec (f s : List S_Tile) (hf : f.length ≤ 1048576) (hs : s.length ≤ 1048576) : decide ((wrap64 ((f.length : Int) + (s.length : Int))) ≤ 8) = decide (f.length + s.length ≤ 8) := by
  rw [w64' (n := (f.length : Int) + (s.length : Int)) rfl (by omega) (by omega)]
  by_cases h : f.length + s.length ≤ 8
  · rw [decide_eq_true h, decide_eq_true (by omega)]
  · rw [decide_eq_false h, decide_eq_false (by omega)]
theorem isSmall_ev (f s : List S_Tile) (r : List Int) (t p : Int) (hf : f.length ≤ 1048576) (hs : s.length ≤ 1048576) (hr : r.length ≤ 1048576) : Ev (fun k => impl_isSmall.f k f s r t p) (smallB f s r t p) := by
  unfold impl_isSmall.f smallB
  refine Ev.bd (isGame_ev f s r t p hf hs hr) ?_
  rw [small_dec f s hf hs]
  cases h : gameB f s r t p with
  | true => exact Ev.pos rfl (Ev.ret (by rw [Bool.true_and]))
  | false => exact Ev.neg (by decide) (Ev.ret (by rw [Bool.false_and]))
theorem plSmall_ev (f s : List S_Tile) (r : List Int) (t p : Int) (hf : f.length ≤ 1048576) (hs : s.length ≤ 1048576) (hr : r.length ≤ 1048576) : Ev (fun k => spec_plSmall.f k f s r t p) (smallB f s r t p) := by
  unfold spec_plSmall.f smallB
  refine Ev.bd (plGood_ev f s r t p hf hs hr) ?_
  rw [small_dec f s hf hs]
  cases h : gameB f s r t p with
  | true => exact Ev.pos rfl (Ev.ret (by rw [Bool.true_and]))
  | false => exact Ev.neg (by decide) (Ev.ret (by rw [Bool.false_and]))
theorem small_of {f s : List S_Tile} {r : List Int} {t p : Int} (h : smallB f s r t p = true) (hr : r.length ≤ 1048576) : GmOk ⟨f, s, r, t, p⟩ ∧ RowOk r ∧ r.length + 2 * (Gm.mu ⟨f, s, r, t, p⟩) ≤ 2000000 ∧ costF ⟨f, s, r, t, p⟩ ≤ 51053907 := by
  unfold smallB at h
  rw [Bool.and_eq_true, decide_eq_true_eq] at h
  have ho := GmOk.of h.1
  have hp := ho.p
  refine ⟨ho, ?_, ?_, cost_small ho h.2⟩
  · have h2 := h.1
    unfold gameB rowB chainB at h2
    simp only [Bool.and_eq_true, Bool.or_eq_true, decide_eq_true_eq] at h2
    rcases h2.2.1 with q | q
    · intro x hx
      rw [List.eq_nil_of_length_eq_zero q] at hx
      exact absurd hx List.not_mem_nil
    · intro x hx
      have h3 := List.all_eq_true.1 q.2.2.1 x hx
      unfold inB at h3
      simpa only [Bool.and_eq_true, decide_eq_true_eq] using h3
  · have h3 := h.2
    unfold Gm.mu
    dsimp only at hp ⊢
    omega
def resBestPoints (f s : List S_Tile) (r : List Int) (t p : Int) : Int × Bool := if smallB f s r t p = true then ((fateF ⟨f, s, r, t, p⟩).pts, true) else (0, false)
end Go.Proofs.YtjaojemmbeddfaaGreat.Pure
namespace Go.Proofs.YtjaojemmbeddfaaGreat.Hd
open Go Go.Maps Go.RowKit Go.Proofs.YtjaojemmbeddfaaGreat.Pure Go.Proofs.YtjaojemmbeddfaaGreatW.PrintWords Go.Proofs.YtjaojemmbeddfaaGreatW.PrintLast Go.Proofs.YtjaojemmbeddfaaGreatW.PrintMore
set_option linter.unusedVariables false
set_option linter.unusedSimpArgs false
def impl_BestPoints.f (f s : List S_Tile) (r : List Int) (t p : Int) : Option (Int × Bool) := if f.length ≤ 1048576 ∧ s.length ≤ 1048576 ∧ r.length ≤ 1048576 then some (resBestPoints f s r t p) else none
set_option maxRecDepth 100000 in
set_option maxHeartbeats 40000000 in
theorem impl_BestPoints.calls (A0_0 : Option Addr) (c0_0 : Nat) (l0_0 : List S_Tile) (A0_1 : Option Addr) (c0_1 : Nat) (l0_1 : List S_Tile) (A0_2 : Option Addr) (c0_2 : Nat) (l0_2 : List Int) (a0_3 : Int) (a0_4 : Int) (r0 : Int) (r1 : Bool) (w : World) (hr0_0 : Kd.C k53 w A0_0 l0_0.length l0_0) (hc0_0 : l0_0.length ≤ c0_0) (hr0_1 : Kd.C k53 w A0_1 l0_1.length l0_1) (hc0_1 : l0_1.length ≤ c0_1) (hr0_2 : Kd.C (Kd.int .i64) w A0_2 l0_2.length l0_2) (hc0_2 : l0_2.length ≤ c0_2) (h : impl_BestPoints.f l0_0 l0_1 l0_2 a0_3 a0_4 = some (r0, r1)) :
    Calls Tryz.prog 14 #[.agg #[.slice A0_0 l0_0.length c0_0, .slice A0_1 l0_1.length c0_1, .slice A0_2 l0_2.length c0_2, .int .i64 a0_3, .int .i64 a0_4]] w fun e w' => e = .returned (.tuple #[.int .i64 r0, .bool r1]) ∧ Below w.heap.size w w' := by
  unfold impl_BestPoints.f resBestPoints at h
  by_cases hsz : l0_0.length ≤ 1048576 ∧ l0_1.length ≤ 1048576 ∧ l0_2.length ≤ 1048576
  case neg => rw [if_neg hsz] at h; cases h
  rw [if_pos hsz] at h
  obtain ⟨hy0, hy1, hy2⟩ := hsz
  obtain ⟨cs, hcs⟩ : ∃ cs, cs = [old w w.heap.size] := ⟨_, rfl⟩
  have hp : Hp w cs w := by rw [hcs]; exact Hp.old_start w
  have hc2 : ∀ W, Hp w cs W → Below w.heap.size w W := fun W h => by rw [hcs] at h; exact h.since 0 _ rfl
  have hC0_0 : ∀ W, Hp w cs W → Kd.C k53 W A0_0 l0_0.length l0_0 := fun W h => Kd.C_below hr0_0 (hc2 W h)
  have hC0_1 : ∀ W, Hp w cs W → Kd.C k53 W A0_1 l0_1.length l0_1 := fun W h => Kd.C_below hr0_1 (hc2 W h)
  have hC0_2 : ∀ W, Hp w cs W → Kd.C (Kd.int .i64) W A0_2 l0_2.length l0_2 := fun W h => Kd.C_below hr0_2 (hc2 W h)
  clear hcs
  refine sx_enter (N := 11) (l := [.agg #[.slice A0_0 l0_0.length c0_0, .slice A0_1 l0_1.length c0_1, .slice A0_2 l0_2.length c0_2, .int .i64 a0_3, .int .i64 a0_4]]) Tryz.func14 rfl rfl rfl ?_
  refine wp_seq ?_
  refine sx_region ?_
  refine sx_box 1 hp #[.slice A0_0 l0_0.length c0_0, .slice A0_1 l0_1.length c0_1, .slice A0_2 l0_2.length c0_2, .int .i64 a0_3, .int .i64 a0_4] 31 (by rfl) (fun W => by kernel_rfl) ?_
  intro g_1 W_2 hp
  refine sx_rd 2 (.int .i64 0) (by rfl) (by kernel_rfl) ?_
  refine sx_rd 3 (.bool false) (by rfl) (by kernel_rfl) ?_
  refine sx_nil ?_
  refine ex_then_n ?_
  refine wp_seq ?_
  refine wp_seq ?_
  refine sx_region ?_
  refine sx_rd 4 (.agg #[.slice A0_0 l0_0.length c0_0, .slice A0_1 l0_1.length c0_1, .slice A0_2 l0_2.length c0_2, .int .i64 a0_3, .int .i64 a0_4]) (by rfl) (ldn (t := 31) (p := (.tmp 1)) (by rfl) (by rfl) (by kernel_rfl) (by kernel_rfl) (by kernel_rfl) (hp.at_ 0 _ (by rfl))) ?_
  obtain ⟨k_3, hk_k_3⟩ := Ev.rounds (isSmall_ev l0_0 l0_1 l0_2 a0_3 a0_4 hy0 hy1 hy2)
  refine sx_call 5 (by rfl) (by kernel_rfl) ((impl_isSmall.calls k_3 A0_0 c0_0 l0_0 A0_1 c0_1 l0_1 A0_2 c0_2 l0_2 a0_3 a0_4 _ _ (hC0_0 _ hp.tail) hc0_0 (hC0_1 _ hp.tail) hc0_1 (hC0_2 _ hp.tail) hc0_2 hk_k_3).mono ?_)
  rintro _ W_4 ⟨rfl, hb⟩
  refine ⟨_, rfl, ?_⟩
  replace hp := hp.below hb
  clear hb
  refine sx_rd 6 (.bool (!(smallB l0_0 l0_1 l0_2 a0_3 a0_4))) (by rfl) (by kernel_rfl) ?_
  refine sx_nil ?_
  refine ex_then_n ?_
  refine sx_cond (!(smallB l0_0 l0_1 l0_2 a0_3 a0_4)) (by rfl) (fun c_5 => ?_) (fun c_5 => ?_)
  ·
    refine wp_seq ?_
    refine sx_region ?_
    refine sx_rd 2 (.int .i64 0) (by rfl) (by kernel_rfl) ?_
    refine sx_rd 3 (.bool false) (by rfl) (by kernel_rfl) ?_
    refine sx_nil ?_
    refine ex_then_n ?_
    refine wp_ret ?_
    refine ex_then_r ?_
    refine sx_end (.tuple #[.int .i64 0, .bool false]) (res2 2 3 (by rfl)) ?_
    rw [if_neg (by rw [(not_eq c_5)]; simp)] at h; simp only [Option.some.injEq, Prod.mk.injEq] at h; obtain ⟨rfl, rfl⟩ := h
    exact ⟨rfl, hc2 _ (hp.tail)⟩
  ·
    have hsB : (smallB l0_0 l0_1 l0_2 a0_3 a0_4) = true := by have q := c_5; simpa using q
    refine wp_skip ?_
    refine ex_then_n ?_
    refine wp_seq ?_
    refine sx_region ?_
    refine sx_mkmap 7 (k := 9) (good := fateGood) (by rfl) (fun W => by kernel_rfl) hp ?_
    intro b W_6 hp
    refine sx_rd 8 (.agg #[.slice A0_0 l0_0.length c0_0, .slice A0_1 l0_1.length c0_1, .slice A0_2 l0_2.length c0_2, .int .i64 a0_3, .int .i64 a0_4]) (by rfl) (ldn (t := 31) (p := (.tmp 1)) (by rfl) (by rfl) (by kernel_rfl) (by kernel_rfl) (by kernel_rfl) (hp.at_ 1 _ (by rfl))) ?_
    obtain ⟨ho, hrk, hrm, hcm⟩ := small_of hsB hy2
    refine sx_call 9 (by rfl) (by kernel_rfl) ((fates_sx b _ _ _ _ (⟨l0_0, l0_1, l0_2, a0_3, a0_4⟩ : Gm) A0_0 c0_0 A0_1 c0_1 A0_2 c0_2 0 rfl ho hrk hrm (by omega) (fun W h => hC0_0 W h.tail) hc0_0 (fun W h => hC0_1 W h.tail) hc0_1 (fun W h => hC0_2 W h.tail) hc0_2 (hp.take [0, 1] 2 (by decide) (by simp))).mono ?_)
    rintro _ W_7 ⟨rfl, hp⟩
    refine ⟨_, rfl, ?_⟩
    refine sx_rd 10 (.int .i64 ((fateF (⟨l0_0, l0_1, l0_2, a0_3, a0_4⟩ : Gm)).pts)) (by rfl) (by kernel_rfl) ?_
    refine sx_rd 2 (.int .i64 ((fateF (⟨l0_0, l0_1, l0_2, a0_3, a0_4⟩ : Gm)).pts)) (by rfl) (by kernel_rfl) ?_
    refine sx_rd 3 (.bool true) (by rfl) (by kernel_rfl) ?_
    refine sx_nil ?_
    refine ex_then_n ?_
    refine wp_ret ?_
    refine sx_end (.tuple #[.int .i64 ((fateF (⟨l0_0, l0_1, l0_2, a0_3, a0_4⟩ : Gm)).pts), .bool true]) (res2 2 3 (by rfl)) ?_
    rw [if_pos hsB] at h; simp only [Option.some.injEq, Prod.mk.injEq] at h; obtain ⟨rfl, rfl⟩ := h
    exact ⟨rfl, hc2 _ (hp.tail.tail)⟩
end Go.Proofs.YtjaojemmbeddfaaGreat.Hd
