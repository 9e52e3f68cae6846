/- impl.HeavyLine, by hand. -/
import Derived.Test.YtkjaahmlnbgnjaaGreatMHeavyL
namespace Go.Proofs.YtkjaahmlnbgnjaaGreat.Hd
open Go.RowKit Go.Proofs.YtkjaahmlnbgnjaaGreat.Pure Go.Proofs.YtkjaahmlnbgnjaaGreatW.PrintWords Go.Proofs.YtkjaahmlnbgnjaaGreatW.PrintLast Go.Proofs.YtkjaahmlnbgnjaaGreatW.PrintMore
set_option linter.unusedVariables false
set_option linter.unusedSimpArgs false
theorem line_eq {f s : List S_Tile} {r : List Int} {t p : Int} (h : gameB f s r t p = true) (hr : r.length ≤ 1048576) : impl_line.f f s r t p = some (outH ⟨f, s, r, t, p⟩ (nH ⟨f, s, r, t, p⟩)) := by
  unfold impl_line.f
  rw [if_pos ⟨h, hr⟩]
def impl_HeavyLine.f (f s : List S_Tile) (r : List Int) (t p : Int) : Option (List ByteArray × Bool) := if f.length ≤ 1048576 ∧ s.length ≤ 1048576 ∧ r.length ≤ 1048576 then some (resHeavyLine f s r t p) else none
set_option maxRecDepth 100000 in
set_option maxHeartbeats 40000000 in
theorem impl_HeavyLine.calls (A0_0 : Option Addr) (c0_0 : Nat) (l0_0 : List S_Tile) (A0_1 : Option Addr) (c0_1 : Nat) (l0_1 : List S_Tile) (A0_2 : Option Addr) (c0_2 : Nat) (l0_2 : List Int) (a0_3 : Int) (a0_4 : Int) (r0 : List ByteArray) (r1 : Bool) (w : World) (hr0_0 : Kd.C k59 w A0_0 l0_0.length l0_0) (hc0_0 : l0_0.length ≤ c0_0) (hr0_1 : Kd.C k59 w A0_1 l0_1.length l0_1) (hc0_1 : l0_1.length ≤ c0_1) (hr0_2 : Kd.C (Kd.int .i64) w A0_2 l0_2.length l0_2) (hc0_2 : l0_2.length ≤ c0_2) (h : impl_HeavyLine.f l0_0 l0_1 l0_2 a0_3 a0_4 = some (r0, r1)) :
    Calls Tryz.prog 14 #[.agg #[.slice A0_0 l0_0.length c0_0, .slice A0_1 l0_1.length c0_1, .slice A0_2 l0_2.length c0_2, .int .i64 a0_3, .int .i64 a0_4]] w fun e w' => ∃ v0_ : Value, e = .returned (.tuple #[v0_, .bool r1]) ∧ Kd.R Kd.string 9 w' w.heap.size (fun _ => True) v0_ r0 ∧ Below w.heap.size w w' := by
  unfold impl_HeavyLine.f resHeavyLine at h
  by_cases hsz : l0_0.length ≤ 1048576 ∧ l0_1.length ≤ 1048576 ∧ l0_2.length ≤ 1048576
  case neg => rw [if_neg hsz] at h; cases h
  rw [if_pos hsz] at h
  obtain ⟨hy0, hy1, hy2⟩ := hsz
  obtain ⟨cs, hcs⟩ : ∃ cs, cs = [old w w.heap.size] := ⟨_, rfl⟩
  have hp : Hp w cs w := by rw [hcs]; exact Hp.old_start w
  have hc2 : ∀ W, Hp w cs W → Below w.heap.size w W := fun W h => by rw [hcs] at h; exact h.since 0 _ rfl
  have hC0_0 : ∀ W, Hp w cs W → Kd.C k59 W A0_0 l0_0.length l0_0 := fun W h => Kd.C_below hr0_0 (hc2 W h)
  have hC0_1 : ∀ W, Hp w cs W → Kd.C k59 W A0_1 l0_1.length l0_1 := fun W h => Kd.C_below hr0_1 (hc2 W h)
  have hC0_2 : ∀ W, Hp w cs W → Kd.C (Kd.int .i64) W A0_2 l0_2.length l0_2 := fun W h => Kd.C_below hr0_2 (hc2 W h)
  clear hcs
  refine sx_enter (N := 9) (l := [.agg #[.slice A0_0 l0_0.length c0_0, .slice A0_1 l0_1.length c0_1, .slice A0_2 l0_2.length c0_2, .int .i64 a0_3, .int .i64 a0_4]]) Tryz.func14 rfl rfl rfl ?_
  refine wp_seq ?_
  refine sx_region ?_
  refine sx_box 1 hp #[.slice A0_0 l0_0.length c0_0, .slice A0_1 l0_1.length c0_1, .slice A0_2 l0_2.length c0_2, .int .i64 a0_3, .int .i64 a0_4] 29 (by rfl) (fun W => by kernel_rfl) ?_
  intro g_1 W_2 hp
  refine sx_rd 2 (.slice none 0 0) (by rfl) (by kernel_rfl) ?_
  refine sx_rd 3 (.bool false) (by rfl) (by kernel_rfl) ?_
  refine sx_nil ?_
  refine ex_then_n ?_
  refine wp_seq ?_
  refine wp_seq ?_
  refine sx_region ?_
  refine sx_rd 4 (.agg #[.slice A0_0 l0_0.length c0_0, .slice A0_1 l0_1.length c0_1, .slice A0_2 l0_2.length c0_2, .int .i64 a0_3, .int .i64 a0_4]) (by rfl) (ldn (t := 29) (p := (.tmp 1)) (by rfl) (by rfl) (by kernel_rfl) (by kernel_rfl) (by kernel_rfl) (hp.at_ 0 _ (by rfl))) ?_
  obtain ⟨k_3, hk_k_3⟩ := Ev.rounds (isGame_ev l0_0 l0_1 l0_2 a0_3 a0_4 (by omega) (by omega) (by omega))
  refine sx_call 5 (by rfl) (by kernel_rfl) ((impl_IsGame.calls k_3 _ A0_0 c0_0 l0_0 _ A0_1 c0_1 l0_1 A0_2 c0_2 l0_2 a0_3 a0_4 _ _ (Kd.V_mk hc0_0 (Kd.C_F k59_heap (hC0_0 _ hp.tail))) (Kd.V_mk hc0_1 (Kd.C_F k59_heap (hC0_1 _ hp.tail))) (hC0_2 _ hp.tail) hc0_2 hk_k_3).mono ?_)
  rintro _ W_4 ⟨rfl, hb⟩
  refine ⟨_, rfl, ?_⟩
  replace hp := hp.below hb
  clear hb
  refine sx_rd 6 (.bool (!(gameB l0_0 l0_1 l0_2 a0_3 a0_4))) (by rfl) (by kernel_rfl) ?_
  refine sx_nil ?_
  refine ex_then_n ?_
  refine sx_cond (!(gameB l0_0 l0_1 l0_2 a0_3 a0_4)) (by rfl) (fun c_5 => ?_) (fun c_5 => ?_)
  ·
    refine wp_seq ?_
    refine sx_region ?_
    refine sx_rd 2 (.slice none 0 0) (by rfl) (by kernel_rfl) ?_
    refine sx_rd 3 (.bool false) (by rfl) (by kernel_rfl) ?_
    refine sx_nil ?_
    refine ex_then_n ?_
    refine wp_ret ?_
    refine ex_then_r ?_
    refine sx_end (.tuple #[.slice none 0 0, .bool false]) (res2 2 3 (by rfl)) ?_
    rw [if_neg (by rw [(not_eq c_5)]; simp)] at h; simp only [Option.some.injEq, Prod.mk.injEq] at h; obtain ⟨rfl, rfl⟩ := h
    exact ⟨_, rfl, Kd.R_nil _ _ _ _ _, hc2 _ (hp.tail)⟩
  ·
    have hgB : (gameB l0_0 l0_1 l0_2 a0_3 a0_4) = true := by have q := c_5; simpa using q
    refine wp_skip ?_
    refine ex_then_n ?_
    refine wp_seq ?_
    refine sx_region ?_
    refine sx_rd 7 (.agg #[.slice A0_0 l0_0.length c0_0, .slice A0_1 l0_1.length c0_1, .slice A0_2 l0_2.length c0_2, .int .i64 a0_3, .int .i64 a0_4]) (by rfl) (ldn (t := 29) (p := (.tmp 1)) (by rfl) (by rfl) (by kernel_rfl) (by kernel_rfl) (by kernel_rfl) (hp.at_ 0 _ (by rfl))) ?_
    refine sx_call 8 (by rfl) (by kernel_rfl) ((impl_line.calls A0_0 c0_0 l0_0 A0_1 c0_1 l0_1 A0_2 c0_2 l0_2 a0_3 a0_4 _ _ (hC0_0 _ hp.tail) hc0_0 (hC0_1 _ hp.tail) hc0_1 (hC0_2 _ hp.tail) hc0_2 (line_eq hgB (by omega))).mono ?_)
    rintro _ W_11 ⟨v_7, rfl, hR_6, hb⟩
    refine ⟨_, rfl, ?_⟩
    obtain ⟨A_8, c_9, rfl, hcc_c_9, _⟩ := Kd.R_reads hR_6
    obtain ⟨F_10, hp⟩ : ∃ F, Hp w (row Kd.string 9 w.heap.size (.slice A_8 (outH (⟨l0_0, l0_1, l0_2, a0_3, a0_4⟩ : Gm) (nH (⟨l0_0, l0_1, l0_2, a0_3, a0_4⟩ : Gm))).length c_9) (outH (⟨l0_0, l0_1, l0_2, a0_3, a0_4⟩ : Gm) (nH (⟨l0_0, l0_1, l0_2, a0_3, a0_4⟩ : Gm))) F :: blk g_1 #[.slice A0_0 l0_0.length c0_0, .slice A0_1 l0_1.length c0_1, .slice A0_2 l0_2.length c0_2, .int .i64 a0_3, .int .i64 a0_4] 29 :: cs) _ := ⟨_, Hp.made hp hb hR_6⟩
    refine sx_rd 2 (.slice A_8 ((outH (⟨l0_0, l0_1, l0_2, a0_3, a0_4⟩ : Gm) (nH (⟨l0_0, l0_1, l0_2, a0_3, a0_4⟩ : Gm))).length) c_9) (by rfl) (by kernel_rfl) ?_
    refine sx_rd 3 (.bool true) (by rfl) (by kernel_rfl) ?_
    refine sx_nil ?_
    refine ex_then_n ?_
    refine wp_ret ?_
    refine sx_end (.tuple #[.slice A_8 ((outH (⟨l0_0, l0_1, l0_2, a0_3, a0_4⟩ : Gm) (nH (⟨l0_0, l0_1, l0_2, a0_3, a0_4⟩ : Gm))).length) c_9, .bool true]) (res2 2 3 (by rfl)) ?_
    rw [if_pos hgB] at h; simp only [Option.some.injEq, Prod.mk.injEq] at h; obtain ⟨rfl, rfl⟩ := h
    exact ⟨_, rfl, Kd.R_mono (row_R (hp.at_ 0 _ (by rfl))) (fun _ _ => trivial), hc2 _ (hp.tail.tail)⟩
end Go.Proofs.YtkjaahmlnbgnjaaGreat.Hd
