/- spec.wiAll, by hand. -/
import Derived.Test.YtbkaedmabdgdhaaMWinK
import Derived.Test.YtbkaedmabdgdhaaG2
namespace Go.Proofs.Ytbkaedmabdgdhaa.Hd
open Go.RowKit Go.Proofs.Ytbkaedmabdgdhaa.Pure Go.Proofs.YtbkaedmabdgdhaaW.PrintWords Go.Proofs.YtbkaedmabdgdhaaW.PrintLast Go.Proofs.YtbkaedmabdgdhaaW.PrintMore
set_option linter.unusedVariables false
set_option linter.unusedSimpArgs false
def spec_wiAll.f (l0 : List S_Tile) : Option (List (List Int)) := if l0.length ≤ 1048576 ∧ ((lookS stepW stp8 4 [] (sortT l0) [])).length ≤ 1000000 then some (lookS stepW stp8 4 [] (sortT l0) []) else none
set_option maxRecDepth 100000 in
set_option maxHeartbeats 40000000 in
theorem spec_wiAll.calls (A0 : Option Addr) (c0 : Nat) (l0 : List S_Tile) (r : List (List Int)) (w : World) (hr0 : Kd.C k50 w A0 l0.length l0) (hc0 : l0.length ≤ c0) (h : spec_wiAll.f l0 = some r) :
    Calls Try.prog 33 #[.slice A0 l0.length c0] w fun e w' => ∃ v0_ : Value, e = .returned (v0_) ∧ Kd.S (Kd.slice 3 (Kd.int .i64)) 39 w' w.heap.size (fun _ => True) v0_ r ∧ Below w.heap.size w w' := by
  unfold spec_wiAll.f at h
  by_cases hg0 : l0.length ≤ 1048576 ∧ ((lookS stepW stp8 4 [] (sortT l0) [])).length ≤ 1000000
  case neg => rw [if_neg hg0] at h; cases h
  rw [if_pos hg0] at h
  obtain ⟨hl0, hbd⟩ := hg0
  obtain ⟨cs, hcs⟩ : ∃ cs, cs = [old w w.heap.size] := ⟨_, rfl⟩
  have hp : Hp w cs w := by rw [hcs]; exact Hp.old_start w
  have hc2 : ∀ W, Hp w cs W → Below w.heap.size w W := fun W h => by rw [hcs] at h; exact h.since 0 _ rfl
  have hC0 : ∀ W, Hp w cs W → Kd.C k50 W A0 l0.length l0 := fun W h => Kd.C_below hr0 (hc2 W h)
  clear hcs
  refine sx_enter (N := 8) (l := [.slice A0 l0.length c0]) Try.func33 rfl rfl rfl ?_
  refine wp_seq ?_
  refine sx_region ?_
  refine sx_rd 2 (.slice none 0 0) (by rfl) (by kernel_rfl) ?_
  refine sx_nil ?_
  refine ex_then_n ?_
  refine wp_seq ?_
  refine sx_region ?_
  refine sx_box 3 hp #[.slice none 0 0] 30 (by rfl) (fun W => by kernel_rfl) ?_
  intro g_1 W_2 hp
  refine sx_nil ?_
  refine ex_then_n ?_
  refine wp_seq ?_
  refine sx_region ?_
  refine sx_rd 4 (.slice A0 l0.length c0) (by rfl) (by kernel_rfl) ?_
  obtain ⟨k_3, hk_k_3⟩ := Ev.rounds (tiSort_ev l0 (by omega))
  refine sx_call 5 (by rfl) (by kernel_rfl) ((spec_tiSort.calls k_3 A0 c0 l0 _ _ (hC0 _ hp.tail) hc0 hk_k_3).mono ?_)
  rintro _ W_9 ⟨v_5, rfl, hR_4, hb⟩
  refine ⟨_, rfl, ?_⟩
  obtain ⟨A_6, c_7, rfl, hcc_c_7, _⟩ := Kd.R_reads hR_4
  obtain ⟨F_8, hp⟩ : ∃ F, Hp w (row k50 50 w.heap.size (.slice A_6 (sortT l0).length c_7) (sortT l0) F :: blk g_1 #[.slice none 0 0] 30 :: cs) _ := ⟨_, Hp.made hp hb hR_4⟩
  have hp := hp.nilrowS (Kd.slice 3 (Kd.int .i64)) 39 w.heap.size
  refine sx_call 6 (by rfl) (by kernel_rfl) ((look_sx g_1 4 w _ (row k50 50 w.heap.size (.slice A_6 ((sortT l0).length) c_7) (sortT l0) F_8 :: cs) (sortT l0) A_6 c_7 (sortT_len l0) (row_len (hp.at_ 1 _ (by rfl))).2 (fun W h => row_C (h.at_ 0 _ (by rfl))) [] none 0 (by simp) (by simp) (Nat.le_refl _) (fun W h => Kd.C_nil _ _) [] none 0 _ hbd (hp.take [2, 0, 1] 3 (by decide) (by simp))).mono ?_)
  rintro _ W_10 ⟨A2, c2, F2, rfl, hp⟩
  refine ⟨_, rfl, ?_⟩
  refine sx_nil ?_
  refine ex_then_n ?_
  refine wp_seq ?_
  refine sx_region ?_
  refine sx_rd 7 (.slice A2 ((lookS stepW stp8 4 [] (sortT l0) []).length) c2) (by rfl) (ld1 (t := 30) (p := (.tmp 3)) (by rfl) (by rfl) (by kernel_rfl) (hp.cell 0 (by rfl) 0 _ (by rfl))) ?_
  refine sx_rd 2 (.slice A2 ((lookS stepW stp8 4 [] (sortT l0) []).length) c2) (by rfl) (by kernel_rfl) ?_
  refine sx_nil ?_
  refine ex_then_n ?_
  refine wp_ret ?_
  refine sx_end (.slice A2 ((lookS stepW stp8 4 [] (sortT l0) []).length) c2) (res1 2 (by rfl)) ?_
  obtain rfl := Option.some.inj h
  exact ⟨_, rfl, Kd.S_mono (rowS_S (hp.at_ 1 _ (by rfl))) (fun _ _ => trivial), hc2 _ (hp.tail.tail.tail)⟩
end Go.Proofs.Ytbkaedmabdgdhaa.Hd
