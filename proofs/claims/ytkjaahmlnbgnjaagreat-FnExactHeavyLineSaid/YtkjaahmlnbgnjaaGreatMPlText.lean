/- spec.plText, by hand. -/
import Derived.Test.YtkjaahmlnbgnjaaGreatPFitA
import Derived.Test.YtkjaahmlnbgnjaaGreatMSx4
import Derived.Test.YtkjaahmlnbgnjaaGreatG0
namespace Go.Proofs.YtkjaahmlnbgnjaaGreat.Hd
open Go.RowKit Go.Proofs.YtkjaahmlnbgnjaaGreat.Pure Go.Proofs.YtkjaahmlnbgnjaaGreatW.PrintWords Go.Proofs.YtkjaahmlnbgnjaaGreatW.PrintLast Go.Proofs.YtkjaahmlnbgnjaaGreatW.PrintMore
set_option linter.unusedVariables false
set_option linter.unusedSimpArgs false
theorem l1Num_ev (a : Int) (h0 : 0 ≤ a) (h1 : a < 10) : Ev (fun k => spec_l1Num.f k a) (strOfNums [num1 a]) := by
  refine Ev.succ ?_
  simp only [spec_l1Num.f]
  exact Ev.pos h1 (Ev.ret rfl)
theorem strOf_two (x y : Int) : strOfNums [x] ++ strOfNums [y] = strOfNums [x, y] := by
  apply ByteArray.ext
  simp [strOfNums]
def spec_plText.f (a b : Int) (c d : Bool) : Option ByteArray := if d = true then some (⟨#[45]⟩ : ByteArray) else if (0 ≤ a ∧ a < 10) ∧ (0 ≤ b ∧ b < 10) then some (txt ⟨⟨a, b⟩, c, d⟩) else none
set_option maxRecDepth 100000 in
set_option maxHeartbeats 40000000 in
theorem spec_plText.calls (a0_0 : Int) (a0_1 : Int) (a0_2 : Bool) (a0_3 : Bool) (r : ByteArray) (w : World)  (h : spec_plText.f a0_0 a0_1 a0_2 a0_3 = some r) :
    Calls Tryz.prog 40 #[.agg #[.int .i64 a0_0, .int .i64 a0_1, .bool a0_2, .bool a0_3]] w fun e w' => e = .returned (.string r) ∧ Below w.heap.size w w' := by
  unfold spec_plText.f at h
  obtain ⟨cs, hcs⟩ : ∃ cs, cs = [old w w.heap.size] := ⟨_, rfl⟩
  have hp : Hp w cs w := by rw [hcs]; exact Hp.old_start w
  have hc2 : ∀ W, Hp w cs W → Below w.heap.size w W := fun W h => by rw [hcs] at h; exact h.since 0 _ rfl
  clear hcs
  refine sx_enter (N := 21) (l := [.agg #[.int .i64 a0_0, .int .i64 a0_1, .bool a0_2, .bool a0_3]]) Tryz.func40 rfl rfl rfl ?_
  refine wp_seq ?_
  refine sx_region ?_
  refine sx_box 1 hp #[.int .i64 a0_0, .int .i64 a0_1, .bool a0_2, .bool a0_3] 61 (by rfl) (fun W => by kernel_rfl) ?_
  intro g_1 W_2 hp
  refine sx_rd 2 (.string (⟨#[]⟩ : ByteArray)) (by rfl) (by kernel_rfl) ?_
  refine sx_nil ?_
  refine ex_then_n ?_
  refine wp_seq ?_
  refine wp_seq ?_
  refine sx_region ?_
  refine sx_rd 4 (.pointer (some ⟨g_1, 3, none⟩)) (by rfl) (by kernel_rfl) ?_
  refine sx_rd 5 (.bool a0_3) (by rfl) (ld1 (t := 4) (p := (.tmp 4)) (by rfl) (by rfl) (by kernel_rfl) (hp.cell 0 (by rfl) 3 _ (by rfl))) ?_
  refine sx_nil ?_
  refine ex_then_n ?_
  refine sx_cond a0_3 (by rfl) (fun c_3 => ?_) (fun c_3 => ?_)
  ·
    rw [if_pos c_3] at h
    refine wp_seq ?_
    refine sx_region ?_
    refine sx_rd 2 (.string (⟨#[45]⟩ : ByteArray)) (by rfl) (by kernel_rfl) ?_
    refine sx_nil ?_
    refine ex_then_n ?_
    refine wp_ret ?_
    refine ex_then_r ?_
    refine sx_end (.string (⟨#[45]⟩ : ByteArray)) (res1 2 (by rfl)) ?_
    obtain rfl := Option.some.inj h
    exact ⟨rfl, hc2 _ (hp.tail)⟩
  ·
    rw [if_neg (by rw [c_3]; simp)] at h
    by_cases hr : (0 ≤ a0_0 ∧ a0_0 < 10) ∧ (0 ≤ a0_1 ∧ a0_1 < 10)
    case neg => rw [if_neg hr] at h; cases h
    rw [if_pos hr] at h
    refine wp_skip ?_
    refine ex_then_n ?_
    refine wp_seq ?_
    refine sx_drawT [0, 1, 4, 5] (.rd 2 (.rd 6 (.alt 3 (.alt 7 (.rd 8 (.rd 9 (.fin))) .non) .non))) 10 (C := Hp w (blk g_1 #[.int .i64 a0_0, .int .i64 a0_1, .bool a0_2, .bool a0_3] 61 :: cs)) (by kernel_rfl) (by kernel_rfl) (fun d _ _ _ _ h => by cases d <;> exact h) (fun W h => h.drew) hp ?_
    refine preI_read rfl ?_
    refine sxq_val 6 (.pointer (some ⟨g_1, 0, none⟩)) (by rfl) (fun W _ => (by kernel_rfl)) ?_
    refine sxq_nil ?_
    refine preI_read rfl ?_
    refine sxq_val 7 (.pointer (some ⟨g_1, 0, none⟩)) (by rfl) (fun W _ => (by kernel_rfl)) ?_
    refine sxq_nil ?_
    refine preI_read rfl ?_
    refine sxq_val 10 (.pointer (some ⟨g_1, 0, none⟩)) (by rfl) (fun W _ => (by kernel_rfl)) ?_
    refine sxq_nil ?_
    refine preI_read rfl ?_
    refine sxq_val 11 (.pointer (some ⟨g_1, 1, none⟩)) (by rfl) (fun W _ => (by kernel_rfl)) ?_
    refine sxq_nil ?_
    refine preI_nil ?_
    intro W_4 hp
    refine treeI_rd rfl ?_
    refine sxq_val 8 (.int .i64 a0_0) (by rfl) (fun W hp => (ld1 (t := 3) (p := (.tmp 7)) (by rfl) (by rfl) (by kernel_rfl) (hp.cell 0 (by rfl) 0 _ (by rfl)))) ?_
    refine sxq_nil ?_
    refine treeI_rd rfl ?_
    refine sxq_val 12 (.int .i64 a0_1) (by rfl) (fun W hp => (ld1 (t := 3) (p := (.tmp 11)) (by rfl) (by rfl) (by kernel_rfl) (hp.cell 0 (by rfl) 1 _ (by rfl)))) ?_
    refine sxq_nil ?_
    refine treeI_ev rfl ?_
    obtain ⟨k_5, hk_k_5⟩ := Ev.rounds (l1Num_ev a0_0 (by omega) (by omega))
    refine sx_call 9 (by rfl) (by kernel_rfl) ((spec_l1Num.calls k_5 a0_0 _ _ hk_k_5).mono ?_)
    rintro _ W_6 ⟨rfl, hb⟩
    refine ⟨_, rfl, ?_⟩
    replace hp := hp.below hb
    clear hb
    refine step_fin hp ?_
    refine treeI_ev rfl ?_
    obtain ⟨k_7, hk_k_7⟩ := Ev.rounds (l1Num_ev a0_1 (by omega) (by omega))
    refine sx_call 13 (by rfl) (by kernel_rfl) ((spec_l1Num.calls k_7 a0_1 _ _ hk_k_7).mono ?_)
    rintro _ W_8 ⟨rfl, hb⟩
    refine ⟨_, rfl, ?_⟩
    replace hp := hp.below hb
    clear hb
    refine step_fin hp ?_
    refine treeI_rd rfl ?_
    refine sxq_val 14 (.string ((strOfNums [num1 a0_0]) ++ (strOfNums [num1 a0_1]))) (by rfl) (fun W hp => (sadd_run (by rfl) (by rfl) (by rfl) (by simp [strOfNums_size, ByteArray.size_append]; try decide))) ?_
    refine sxq_nil ?_
    refine treeI_rd rfl ?_
    refine sxq_val 3 (.string ((strOfNums [num1 a0_0]) ++ (strOfNums [num1 a0_1]))) (by rfl) (fun W hp => (by kernel_rfl)) ?_
    refine sxq_nil ?_
    refine treeI_fin ?_
    refine sx_nil ?_
    refine ex_then_n ?_
    refine wp_seq ?_
    refine wp_seq ?_
    refine sx_region ?_
    refine sx_rd 15 (.pointer (some ⟨g_1, 2, none⟩)) (by rfl) (by kernel_rfl) ?_
    refine sx_rd 16 (.bool a0_2) (by rfl) (ld1 (t := 4) (p := (.tmp 15)) (by rfl) (by rfl) (by kernel_rfl) (hp.cell 0 (by rfl) 2 _ (by rfl))) ?_
    refine sx_nil ?_
    refine ex_then_n ?_
    refine sx_cond a0_2 (by rfl) (fun c_9 => ?_) (fun c_9 => ?_)
    ·
      refine wp_seq ?_
      refine sx_region ?_
      refine sx_rd 17 (.string ((strOfNums [num1 a0_0]) ++ (strOfNums [num1 a0_1]))) (by rfl) (by kernel_rfl) ?_
      refine sx_rd 18 (.string (((strOfNums [num1 a0_0]) ++ (strOfNums [num1 a0_1])) ++ (⟨#[108]⟩ : ByteArray))) (by rfl) (sadd_run (by rfl) (by rfl) (by rfl) (by simp [strOfNums_size, ByteArray.size_append]; try decide)) ?_
      refine sx_rd 2 (.string (((strOfNums [num1 a0_0]) ++ (strOfNums [num1 a0_1])) ++ (⟨#[108]⟩ : ByteArray))) (by rfl) (by kernel_rfl) ?_
      refine sx_nil ?_
      refine ex_then_n ?_
      refine wp_ret ?_
      refine ex_then_r ?_
      refine sx_end (.string (((strOfNums [num1 a0_0]) ++ (strOfNums [num1 a0_1])) ++ (⟨#[108]⟩ : ByteArray))) (res1 2 (by rfl)) ?_
      obtain rfl := Option.some.inj h
      refine ⟨?_, hc2 _ (hp.tail)⟩
      unfold txt
      rw [← strOf_two, c_3, c_9]
      rfl
    ·
      refine wp_skip ?_
      refine ex_then_n ?_
      refine wp_seq ?_
      refine sx_region ?_
      refine sx_rd 19 (.string ((strOfNums [num1 a0_0]) ++ (strOfNums [num1 a0_1]))) (by rfl) (by kernel_rfl) ?_
      refine sx_rd 20 (.string (((strOfNums [num1 a0_0]) ++ (strOfNums [num1 a0_1])) ++ (⟨#[114]⟩ : ByteArray))) (by rfl) (sadd_run (by rfl) (by rfl) (by rfl) (by simp [strOfNums_size, ByteArray.size_append]; try decide)) ?_
      refine sx_rd 2 (.string (((strOfNums [num1 a0_0]) ++ (strOfNums [num1 a0_1])) ++ (⟨#[114]⟩ : ByteArray))) (by rfl) (by kernel_rfl) ?_
      refine sx_nil ?_
      refine ex_then_n ?_
      refine wp_ret ?_
      refine sx_end (.string (((strOfNums [num1 a0_0]) ++ (strOfNums [num1 a0_1])) ++ (⟨#[114]⟩ : ByteArray))) (res1 2 (by rfl)) ?_
      obtain rfl := Option.some.inj h
      refine ⟨?_, hc2 _ (hp.tail)⟩
      unfold txt
      rw [← strOf_two, c_3, c_9]
      rfl
end Go.Proofs.YtkjaahmlnbgnjaaGreat.Hd
