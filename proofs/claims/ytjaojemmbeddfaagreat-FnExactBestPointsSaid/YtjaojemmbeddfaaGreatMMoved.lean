/- impl.moved, by hand. -/
import Derived.Test.YtjaojemmbeddfaaGreatPEv
import Derived.Test.YtjaojemmbeddfaaGreatMSx5
namespace Go.Proofs.YtjaojemmbeddfaaGreat.Hd
open Go.RowKit Go.Proofs.YtjaojemmbeddfaaGreat.Pure Go.Proofs.YtjaojemmbeddfaaGreatW.PrintWords Go.Proofs.YtjaojemmbeddfaaGreatW.PrintLast Go.Proofs.YtjaojemmbeddfaaGreatW.PrintMore
set_option linter.unusedVariables false
set_option linter.unusedSimpArgs false
def mvd (a : ByteArray) (i : Int) : Int := IntKind.i64.wrap (IntKind.u8.wrap (bt a i - 48))
def impl_moved.f (a : ByteArray) : Option (Int × Int) := if (1 : Int) < (a.size : Int) then some (mvd a 0, mvd a 1) else none
set_option maxRecDepth 100000 in
set_option maxHeartbeats 40000000 in
theorem impl_moved.calls (a0 : ByteArray) (r0 : Int) (r1 : Int) (w : World)  (h : impl_moved.f a0 = some (r0, r1)) :
    Calls Tryz.prog 65 #[.string a0] w fun e w' => e = .returned (.agg #[.int .i64 r0, .int .i64 r1]) ∧ Below w.heap.size w w' := by
  unfold impl_moved.f mvd at h
  by_cases hsz : (1 : Int) < (a0.size : Int)
  case neg => rw [if_neg hsz] at h; cases h
  rw [if_pos hsz] at h
  obtain ⟨cs, hcs⟩ : ∃ cs, cs = [old w w.heap.size] := ⟨_, rfl⟩
  have hp : Hp w cs w := by rw [hcs]; exact Hp.old_start w
  have hc2 : ∀ W, Hp w cs W → Below w.heap.size w W := fun W h => by rw [hcs] at h; exact h.since 0 _ rfl
  clear hcs
  refine sx_enter (N := 12) (l := [.string a0]) Tryz.func65 rfl rfl rfl ?_
  refine wp_seq ?_
  refine sx_region ?_
  refine sx_box 2 hp #[.int .i64 0, .int .i64 0] 53 (by rfl) (fun W => by kernel_rfl) ?_
  intro g_1 W_2 hp
  refine sx_nil ?_
  refine ex_then_n ?_
  refine wp_seq ?_
  refine sx_drawT [0, 1, 2, 3, 4, 5, 6, 7, 8] (.fin) 9 (C := Hp w (blk g_1 #[.int .i64 0, .int .i64 0] 53 :: cs)) (by kernel_rfl) (by kernel_rfl) (fun d _ _ _ _ h => by cases d <;> exact h) (fun W h => h.drew) hp ?_
  refine preI_read rfl ?_
  refine sxq_val 3 (.string a0) (by rfl) (fun W _ => (by kernel_rfl)) ?_
  refine sxq_nil ?_
  refine preI_read rfl ?_
  refine sxq_val 4 (.int .u8 (bt a0 0)) (by rfl) (fun W _ => (stri_run (by rfl) (by rfl) (by rfl) Tryz.underlying9 (by omega) (by omega))) ?_
  refine sxq_nil ?_
  refine preI_read rfl ?_
  refine sxq_val 5 (.int .u8 (IntKind.u8.wrap ((bt a0 0) - 48))) (by rfl) (fun W _ => (by kernel_rfl)) ?_
  refine sxq_nil ?_
  refine preI_read rfl ?_
  refine sxq_val 6 (.int .i64 (IntKind.i64.wrap (IntKind.u8.wrap ((bt a0 0) - 48)))) (by rfl) (fun W _ => (cvt_run (by rfl) (by rfl) Tryz.underlying5 Tryz.underlying3)) ?_
  refine sxq_nil ?_
  refine preI_read rfl ?_
  refine sxq_val 7 (.string a0) (by rfl) (fun W _ => (by kernel_rfl)) ?_
  refine sxq_nil ?_
  refine preI_read rfl ?_
  refine sxq_val 8 (.int .u8 (bt a0 1)) (by rfl) (fun W _ => (stri_run (by rfl) (by rfl) (by rfl) Tryz.underlying9 (by omega) (by omega))) ?_
  refine sxq_nil ?_
  refine preI_read rfl ?_
  refine sxq_val 9 (.int .u8 (IntKind.u8.wrap ((bt a0 1) - 48))) (by rfl) (fun W _ => (by kernel_rfl)) ?_
  refine sxq_nil ?_
  refine preI_read rfl ?_
  refine sxq_val 10 (.int .i64 (IntKind.i64.wrap (IntKind.u8.wrap ((bt a0 1) - 48)))) (by rfl) (fun W _ => (cvt_run (by rfl) (by rfl) Tryz.underlying5 Tryz.underlying3)) ?_
  refine sxq_nil ?_
  refine preI_read rfl ?_
  refine sxq_val 11 (.agg #[.int .i64 (IntKind.i64.wrap (IntKind.u8.wrap ((bt a0 0) - 48))), .int .i64 (IntKind.i64.wrap (IntKind.u8.wrap ((bt a0 1) - 48)))]) (by rfl) (fun W _ => (by kernel_rfl)) ?_
  refine sxq_nil ?_
  refine preI_nil ?_
  intro W_3 hp
  refine treeI_fin ?_
  refine tail_of [9] (by rfl) ?_
  refine tailI_op rfl ?_
  refine sx_store (t := 53) (p := (.tmp 2)) (x := (.tmp 11)) (by rfl) (by rfl) 0 (by rfl) 0 [.int .i64 (IntKind.i64.wrap (IntKind.u8.wrap ((bt a0 0) - 48))), .int .i64 (IntKind.i64.wrap (IntKind.u8.wrap ((bt a0 1) - 48)))] (by rfl) (by rfl) (by kernel_rfl) (by simp [Value.oneCell']) (by show 2 ≤ 2; omega) #[.int .i64 (IntKind.i64.wrap (IntKind.u8.wrap ((bt a0 0) - 48))), .int .i64 (IntKind.i64.wrap (IntKind.u8.wrap ((bt a0 1) - 48)))] (by rfl) hp ?_
  intro W_4 hp; simp only [List.set_cons_succ, List.set_cons_zero] at hp
  refine tailI_next ?_
  refine tailI_nil ?_
  refine ex_then_n ?_
  refine wp_ret ?_
  refine sx_end (.agg #[.int .i64 (IntKind.i64.wrap (IntKind.u8.wrap ((bt a0 0) - 48))), .int .i64 (IntKind.i64.wrap (IntKind.u8.wrap ((bt a0 1) - 48)))]) (resc (by rfl) (by rfl) (by kernel_rfl) (by kernel_rfl) (hp.at_ 0 _ (by rfl))) ?_
  simp only [Option.some.injEq, Prod.mk.injEq] at h
  obtain ⟨rfl, rfl⟩ := h
  exact ⟨rfl, hc2 _ (hp.tail)⟩
end Go.Proofs.YtjaojemmbeddfaaGreat.Hd
