/- impl.laidOut with the closure of windows, by hand. -/
import Derived.Test.YtbkaedmabdgdhaaMWinL
namespace Go.Proofs.Ytbkaedmabdgdhaa.Hd
open Go.RowKit Go.Proofs.Ytbkaedmabdgdhaa.Pure Go.Proofs.YtbkaedmabdgdhaaW.PrintWords Go.Proofs.YtbkaedmabdgdhaaW.PrintLast Go.Proofs.YtbkaedmabdgdhaaW.PrintMore
set_option linter.unusedVariables false
set_option linter.unusedSimpArgs false
set_option maxRecDepth 100000 in
set_option maxHeartbeats 40000000 in
theorem laidW_sx (gO : Nat) (w0 W : World) (cs : List Chunk) (H : List S_Tile) (AH : Option Addr) (cH : Nat) (hok : ∀ t ∈ H, goodT t = true) (hlen : H.length ≤ 1000) (hcH : H.length ≤ cH) (hH : ∀ W, Hp w0 cs W → Kd.C k50 W AH H.length H) (out : List (List Int)) (Ao : Option Addr) (co : Nat) (Fo : Nat → Prop) (hbd : ((walkL stepW 4 H.length [] H out)).length ≤ 1000000) (hp : Hp w0 (blk gO #[.slice Ao out.length co] 30 :: rowS (Kd.slice 3 (Kd.int .i64)) 39 w0.heap.size (.slice Ao out.length co) out Fo :: cs) W) :
    Calls Try.prog 49 #[.slice AH H.length cH, .int .i64 4, .func (.func 55) #[] #[.pointer (some ⟨gO, 0, none⟩)]] W fun e W' => ∃ A' c' F', e = .returned (.tuple #[]) ∧ Hp w0 (blk gO #[.slice A' ((walkL stepW 4 H.length [] H out).length) c'] 30 :: rowS (Kd.slice 3 (Kd.int .i64)) 39 w0.heap.size (.slice A' ((walkL stepW 4 H.length [] H out).length) c') (walkL stepW 4 H.length [] H out) F' :: cs) W' := by
  refine sx_enter (N := 12) (l := [.slice AH H.length cH, .int .i64 4, .func (.func 55) #[] #[.pointer (some ⟨gO, 0, none⟩)]]) Try.func49 rfl rfl rfl ?_
  refine wp_seq ?_
  refine sx_region ?_
  refine sx_box 4 hp #[.int .i64 4] 3 (by rfl) (fun W => by kernel_rfl) ?_
  intro g_1 W_2 hp
  refine sx_box 5 hp #[.func (.func 55) #[] #[.pointer (some ⟨gO, 0, none⟩)]] 59 (by rfl) (fun W => by kernel_rfl) ?_
  intro g_3 W_4 hp
  refine sx_nil ?_
  refine ex_then_n ?_
  refine wp_seq ?_
  refine sx_region ?_
  refine sx_box 6 hp #[.nilFunc] 86 (by rfl) (fun W => by kernel_rfl) ?_
  intro g_5 W_6 hp
  refine sx_nil ?_
  refine ex_then_n ?_
  refine wp_seq ?_
  refine sx_region ?_
  refine sx_rd 7 (.func (.func 77) #[] #[.pointer (some ⟨g_1, 0, none⟩), .pointer (some ⟨g_3, 0, none⟩), .pointer (some ⟨g_5, 0, none⟩)]) (by rfl) (by kernel_rfl) ?_
  refine sx_store (t := 86) (p := (.tmp 6)) (x := (.tmp 7)) (by rfl) (by rfl) 0 (by rfl) 0 [.func (.func 77) #[] #[.pointer (some ⟨g_1, 0, none⟩), .pointer (some ⟨g_3, 0, none⟩), .pointer (some ⟨g_5, 0, none⟩)]] (by rfl) (by rfl) (by kernel_rfl) (by simp [Value.oneCell']) (by show 1 ≤ 1; omega) #[.func (.func 77) #[] #[.pointer (some ⟨g_1, 0, none⟩), .pointer (some ⟨g_3, 0, none⟩), .pointer (some ⟨g_5, 0, none⟩)]] (by rfl) hp ?_
  intro W_7 hp; simp only [List.set_cons_succ, List.set_cons_zero] at hp
  refine sx_nil ?_
  refine ex_then_n ?_
  refine sx_region ?_
  refine sx_rd 8 (.func (.func 77) #[] #[.pointer (some ⟨g_1, 0, none⟩), .pointer (some ⟨g_3, 0, none⟩), .pointer (some ⟨g_5, 0, none⟩)]) (by rfl) (ld1 (t := 86) (p := (.tmp 6)) (by rfl) (by rfl) (by kernel_rfl) (hp.cell 0 (by rfl) 0 _ (by rfl))) ?_
  refine sx_lit 9 (by rfl) (Kd.int .i64) w0.heap.size 3 ([] : List Int) [] (fun W => by kernel_rfl) (Reps.none _ _) (by simp) hp.size hp ?_
  intro g_8 F_9 W_10 hp hz; clear hz
  refine sx_rd 10 (.slice AH H.length cH) (by rfl) (by kernel_rfl) ?_
  refine sx_call 11 (by rfl) (by kernel_rfl) ((add_sx gO g_1 g_3 g_5 H.length w0 _ (cs) [] (some ⟨g_8, 0, none⟩) (([] : List Int).length) F_9 H AH cH rfl hok (by simp) (by simp; omega) (by simp) hcH (fun W h => hH W h) out Ao co Fo hbd (hp.take [0, 4, 5, 3, 2, 1] 6 (by decide) (by simp))).mono ?_)
  rintro _ W_11 ⟨A2, c2, F2, rfl, hp⟩
  refine ⟨_, rfl, ?_⟩
  refine sx_nil ?_
  refine sx_end_n (.tuple #[]) (res0 (by rfl)) ?_
  exact ⟨_, _, _, rfl, (hp.take [0, 1] 5 (by decide) (by simp))⟩
end Go.Proofs.Ytbkaedmabdgdhaa.Hd
