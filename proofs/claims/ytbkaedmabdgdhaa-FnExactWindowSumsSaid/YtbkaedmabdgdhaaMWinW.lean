/- impl.windows, by hand. -/
import Derived.Test.YtbkaedmabdgdhaaMSortSS
import Derived.Test.YtbkaedmabdgdhaaMWinL
namespace Go.Proofs.Ytbkaedmabdgdhaa.Hd
open Go.RowKit Go.Proofs.Ytbkaedmabdgdhaa.Pure Go.Proofs.YtbkaedmabdgdhaaW.PrintWords Go.Proofs.YtbkaedmabdgdhaaW.PrintLast Go.Proofs.YtbkaedmabdgdhaaW.PrintMore
set_option linter.unusedVariables false
set_option linter.unusedSimpArgs false
set_option maxRecDepth 100000 in
set_option maxHeartbeats 40000000 in
theorem laidW_sx (gO : Nat) (w0 W : World) (cs : List Chunk) (H : List S_Tile) (AH : Option Addr) (cH : Nat) (hok : ∀ t ∈ H, goodT t = true) (hlen : H.length ≤ 1000) (hcH : H.length ≤ cH) (hH : ∀ W, Hp w0 cs W → Kd.C k50 W AH H.length H) (out : List (List Int)) (Ao : Option Addr) (co : Nat) (Fo : Nat → Prop) (hbd : ((walkL stepW 4 H.length [] H out)).length ≤ 1000000) (hp : Hp w0 (blk gO #[.slice Ao out.length co] 30 :: rowS (Kd.slice 3 (Kd.int .i64)) 39 w0.heap.size (.slice Ao out.length co) out Fo :: cs) W) :
    Calls Try.prog 49 #[.slice AH H.length cH, .int .i64 4, .func (.func 55) #[] #[.pointer (some ⟨gO, 0, none⟩)]] W fun e W' => ∃ A' c' F', e = .returned (.tuple #[]) ∧ Hp w0 (blk gO #[.slice A' ((walkL stepW 4 H.length [] H out).length) c'] 30 :: rowS (Kd.slice 3 (Kd.int .i64)) 39 w0.heap.size (.slice A' ((walkL stepW 4 H.length [] H out).length) c') (walkL stepW 4 H.length [] H out) F' :: cs) W' := by
  refine sx_enter (N := 12) (l := [.slice AH H.length cH, .int .i64 4, .func (.func 55) #[] #[.pointer (some ⟨gO, 0, none⟩)]]) Try.func49 rfl rfl rfl ?_
  refine wp_seq ?_
  refine sx_region ?_
  refine sx_box 4 hp #[.int .i64 4] 3 (by rfl) (fun W => by kernel_rfl) ?_
  intro g_1 W_2 hp
  refine sx_box 5 hp #[.func (.func 55) #[] #[.pointer (some ⟨gO, 0, none⟩)]] 59 (by rfl) (fun W => by kernel_rfl) ?_
  intro g_3 W_4 hp
  refine sx_nil ?_
  refine ex_then_n ?_
  refine wp_seq ?_
  refine sx_region ?_
  refine sx_box 6 hp #[.nilFunc] 86 (by rfl) (fun W => by kernel_rfl) ?_
  intro g_5 W_6 hp
  refine sx_nil ?_
  refine ex_then_n ?_
  refine wp_seq ?_
  refine sx_region ?_
  refine sx_rd 7 (.func (.func 77) #[] #[.pointer (some ⟨g_1, 0, none⟩), .pointer (some ⟨g_3, 0, none⟩), .pointer (some ⟨g_5, 0, none⟩)]) (by rfl) (by kernel_rfl) ?_
  refine sx_store (t := 86) (p := (.tmp 6)) (x := (.tmp 7)) (by rfl) (by rfl) 0 (by rfl) 0 [.func (.func 77) #[] #[.pointer (some ⟨g_1, 0, none⟩), .pointer (some ⟨g_3, 0, none⟩), .pointer (some ⟨g_5, 0, none⟩)]] (by rfl) (by rfl) (by kernel_rfl) (by simp [Value.oneCell']) (by show 1 ≤ 1; omega) #[.func (.func 77) #[] #[.pointer (some ⟨g_1, 0, none⟩), .pointer (some ⟨g_3, 0, none⟩), .pointer (some ⟨g_5, 0, none⟩)]] (by rfl) hp ?_
  intro W_7 hp; simp only [List.set_cons_succ, List.set_cons_zero] at hp
  refine sx_nil ?_
  refine ex_then_n ?_
  refine sx_region ?_
  refine sx_rd 8 (.func (.func 77) #[] #[.pointer (some ⟨g_1, 0, none⟩), .pointer (some ⟨g_3, 0, none⟩), .pointer (some ⟨g_5, 0, none⟩)]) (by rfl) (ld1 (t := 86) (p := (.tmp 6)) (by rfl) (by rfl) (by kernel_rfl) (hp.cell 0 (by rfl) 0 _ (by rfl))) ?_
  refine sx_lit 9 (by rfl) (Kd.int .i64) w0.heap.size 3 ([] : List Int) [] (fun W => by kernel_rfl) (Reps.none _ _) (by simp) hp.size hp ?_
  intro g_8 F_9 W_10 hp hz; clear hz
  refine sx_rd 10 (.slice AH H.length cH) (by rfl) (by kernel_rfl) ?_
  refine sx_call 11 (by rfl) (by kernel_rfl) ((add_sx gO g_1 g_3 g_5 H.length w0 _ (cs) [] (some ⟨g_8, 0, none⟩) (([] : List Int).length) F_9 H AH cH rfl hok (by simp) (by simp; omega) (by simp) hcH (fun W h => hH W h) out Ao co Fo hbd (hp.take [0, 4, 5, 3, 2, 1] 6 (by decide) (by simp))).mono ?_)
  rintro _ W_11 ⟨A2, c2, F2, rfl, hp⟩
  refine ⟨_, rfl, ?_⟩
  refine sx_nil ?_
  refine sx_end_n (.tuple #[]) (res0 (by rfl)) ?_
  exact ⟨_, _, _, rfl, (hp.take [0, 1] 5 (by decide) (by simp))⟩
end Go.Proofs.Ytbkaedmabdgdhaa.Hd
namespace Go.Proofs.Ytbkaedmabdgdhaa.Hd
open Go.RowKit Go.Proofs.Ytbkaedmabdgdhaa.Pure Go.Proofs.YtbkaedmabdgdhaaW.PrintWords Go.Proofs.YtbkaedmabdgdhaaW.PrintLast Go.Proofs.YtbkaedmabdgdhaaW.PrintMore
set_option linter.unusedVariables false
set_option linter.unusedSimpArgs false
def impl_windows.f (l0 : List S_Tile) : Option (List (List Int)) := if (∀ t ∈ l0, goodT t = true) ∧ l0.length ≤ 1000 ∧ ((walkL stepW 4 l0.length [] l0 [])).length ≤ 1000000 ∧ ((walkL stepW 4 l0.length [] l0 [])).Nodup then some (((walkL stepW 4 l0.length [] l0 [])).mergeSort leL) else none
set_option maxRecDepth 100000 in
set_option maxHeartbeats 40000000 in
theorem impl_windows.calls (A0 : Option Addr) (c0 : Nat) (l0 : List S_Tile) (r : List (List Int)) (w : World) (hr0 : Kd.C k50 w A0 l0.length l0) (hc0 : l0.length ≤ c0) (h : impl_windows.f l0 = some r) :
    Calls Try.prog 35 #[.slice A0 l0.length c0] w fun e w' => ∃ v0_ : Value, e = .returned (v0_) ∧ Kd.S (Kd.slice 3 (Kd.int .i64)) 39 w' w.heap.size (fun _ => True) v0_ r ∧ Below w.heap.size w w' := by
  unfold impl_windows.f at h
  by_cases hg0 : (∀ t ∈ l0, goodT t = true) ∧ l0.length ≤ 1000 ∧ ((walkL stepW 4 l0.length [] l0 [])).length ≤ 1000000 ∧ ((walkL stepW 4 l0.length [] l0 [])).Nodup
  case neg => rw [if_neg hg0] at h; cases h
  rw [if_pos hg0] at h
  obtain ⟨hok, hl0, hbd, hnd⟩ := hg0
  obtain ⟨cs, hcs⟩ : ∃ cs, cs = [old w w.heap.size] := ⟨_, rfl⟩
  have hp : Hp w cs w := by rw [hcs]; exact Hp.old_start w
  have hc2 : ∀ W, Hp w cs W → Below w.heap.size w W := fun W h => by rw [hcs] at h; exact h.since 0 _ rfl
  have hC0 : ∀ W, Hp w cs W → Kd.C k50 W A0 l0.length l0 := fun W h => Kd.C_below hr0 (hc2 W h)
  clear hcs
  refine sx_enter (N := 11) (l := [.slice A0 l0.length c0]) Try.func35 rfl rfl rfl ?_
  refine wp_seq ?_
  refine sx_region ?_
  refine sx_rd 2 (.slice none 0 0) (by rfl) (by kernel_rfl) ?_
  refine sx_nil ?_
  refine ex_then_n ?_
  refine wp_seq ?_
  refine sx_region ?_
  refine sx_lit 4 (by rfl) (Kd.tag (fun _ => 0) (Kd.slice 3 (Kd.int .i64))) w.heap.size 39 [] [] (fun W => by kernel_rfl) (Reps.none _ _) (by simp) hp.size hp ?_
  intro g_1 F_2 W_3 hp hz; clear hz; replace hp := hp.litS0
  refine sx_box 3 hp #[.slice none 0 0] 30 (by rfl) (fun W => by kernel_rfl) ?_
  intro g_4 W_5 hp
  refine sx_store (t := 30) (p := (.tmp 3)) (x := (.tmp 4)) (by rfl) (by rfl) 0 (by rfl) 0 [.slice (some ⟨g_1, 0, none⟩) (([] : List (List Int)).length) (([] : List (List Int)).length)] (by rfl) (by rfl) (by kernel_rfl) (by simp [Value.oneCell']) (by show 1 ≤ 1; omega) #[.slice (some ⟨g_1, 0, none⟩) (([] : List (List Int)).length) (([] : List (List Int)).length)] (by rfl) hp ?_
  intro W_6 hp; simp only [List.set_cons_succ, List.set_cons_zero] at hp
  refine sx_nil ?_
  refine ex_then_n ?_
  refine wp_seq ?_
  refine sx_region ?_
  refine sx_rd 5 (.slice A0 l0.length c0) (by rfl) (by kernel_rfl) ?_
  refine sx_rd 6 (.func (.func 55) #[] #[.pointer (some ⟨g_4, 0, none⟩)]) (by rfl) (by kernel_rfl) ?_
  refine sx_call 7 (by rfl) (by kernel_rfl) ((laidW_sx g_4 w _ (cs) l0 A0 c0 hok hl0 hc0 (fun W h => hC0 W h) [] (some ⟨g_1, 0, none⟩) (([] : List (List Int)).length) F_2 hbd (hp.take [0, 1] 2 (by decide) (by simp))).mono ?_)
  rintro _ W_7 ⟨A2, c2, F2, rfl, hp⟩
  refine ⟨_, rfl, ?_⟩
  refine sx_nil ?_
  refine ex_then_n ?_
  refine wp_seq ?_
  refine sx_region ?_
  refine sx_rd 8 (.slice A2 ((walkL stepW 4 l0.length [] l0 []).length) c2) (by rfl) (ld1 (t := 30) (p := (.tmp 3)) (by rfl) (by rfl) (by kernel_rfl) (hp.cell 0 (by rfl) 0 _ (by rfl))) ?_
  refine sx_call 9 (by rfl) (by kernel_rfl) ((sortS_sx (rowS_S (hp.at_ 1 _ (by rfl))) (L := 8) walkW_len (by omega) hnd (by omega)).mono ?_)
  rintro _ W_8 ⟨rfl, hS3, hm3⟩
  refine ⟨_, rfl, ?_⟩
  obtain ⟨F3, hp⟩ := Hp.sortS (hp.take [1, 0] 2 (by decide) (by simp)) hm3 hS3
  have hml : ((walkL stepW 4 l0.length [] l0 []).mergeSort leL).length = (walkL stepW 4 l0.length [] l0 []).length := List.length_mergeSort _
  refine sx_nil ?_
  refine ex_then_n ?_
  refine wp_seq ?_
  refine sx_region ?_
  refine sx_rd 10 (.slice A2 ((walkL stepW 4 l0.length [] l0 []).length) c2) (by rfl) (ld1 (t := 30) (p := (.tmp 3)) (by rfl) (by rfl) (by kernel_rfl) (hp.cell 1 (by rfl) 0 _ (by rfl))) ?_
  refine sx_rd 2 (.slice A2 ((walkL stepW 4 l0.length [] l0 []).length) c2) (by rfl) (by kernel_rfl) ?_
  refine sx_nil ?_
  refine ex_then_n ?_
  refine wp_ret ?_
  refine sx_end (.slice A2 ((walkL stepW 4 l0.length [] l0 []).length) c2) (res1 2 (by rfl)) ?_
  obtain rfl := Option.some.inj h
  exact ⟨_, rfl, Kd.S_mono (rowS_S (hp.at_ 0 _ (by rfl))) (fun _ _ => trivial), hc2 _ (hp.tail.tail)⟩
end Go.Proofs.Ytbkaedmabdgdhaa.Hd
