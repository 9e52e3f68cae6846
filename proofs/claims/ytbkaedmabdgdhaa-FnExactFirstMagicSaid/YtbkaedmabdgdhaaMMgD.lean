/- spec.FirstMagic, by hand. -/
import Derived.Test.YtbkaedmabdgdhaaMMgB
namespace Go.Proofs.Ytbkaedmabdgdhaa.Hd
open Go.RowKit Go.Proofs.Ytbkaedmabdgdhaa.Pure Go.Proofs.YtbkaedmabdgdhaaW.PrintWords Go.Proofs.YtbkaedmabdgdhaaW.PrintLast Go.Proofs.YtbkaedmabdgdhaaW.PrintMore
set_option linter.unusedVariables false
set_option linter.unusedSimpArgs false
def spec_FirstMagic.f (l0 : List S_Tile) (a1 : Int) : Option (List (List Int) × Bool) := if l0.length ≤ 1048576 then (if okMg l0 a1 then (if (stFg l0 a1).2 ≤ 1000000000 then (if (stFg l0 a1).2 = 0 then some ([], false) else some ((stFg l0 a1).1, true)) else none) else some ([], false)) else none
set_option maxRecDepth 100000 in
set_option maxHeartbeats 40000000 in
theorem spec_FirstMagic.calls (A0 : Option Addr) (c0 : Nat) (l0 : List S_Tile) (a1 : Int) (r0 : List (List Int)) (r1 : Bool) (w : World) (hr0 : Kd.C k50 w A0 l0.length l0) (hc0 : l0.length ≤ c0) (h : spec_FirstMagic.f l0 a1 = some (r0, r1)) :
  Calls Try.prog 13 #[.slice A0 l0.length c0, .int .i64 a1] w fun e w' => ∃ v0_ : Value, e = .returned (.tuple #[v0_, .bool r1]) ∧ Kd.S (Kd.slice 3 (Kd.int .i64)) 39 w' w.heap.size (fun _ => True) v0_ r0 ∧ Below w.heap.size w w' := by
 unfold spec_FirstMagic.f at h
 by_cases hl0 : l0.length ≤ 1048576
 case neg => rw [if_neg hl0] at h; cases h
 rw [if_pos hl0] at h
 obtain ⟨cs, hcs⟩ : ∃ cs, cs = [old w w.heap.size] := ⟨_, rfl⟩
 have hp : Hp w cs w := by rw [hcs]; exact Hp.old_start w
 have hc2 : ∀ W, Hp w cs W → Below w.heap.size w W := fun W h => by rw [hcs] at h; exact h.since 0 _ rfl
 have hC0 : ∀ W, Hp w cs W → Kd.C k50 W A0 l0.length l0 := fun W h => Kd.C_below hr0 (hc2 W h)
 clear hcs
 by_cases hok : okMg l0 a1
 ·
  rw [if_pos hok] at h
  by_cases hbd : (stFg l0 a1).2 ≤ 1000000000
  case neg => rw [if_neg hbd] at h; cases h
  rw [if_pos hbd] at h
  refine sx_enter (N := 27) (l := [.slice A0 l0.length c0, .int .i64 a1]) Try.func13 rfl rfl rfl ?_
  refine wp_seq ?_
  refine sx_region ?_
  refine sx_rd 4 (.slice none 0 0) (by rfl) (by kernel_rfl) ?_
  refine sx_rd 5 (.bool false) (by rfl) (by kernel_rfl) ?_
  refine sx_nil ?_
  refine ex_then_n ?_
  refine wp_seq ?_
  refine sx_region ?_
  refine sx_rd 9 (.slice A0 l0.length c0) (by rfl) (by kernel_rfl) ?_
  refine sx_rd 10 (.int .i64 a1) (by rfl) (by kernel_rfl) ?_
  refine sx_call 11 (by rfl) (by kernel_rfl) ((blocksT_sx w _ (cs) l0 A0 c0 a1 hl0 hc0 (fun W h => hC0 W h) hok hbd hp).mono ?_)
  rintro _ W_1 ⟨g, R, wd, A', c', F', rfl, -, -, hp⟩
  refine ⟨_, rfl, ?_⟩
  refine sx_rd 8 (.tuple #[.pointer (some ⟨g, 0, none⟩), .bool true]) (by rfl) (by kernel_rfl) ?_
  refine sx_rd 12 (.pointer (some ⟨g, 0, none⟩)) (by rfl) (by kernel_rfl) ?_
  refine sx_rd 13 (.bool true) (by rfl) (by kernel_rfl) ?_
  refine sx_rd 6 (.pointer (some ⟨g, 0, none⟩)) (by rfl) (by kernel_rfl) ?_
  refine sx_rd 7 (.bool true) (by rfl) (by kernel_rfl) ?_
  refine sx_nil ?_
  refine ex_then_n ?_
  refine wp_seq ?_
  refine wp_seq ?_
  refine sx_region ?_
  refine sx_rd 14 (.bool true) (by rfl) (by kernel_rfl) ?_
  refine sx_rd 15 (.bool false) (by rfl) (by kernel_rfl) ?_
  refine sx_rd 16 (.bool false) (by rfl) (by kernel_rfl) ?_
  refine sx_want (by rfl) ?_
  refine sx_rd 17 (.pointer (some ⟨g, 0, none⟩)) (by rfl) (by kernel_rfl) ?_
  refine sx_want (by rfl) ?_
  refine sx_rd 18 (.pointer (some ⟨g, 0, none⟩)) (by rfl) (by kernel_rfl) ?_
  refine sx_want (by rfl) ?_
  refine sx_rd 19 (.pointer (some ⟨g, 2, none⟩)) (by rfl) (by kernel_rfl) ?_
  refine sx_want (by rfl) ?_
  refine sx_rd 20 (.int .i64 ((stFg l0 a1).2 : Int)) (by rfl) (ld1 (t := 3) (p := (.tmp 19)) (by rfl) (by rfl) (by kernel_rfl) (hp.cell 0 (by rfl) 2 _ (by rfl))) ?_
  refine sx_want (by rfl) ?_
  refine sx_rd 21 (.bool (((stFg l0 a1).2 : Int) == 0)) (by rfl) (by kernel_rfl) ?_
  refine sx_rd 22 (.bool (((stFg l0 a1).2 : Int) == 0)) (by rfl) (by kernel_rfl) ?_
  refine sx_nil ?_
  refine ex_then_n ?_
  refine sx_cond (((stFg l0 a1).2 : Int) == 0) (by rfl) (fun c_2 => ?_) (fun c_2 => ?_)
  ·
   have c_2p := eq_of_beq_ c_2
   refine wp_seq ?_
   refine sx_region ?_
   refine sx_rd 4 (.slice none 0 0) (by rfl) (by kernel_rfl) ?_
   refine sx_rd 5 (.bool false) (by rfl) (by kernel_rfl) ?_
   refine sx_nil ?_
   refine ex_then_n ?_
   refine wp_ret ?_
   refine ex_then_r ?_
   refine sx_end (.tuple #[.slice none 0 0, .bool false]) (res2 4 5 (by rfl)) ?_
   rw [if_pos (by omega)] at h
   simp only [Option.some.injEq, Prod.mk.injEq] at h; obtain ⟨rfl, rfl⟩ := h
   exact ⟨_, rfl, Kd.S_nil _ _ _ _ _, hc2 _ (hp.tail.tail)⟩
  ·
   have c_2p := ne_of_beq_ c_2
   refine wp_skip ?_
   refine ex_then_n ?_
   refine wp_seq ?_
   refine sx_region ?_
   refine sx_rd 23 (.pointer (some ⟨g, 0, none⟩)) (by rfl) (by kernel_rfl) ?_
   refine sx_rd 24 (.pointer (some ⟨g, 0, none⟩)) (by rfl) (by kernel_rfl) ?_
   refine sx_rd 25 (.pointer (some ⟨g, 3, none⟩)) (by rfl) (by kernel_rfl) ?_
   refine sx_rd 26 (.slice A' ((stFg l0 a1).1.length) c') (by rfl) (ld1 (t := 30) (p := (.tmp 25)) (by rfl) (by rfl) (by kernel_rfl) (hp.cell 0 (by rfl) 3 _ (by rfl))) ?_
   refine sx_rd 4 (.slice A' ((stFg l0 a1).1.length) c') (by rfl) (by kernel_rfl) ?_
   refine sx_rd 5 (.bool true) (by rfl) (by kernel_rfl) ?_
   refine sx_nil ?_
   refine ex_then_n ?_
   refine wp_ret ?_
   refine sx_end (.tuple #[.slice A' ((stFg l0 a1).1.length) c', .bool true]) (res2 4 5 (by rfl)) ?_
   rw [if_neg (by omega)] at h
   simp only [Option.some.injEq, Prod.mk.injEq] at h; obtain ⟨rfl, rfl⟩ := h
   exact ⟨_, rfl, Kd.S_mono (rowS_S (hp.at_ 1 _ (by rfl))) (fun _ _ => trivial), hc2 _ (hp.tail.tail)⟩
 ·
  rw [if_neg hok] at h
  refine sx_enter (N := 27) (l := [.slice A0 l0.length c0, .int .i64 a1]) Try.func13 rfl rfl rfl ?_
  refine wp_seq ?_
  refine sx_region ?_
  refine sx_rd 4 (.slice none 0 0) (by rfl) (by kernel_rfl) ?_
  refine sx_rd 5 (.bool false) (by rfl) (by kernel_rfl) ?_
  refine sx_nil ?_
  refine ex_then_n ?_
  refine wp_seq ?_
  refine sx_region ?_
  refine sx_rd 9 (.slice A0 l0.length c0) (by rfl) (by kernel_rfl) ?_
  refine sx_rd 10 (.int .i64 a1) (by rfl) (by kernel_rfl) ?_
  refine sx_call 11 (by rfl) (by kernel_rfl) ((blocksF_sx w _ (cs) l0 A0 c0 a1 hl0 hc0 (fun W h => hC0 W h) hok hp).mono ?_)
  rintro _ W_1 ⟨rfl, hp⟩
  refine ⟨_, rfl, ?_⟩
  refine sx_rd 8 (.tuple #[.pointer none, .bool false]) (by rfl) (by kernel_rfl) ?_
  refine sx_rd 12 (.pointer none) (by rfl) (by kernel_rfl) ?_
  refine sx_rd 13 (.bool false) (by rfl) (by kernel_rfl) ?_
  refine sx_rd 6 (.pointer none) (by rfl) (by kernel_rfl) ?_
  refine sx_rd 7 (.bool false) (by rfl) (by kernel_rfl) ?_
  refine sx_nil ?_
  refine ex_then_n ?_
  refine wp_seq ?_
  refine wp_seq ?_
  refine sx_region ?_
  refine sx_rd 14 (.bool false) (by rfl) (by kernel_rfl) ?_
  refine sx_rd 15 (.bool true) (by rfl) (by kernel_rfl) ?_
  refine sx_rd 16 (.bool true) (by rfl) (by kernel_rfl) ?_
  refine sx_skip 17 (by rfl) (by rfl) (by rfl) ?_
  refine sx_skip 18 (by rfl) (by rfl) (by rfl) ?_
  refine sx_skip 19 (by rfl) (by rfl) (by rfl) ?_
  refine sx_skip 20 (by rfl) (by rfl) (by rfl) ?_
  refine sx_skip 21 (by rfl) (by rfl) (by rfl) ?_
  refine sx_rd 22 (.bool true) (by rfl) (by kernel_rfl) ?_
  refine sx_nil ?_
  refine ex_then_n ?_
  refine sx_then true (by rfl) rfl ?_
  refine wp_seq ?_
  refine sx_region ?_
  refine sx_rd 4 (.slice none 0 0) (by rfl) (by kernel_rfl) ?_
  refine sx_rd 5 (.bool false) (by rfl) (by kernel_rfl) ?_
  refine sx_nil ?_
  refine ex_then_n ?_
  refine wp_ret ?_
  refine ex_then_r ?_
  refine sx_end (.tuple #[.slice none 0 0, .bool false]) (res2 4 5 (by rfl)) ?_
  simp only [Option.some.injEq, Prod.mk.injEq] at h; obtain ⟨rfl, rfl⟩ := h
  exact ⟨_, rfl, Kd.S_nil _ _ _ _ _, hc2 _ (hp)⟩
end Go.Proofs.Ytbkaedmabdgdhaa.Hd
