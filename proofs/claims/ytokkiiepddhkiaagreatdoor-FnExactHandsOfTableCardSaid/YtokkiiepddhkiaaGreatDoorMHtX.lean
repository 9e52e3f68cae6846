/- impl.HandsOfTable, by hand. -/
import Derived.Test.YtokkiiepddhkiaaGreatDoorMHtI
import Derived.Test.YtokkiiepddhkiaaGreatDoorG2
import Derived.Test.YtokkiiepddhkiaaGreatDoorG2
import Derived.Test.YtokkiiepddhkiaaGreatDoorG2
import Derived.Test.YtokkiiepddhkiaaGreatDoorMMx
namespace Go.Proofs.YtokkiiepddhkiaaGreatDoor.Hd
open Go Go.RowKit Go.Proofs.YtokkiiepddhkiaaGreatDoor.Pure Go.Proofs.YtokkiiepddhkiaaGreatDoorW.PrintWords Go.Proofs.YtokkiiepddhkiaaGreatDoorW.PrintLast Go.Proofs.YtokkiiepddhkiaaGreatDoorW.PrintMore
set_option linter.unusedVariables false
set_option linter.unusedSimpArgs false
theorem cst31h : cst 31 + 0 = 10737418235 := rfl
def impl_HandsOfTable.f (a0 : ByteArray) : Option (Int × Bool) := if a0.size ≤ 1048576 then (if isTab a0 = true then some (((htR a0).length : Int), true) else some (0, false)) else none
set_option maxRecDepth 100000 in
set_option maxHeartbeats 40000000 in
theorem impl_HandsOfTable.calls (a0 : ByteArray) (r0 : Int) (r1 : Bool) (w : World)  (hmx : ∃ m, w.cell? ⟨0, 0, none⟩ = some (.int .i64 m)) (h : impl_HandsOfTable.f a0 = some (r0, r1)) :
  Calls Tryz.prog 21 #[.string a0] w fun e w' => e = .returned (.tuple #[.int .i64 r0, .bool r1]) ∧ Below w.heap.size w w' := by
 unfold impl_HandsOfTable.f at h
 by_cases hsz : a0.size ≤ 1048576
 case neg => rw [if_neg hsz] at h; cases h
 rw [if_pos hsz] at h
 obtain ⟨cs, hcs⟩ : ∃ cs, cs = [old w w.heap.size] := ⟨_, rfl⟩
 have hp : Hp w cs w := by rw [hcs]; exact Hp.old_start w
 have hc2 : ∀ W, Hp w cs W → Below w.heap.size w W := fun W h => by rw [hcs] at h; exact h.since 0 _ rfl
 have hM : ∀ W, Hp w cs W → ∃ m, W.cell? ⟨0, 0, none⟩ = some (.int .i64 m) := fun W h => hmx.imp fun m q => ((hc2 W h).cell (World.block_lt_of_cell? _ _ q)).trans q
 clear hcs
 refine sx_enter (N := 31) (l := [.string a0]) Tryz.func21 rfl rfl rfl ?_
 refine wp_seq ?_
 refine sx_region ?_
 refine sx_rd 2 (.int .i64 0) (by rfl) (by kernel_rfl) ?_
 refine sx_rd 3 (.bool false) (by rfl) (by kernel_rfl) ?_
 refine sx_nil ?_
 refine ex_then_n ?_
 refine wp_seq ?_
 refine wp_seq ?_
 refine sx_region ?_
 refine sx_rd 10 (.string a0) (by rfl) (by kernel_rfl) ?_
 obtain ⟨k_1, hk_k_1⟩ := Ev.rounds (implIsTable_ev a0 hsz)
 refine sx_call 11 (by rfl) (by kernel_rfl) ((impl_IsTable.calls k_1 a0 _ _ (hM _ (hp)) hk_k_1).mono ?_)
 rintro _ W_2 ⟨rfl, hb⟩
 refine ⟨_, rfl, ?_⟩
 replace hp := hp.below hb
 clear hb
 refine sx_rd 12 (.bool (!(isTab a0))) (by rfl) (by kernel_rfl) ?_
 refine sx_nil ?_
 refine ex_then_n ?_
 refine sx_cond (!(isTab a0)) (by rfl) (fun c_3 => ?_) (fun c_3 => ?_)
 ·
  refine wp_seq ?_
  refine sx_region ?_
  refine sx_rd 2 (.int .i64 0) (by rfl) (by kernel_rfl) ?_
  refine sx_rd 3 (.bool false) (by rfl) (by kernel_rfl) ?_
  refine sx_nil ?_
  refine ex_then_n ?_
  refine wp_ret ?_
  refine ex_then_r ?_
  refine sx_end (.tuple #[.int .i64 0, .bool false]) (res2 2 3 (by rfl)) ?_
  rw [if_neg (by rw [show isTab a0 = false from (not_eq c_3)]; simp)] at h
  simp only [Option.some.injEq, Prod.mk.injEq] at h; obtain ⟨rfl, rfl⟩ := h
  exact ⟨rfl, hc2 _ (hp)⟩
 ·
  have hTB : isTab a0 = true := (not_eq c_3)
  have hd := tab_dim hTB
  refine wp_skip ?_
  refine ex_then_n ?_
  refine wp_seq ?_
  refine sx_region ?_
  refine sx_rd 14 (.string a0) (by rfl) (by kernel_rfl) ?_
  refine sx_call 15 (by rfl) (by kernel_rfl) ((impl_size.calls a0 _ _ _ (hM _ (hp)) (size_ev a0 hsz (by omega))).mono ?_)
  rintro _ W_4 ⟨rfl, hb⟩
  refine ⟨_, rfl, ?_⟩
  replace hp := hp.below hb
  clear hb
  refine sx_rd 13 (.tuple #[.int .i64 (Pure.w0 (rowsB a0) : Int), .int .i64 ((rowsB a0).length : Int)]) (by rfl) (by kernel_rfl) ?_
  refine sx_rd 16 (.int .i64 (Pure.w0 (rowsB a0) : Int)) (by rfl) (by kernel_rfl) ?_
  refine sx_rd 17 (.int .i64 ((rowsB a0).length : Int)) (by rfl) (by kernel_rfl) ?_
  refine sx_rd 4 (.int .i64 (Pure.w0 (rowsB a0) : Int)) (by rfl) (by kernel_rfl) ?_
  refine sx_rd 5 (.int .i64 ((rowsB a0).length : Int)) (by rfl) (by kernel_rfl) ?_
  refine sx_nil ?_
  refine ex_then_n ?_
  refine wp_seq ?_
  refine sx_region ?_
  refine sx_rd 18 (.string a0) (by rfl) (by kernel_rfl) ?_
  refine sx_call 19 (by rfl) (by kernel_rfl) ((impl_flat.calls a0 _ _ (hM _ (hp)) (flat_eq a0 hsz)).mono ?_)
  rintro _ W_5 ⟨rfl, hb⟩
  refine ⟨_, rfl, ?_⟩
  replace hp := hp.below hb
  clear hb
  refine sx_mktg 20 (k := 55) (G := goodT) (by rfl) (fun W => by kernel_rfl) hp ?_
  intro bm W_6 hp
  refine sx_mkxm 21 (k := 9) (by rfl) (fun W => by kernel_rfl) hp ?_
  intro tm W_7 hp
  refine sx_box 6 hp #[.string ByteArray.empty] 9 (by rfl) (fun W => by kernel_rfl) ?_
  intro g_8 W_9 hp
  refine sx_box 7 hp #[.map none] 81 (by rfl) (fun W => by kernel_rfl) ?_
  intro g_10 W_11 hp
  refine sx_box 8 hp #[.map none] 82 (by rfl) (fun W => by kernel_rfl) ?_
  intro g_12 W_13 hp
  refine sx_store (t := 9) (p := (.tmp 6)) (x := (.tmp 19)) (by rfl) (by rfl) 2 (by rfl) 0 [.string (flatB a0)] (by rfl) (by rfl) (by kernel_rfl) (by simp [Value.oneCell']) (by show 1 ≤ 1; omega) #[.string (flatB a0)] (by rfl) hp ?_
  intro W_14 hp; simp only [List.set_cons_succ, List.set_cons_zero] at hp
  refine sx_store (t := 81) (p := (.tmp 7)) (x := (.tmp 20)) (by rfl) (by rfl) 1 (by rfl) 0 [.map (some bm)] (by rfl) (by rfl) (by kernel_rfl) (by simp [Value.oneCell']) (by show 1 ≤ 1; omega) #[.map (some bm)] (by rfl) hp ?_
  intro W_15 hp; simp only [List.set_cons_succ, List.set_cons_zero] at hp
  refine sx_store (t := 82) (p := (.tmp 8)) (x := (.tmp 21)) (by rfl) (by rfl) 0 (by rfl) 0 [.map (some tm)] (by rfl) (by rfl) (by kernel_rfl) (by simp [Value.oneCell']) (by show 1 ≤ 1; omega) #[.map (some tm)] (by rfl) hp ?_
  intro W_16 hp; simp only [List.set_cons_succ, List.set_cons_zero] at hp
  refine sx_nil ?_
  refine ex_then_n ?_
  refine wp_seq ?_
  refine sx_region ?_
  refine sx_rd 22 (.func (.func 53) #[] #[.pointer (some ⟨g_8, 0, none⟩), .pointer (some ⟨g_10, 0, none⟩)]) (by rfl) (by kernel_rfl) ?_
  refine sx_rd 9 (.func (.func 53) #[] #[.pointer (some ⟨g_8, 0, none⟩), .pointer (some ⟨g_10, 0, none⟩)]) (by rfl) (by kernel_rfl) ?_
  refine sx_nil ?_
  refine ex_then_n ?_
  refine wp_seq ?_
  refine sx_region ?_
  refine sx_rd 23 (.int .i64 (Pure.w0 (rowsB a0) : Int)) (by rfl) (by kernel_rfl) ?_
  refine sx_rd 24 (.int .i64 ((rowsB a0).length : Int)) (by rfl) (by kernel_rfl) ?_
  refine sx_rd 25 (.func (.func 53) #[] #[.pointer (some ⟨g_8, 0, none⟩), .pointer (some ⟨g_10, 0, none⟩)]) (by rfl) (by kernel_rfl) ?_
  refine sx_rd 26 (.func (.func 56) #[] #[.pointer (some ⟨g_10, 0, none⟩), .pointer (some ⟨g_8, 0, none⟩)]) (by rfl) (by kernel_rfl) ?_
  refine sx_rd 27 (.func (.func 57) #[] #[.pointer (some ⟨g_10, 0, none⟩), .pointer (some ⟨g_12, 0, none⟩)]) (by rfl) (by kernel_rfl) ?_
  have hp := Hp.grp [_, _, _, _, _] (hp.take [4, 2, 1, 0, 3] 5 (by decide) (by simp))
  refine sx_call 28 (by rfl) (by kernel_rfl) ((layouts_sx (htCb a0 g_8 g_10 g_12 bm tm) (Pure.w0 (rowsB a0) : Int) ((rowsB a0).length : Int) (cells a0).length (ht_ok w a0 hTB g_8 g_10 g_12 bm tm) (fun _ => false, []) (0, 0) (by omega) (by omega) (by omega) (by omega) hd.1 hd.2.2.1 ⟨by rw [cst31h]; decide, by rw [cst31h]; decide⟩ hp).mono ?_)
  rintro _ W_17 ⟨⟨n9, t9⟩, rfl, ⟨hi9, hi8⟩, hp⟩
  refine ⟨_, rfl, ?_⟩
  replace hp := hp.ungrp
  replace hp : Hp w (tileG Tryz.prog 55 bm n9 goodT ((layG (seaH a0) (Pure.w0 (rowsB a0) : Int) (cells a0).length 31 (List.replicate (cells a0).length 0) 0 (fun _ => false, [])).2.1) :: blk g_8 #[.string (flatB a0)] 9 :: blk g_10 #[.map (some bm)] 81 :: blk g_12 #[.map (some tm)] 82 :: txtM Tryz.prog 9 tm t9 (htR a0) :: cs) W_17 := hp
  refine sx_nil ?_
  refine ex_then_n ?_
  refine wp_seq ?_
  refine sx_region ?_
  refine sx_rd 29 (.map (some tm)) (by rfl) (ld1 (t := 82) (p := (.tmp 8)) (by rfl) (by rfl) (by kernel_rfl) (hp.cell 3 (by rfl) 0 _ (by rfl))) ?_
  refine sx_rd 30 (.int .i64 ((htR a0).length : Int)) (by rfl) (tx_len Tryz.underlying82 (by rfl) (by rfl) (by rfl) (hp.at_ 4 _ (by rfl))) ?_
  refine sx_rd 2 (.int .i64 ((htR a0).length : Int)) (by rfl) (by kernel_rfl) ?_
  refine sx_rd 3 (.bool true) (by rfl) (by kernel_rfl) ?_
  refine sx_nil ?_
  refine ex_then_n ?_
  refine wp_ret ?_
  refine sx_end (.tuple #[.int .i64 ((htR a0).length : Int), .bool true]) (res2 2 3 (by rfl)) ?_
  rw [if_pos (show isTab a0 = true from (not_eq c_3))] at h
  simp only [Option.some.injEq, Prod.mk.injEq] at h; obtain ⟨rfl, rfl⟩ := h
  exact ⟨rfl, hc2 _ (hp.tail.tail.tail.tail.tail)⟩
end Go.Proofs.YtokkiiepddhkiaaGreatDoor.Hd
