/- spec.HandsOfTable, by hand. -/
import Derived.Test.YtokkiiepddhkiaaGreatDoorMAptS
import Derived.Test.YtokkiiepddhkiaaGreatDoorPHtS
import Derived.Test.YtokkiiepddhkiaaGreatDoorMSxS
import Derived.Test.YtokkiiepddhkiaaGreatDoorMMx
import Derived.Test.YtokkiiepddhkiaaGreatDoorMSx3
import Derived.Test.YtokkiiepddhkiaaGreatDoorG2
import Derived.Test.YtokkiiepddhkiaaGreatDoorG1
import Derived.Test.YtokkiiepddhkiaaGreatDoorG0
import Derived.Test.YtokkiiepddhkiaaGreatDoorMSxR
namespace Go.Proofs.YtokkiiepddhkiaaGreatDoor.Hd
open Go Go.RowKit Go.Proofs.YtokkiiepddhkiaaGreatDoorW.PrintWords Go.Proofs.YtokkiiepddhkiaaGreatDoorW.PrintLast Go.Proofs.YtokkiiepddhkiaaGreatDoorW.PrintMore
set_option linter.unusedVariables false
section
variable {α : Type} {di : Kd α} {ei e base n c : Nat} {A : Option Addr} {xs : List (List α)} {F : Nat → Prop} {W W1 : World}
theorem rowS_hdr (h : (rowS (Kd.slice ei di) e base (.slice A n c) xs F).ok W) (i : Nat) (hi : i < xs.length) :
    ∃ A' c', W.cell? (adr A (i : Int) 1) = some (.slice A' xs[i].length c') ∧ Kd.C di W A' xs[i].length xs[i] ∧ xs[i].length ≤ c' := by
  obtain ⟨h1, h2, h3⟩ := rowS_C h
  obtain ⟨ad, hA, hj⟩ := h3 (by omega)
  obtain ⟨c, hlen, hK, hcell⟩ := hj i xs[i] (List.getElem?_eq_getElem hi)
  obtain ⟨A', c', rfl, hl, hc⟩ := hK
  have hc0 := hcell 0 (.slice A' xs[i].length c') rfl
  refine ⟨A', c', ?_, hc, hl⟩
  have e : adr A (i : Int) 1 = ad.add (i * 1 + 0) := by rw [hA]; simp [adr]
  rw [e]; exact hc0
theorem add_block (ad : Addr) (k : Nat) : (ad.add k).block = ad.block := by
  unfold Addr.add
  split <;> rfl
end
end Go.Proofs.YtokkiiepddhkiaaGreatDoor.Hd
namespace Go.Proofs.YtokkiiepddhkiaaGreatDoor.Hd
open Go.RowKit Go.Proofs.YtokkiiepddhkiaaGreatDoor.Pure Go.Proofs.YtokkiiepddhkiaaGreatDoorW.PrintWords Go.Proofs.YtokkiiepddhkiaaGreatDoorW.PrintLast Go.Proofs.YtokkiiepddhkiaaGreatDoorW.PrintMore
set_option linter.unusedVariables false
set_option linter.unusedSimpArgs false
def spec_HandsOfTable.f (a0 : ByteArray) : Option (Int × Bool) := if a0.size ≤ 1048576 then (if isTab a0 = true then some (((seenS a0 (allL a0)).length : Int), true) else some (0, false)) else none
set_option maxRecDepth 100000 in
set_option maxHeartbeats 40000000 in
theorem spec_HandsOfTable.calls (a0 : ByteArray) (r0 : Int) (r1 : Bool) (w : World)  (hmx : ∃ m, w.cell? ⟨0, 0, none⟩ = some (.int .i64 m)) (h : spec_HandsOfTable.f a0 = some (r0, r1)) :
    Calls Tryz.prog 20 #[.string a0] w fun e w' => e = .returned (.tuple #[.int .i64 r0, .bool r1]) ∧ Below w.heap.size w w' := by
  unfold spec_HandsOfTable.f at h
  by_cases hsz : a0.size ≤ 1048576
  case neg => rw [if_neg hsz] at h; cases h
  rw [if_pos hsz] at h
  obtain ⟨cs, hcs⟩ : ∃ cs, cs = [old w w.heap.size] := ⟨_, rfl⟩
  have hp : Hp w cs w := by rw [hcs]; exact Hp.old_start w
  have hc2 : ∀ W, Hp w cs W → Below w.heap.size w W := fun W h => by rw [hcs] at h; exact h.since 0 _ rfl
  have hM : ∀ W, Hp w cs W → ∃ m, W.cell? ⟨0, 0, none⟩ = some (.int .i64 m) := fun W h => hmx.imp fun m q => ((hc2 W h).cell (World.block_lt_of_cell? _ _ q)).trans q
  clear hcs
  by_cases ht : isTab a0 = true
  ·
    have hd := tab_dim ht
    refine sx_enter (N := 57) (l := [.string a0]) Tryz.func20 rfl rfl rfl ?_
    refine wp_seq ?_
    refine sx_region ?_
    refine sx_rd 2 (.int .i64 0) (by rfl) (by kernel_rfl) ?_
    refine sx_rd 3 (.bool false) (by rfl) (by kernel_rfl) ?_
    refine sx_nil ?_
    refine ex_then_n ?_
    refine wp_seq ?_
    refine sx_region ?_
    refine sx_rd 13 (.string a0) (by rfl) (by kernel_rfl) ?_
    obtain ⟨k_1, hk_k_1⟩ := Ev.rounds (taRead_t hsz ht)
    refine sx_call 14 (by rfl) (by kernel_rfl) ((spec_taRead.calls k_1 a0 _ _ _ _ _ hk_k_1).mono ?_)
    rintro _ W_7 ⟨v_3, rfl, hR_2, hb⟩
    refine ⟨_, rfl, ?_⟩
    obtain ⟨A_4, c_5, rfl, hcc_c_5, _⟩ := Kd.R_reads hR_2
    obtain ⟨F_6, hp⟩ : ∃ F, Hp w (row (Kd.int .i64) 3 w.heap.size (.slice A_4 (cells a0).length c_5) (cells a0) F :: cs) _ := ⟨_, Hp.made hp hb hR_2⟩
    refine sx_rd 12 (.tuple #[.agg #[.int .i64 (Pure.w0 (rowsB a0) : Int), .int .i64 ((rowsB a0).length : Int), .slice A_4 ((cells a0).length) c_5], .bool true]) (by rfl) (by kernel_rfl) ?_
    refine sx_rd 15 (.agg #[.int .i64 (Pure.w0 (rowsB a0) : Int), .int .i64 ((rowsB a0).length : Int), .slice A_4 ((cells a0).length) c_5]) (by rfl) (by kernel_rfl) ?_
    refine sx_rd 16 (.bool true) (by rfl) (by kernel_rfl) ?_
    refine sx_box 4 hp #[.int .i64 0, .int .i64 0, .slice none 0 0] 44 (by rfl) (fun W => by kernel_rfl) ?_
    intro g_8 W_9 hp
    refine sx_store (t := 44) (p := (.tmp 4)) (x := (.tmp 15)) (by rfl) (by rfl) 0 (by rfl) 0 [.int .i64 (Pure.w0 (rowsB a0) : Int), .int .i64 ((rowsB a0).length : Int), .slice A_4 ((cells a0).length) c_5] (by rfl) (by rfl) (by kernel_rfl) (by simp [Value.oneCell']) (by show 3 ≤ 3; omega) #[.int .i64 (Pure.w0 (rowsB a0) : Int), .int .i64 ((rowsB a0).length : Int), .slice A_4 ((cells a0).length) c_5] (by rfl) hp ?_
    intro W_10 hp; simp only [List.set_cons_succ, List.set_cons_zero] at hp
    refine sx_rd 5 (.bool true) (by rfl) (by kernel_rfl) ?_
    refine sx_nil ?_
    refine ex_then_n ?_
    refine wp_seq ?_
    refine wp_seq ?_
    refine sx_region ?_
    refine sx_rd 17 (.bool true) (by rfl) (by kernel_rfl) ?_
    refine sx_rd 18 (.bool false) (by rfl) (by kernel_rfl) ?_
    refine sx_nil ?_
    refine ex_then_n ?_
    refine sx_else false (by rfl) rfl ?_
    refine wp_skip ?_
    refine ex_then_n ?_
    refine wp_seq ?_
    refine sx_drawT [1] (.rd 0 (.rd 2 (.rd 3 (.alt 4 (.rd 5 (.alt 6 (.rd 7 (.fin)) .non)) .non)))) 8 (C := Hp w (blk g_8 #[.int .i64 (Pure.w0 (rowsB a0) : Int), .int .i64 ((rowsB a0).length : Int), .slice A_4 ((cells a0).length) c_5] 44 :: row (Kd.int .i64) 3 w.heap.size (.slice A_4 ((cells a0).length) c_5) (cells a0) F_6 :: cs)) (by kernel_rfl) (by kernel_rfl) (fun d _ _ _ _ h => by cases d <;> exact h) (fun W h => h.drew) hp ?_
    refine preI_read rfl ?_
    refine sxq_val 20 (.pointer (some ⟨g_8, 2, none⟩)) (by rfl) (fun W _ => (by kernel_rfl)) ?_
    refine sxq_nil ?_
    refine preI_nil ?_
    intro W_11 hp
    refine treeI_rd rfl ?_
    refine sxq_val 19 (.agg #[.int .i64 (Pure.w0 (rowsB a0) : Int), .int .i64 ((rowsB a0).length : Int), .slice A_4 ((cells a0).length) c_5]) (by rfl) (fun W hp => (ldn (t := 44) (p := (.tmp 4)) (by rfl) (by rfl) (by kernel_rfl) (by kernel_rfl) (by kernel_rfl) (hp.at_ 0 _ (by rfl)))) ?_
    refine sxq_nil ?_
    refine treeI_rd rfl ?_
    refine sxq_val 21 (.slice A_4 ((cells a0).length) c_5) (by rfl) (fun W hp => (ld1 (t := 42) (p := (.tmp 20)) (by rfl) (by rfl) (by kernel_rfl) (hp.cell 0 (by rfl) 2 _ (by rfl)))) ?_
    refine sxq_nil ?_
    refine treeI_rd rfl ?_
    refine sxq_val 22 (.int .i64 ((cells a0).length : Int)) (by rfl) (fun W hp => (by kernel_rfl)) ?_
    refine sxq_nil ?_
    refine treeI_ev rfl ?_
    refine sx_make 23 (by rfl) (Kd.int .u8) w.heap.size 5 ((cells a0).length) (by rfl) (by rfl) (by rfl) (by omega) Tryz.underlying49 (.int .u8 0) 1 (by rfl) (by rfl) (by decide) (by decide) 0 rfl (by omega) hp.size hp ?_
    intro g_12 F_13 W_14 hp
    refine step_fin hp.tail ?_
    refine treeI_rd rfl ?_
    refine sxq_val 24 (.agg #[.int .i64 (Pure.w0 (rowsB a0) : Int), .int .i64 ((rowsB a0).length : Int), .slice A_4 ((cells a0).length) c_5, .bool true, .slice none 0 0, .slice (some ⟨g_12, 0, none⟩) ((List.replicate ((cells a0).length) (0 : Int)).length) ((List.replicate ((cells a0).length) (0 : Int)).length), .slice none 0 0, .int .i64 0, .int .i64 1073741824]) (by rfl) (fun W hp => (by kernel_rfl)) ?_
    refine sxq_nil ?_
    refine treeI_ev rfl ?_
    refine sx_box 25 hp #[.int .i64 (Pure.w0 (rowsB a0) : Int), .int .i64 ((rowsB a0).length : Int), .slice A_4 ((cells a0).length) c_5, .bool true, .slice none 0 0, .slice (some ⟨g_12, 0, none⟩) ((List.replicate ((cells a0).length) (0 : Int)).length) ((List.replicate ((cells a0).length) (0 : Int)).length), .slice none 0 0, .int .i64 0, .int .i64 1073741824] 52 (by rfl) (fun W => by kernel_rfl) ?_
    intro g_15 W_16 hp
    refine step_fin hp.tail.tail ?_
    refine treeI_rd rfl ?_
    refine sxq_val 6 (.pointer (some ⟨g_15, 0, none⟩)) (by rfl) (fun W hp => (by kernel_rfl)) ?_
    refine sxq_nil ?_
    refine treeI_fin ?_
    refine sx_nil ?_
    refine ex_then_n ?_
    refine wp_seq ?_
    refine sx_region ?_
    refine sx_rd 26 (.pointer (some ⟨g_15, 0, none⟩)) (by rfl) (by kernel_rfl) ?_
    have hp := hp.nilrowS (Kd.slice 5 (Kd.int .u8)) 49 w.heap.size
    have hzl : (List.replicate (cells a0).length (0 : Int)).length = (cells a0).length := List.length_replicate
    have hp2 := (hp.take [1, 2, 0, 4, 3] 5 (by decide) (by simp))
    rw [hzl] at hp2
    refine sx_call 27 (by rfl) (by kernel_rfl) ((lookS_all w 31 _ (row (Kd.int .i64) 3 w.heap.size (.slice A_4 ((cells a0).length) c_5) (cells a0) F_6 :: blk g_8 #[.int .i64 (Pure.w0 (rowsB a0) : Int), .int .i64 ((rowsB a0).length : Int), .slice A_4 ((cells a0).length) c_5] 44 :: cs) g_15 g_12 (Pure.w0 (rowsB a0) : Int) ((rowsB a0).length : Int) (cells a0).length (List.replicate (cells a0).length (0 : Int)) 0 0 1073741824 true (cells a0) A_4 c_5 [] none 0 (cells a0).length F_13 [] none 0 (fun _ => False) (by omega) (by omega) (by omega) (by omega) hd.1 hd.2.2.1 hzl rfl (row_len (hp2.at_ 3 _ (by rfl))).2 (fun W h => row_C (h.at_ 0 _ (by rfl))) (by simp) (Nat.zero_le _) (fun W h => row_C ((h.nilrow k55 55 w.heap.size).at_ 0 _ (by rfl))) (by decide) (by decide) (by decide) (Nat.zero_le _) (Nat.zero_le _) (by omega) hp2).mono ?_)
    rintro _ W_17 ⟨FL2, Fd2, Af2, cf2, rfl, hfc2, hp⟩
    refine ⟨_, rfl, ?_⟩
    replace hp : Hp w (blk g_15 #[.int .i64 (Pure.w0 (rowsB a0) : Int), .int .i64 ((rowsB a0).length : Int), .slice A_4 ((cells a0).length) c_5, .bool true, .slice none 0 0, .slice (some ⟨g_12, 0, none⟩) ((cells a0).length) ((cells a0).length), .slice Af2 ((addF 1073741824 [] ((lvs (nxS true (cells a0)) (Pure.w0 (rowsB a0) : Int) ((cells a0).length : Int) 31 (List.replicate (cells a0).length (0 : Int)) 0 []).map Prod.fst)).length) cf2, .int .i64 (0 + (((lvs (nxS true (cells a0)) (Pure.w0 (rowsB a0) : Int) ((cells a0).length : Int) 31 (List.replicate (cells a0).length (0 : Int)) 0 []).map Prod.fst).length : Int)), .int .i64 1073741824] 52 :: row (Kd.int .u8) 5 w.heap.size (.slice (some ⟨g_12, 0, none⟩) ((cells a0).length) ((cells a0).length)) (List.replicate (cells a0).length (0 : Int)) FL2 :: rowS (Kd.slice 5 (Kd.int .u8)) 49 w.heap.size (.slice Af2 ((addF 1073741824 [] ((lvs (nxS true (cells a0)) (Pure.w0 (rowsB a0) : Int) ((cells a0).length : Int) 31 (List.replicate (cells a0).length (0 : Int)) 0 []).map Prod.fst)).length) cf2) (addF 1073741824 [] ((lvs (nxS true (cells a0)) (Pure.w0 (rowsB a0) : Int) ((cells a0).length : Int) 31 (List.replicate (cells a0).length (0 : Int)) 0 []).map Prod.fst)) Fd2 :: row (Kd.int .i64) 3 w.heap.size (.slice A_4 ((cells a0).length) c_5) (cells a0) F_6 :: blk g_8 #[.int .i64 (Pure.w0 (rowsB a0) : Int), .int .i64 ((rowsB a0).length : Int), .slice A_4 ((cells a0).length) c_5] 44 :: cs) W_17 := hp
    have hF : (addF 1073741824 [] ((lvs (nxS true (cells a0)) (Pure.w0 (rowsB a0) : Int) ((cells a0).length : Int) 31 (List.replicate (cells a0).length (0 : Int)) 0 []).map Prod.fst)) = (allL a0) := allL_full ht
    rw [hF] at hp
    have hal := allL_len ht
    refine sx_nil ?_
    refine ex_then_n ?_
    refine wp_seq ?_
    refine sx_region ?_
    refine sx_rd 7 (.slice none 0 0) (by rfl) (by kernel_rfl) ?_
    refine sx_nil ?_
    refine ex_then_n ?_
    refine wp_seq ?_
    refine wp_seq ?_
    refine sx_region ?_
    refine sx_rd 28 (.pointer (some ⟨g_15, 0, none⟩)) (by rfl) (by kernel_rfl) ?_
    refine sx_rd 29 (.pointer (some ⟨g_15, 0, none⟩)) (by rfl) (by kernel_rfl) ?_
    refine sx_rd 30 (.pointer (some ⟨g_15, 6, none⟩)) (by rfl) (by kernel_rfl) ?_
    refine sx_rd 31 (.slice Af2 ((allL a0).length) cf2) (by rfl) (ld1 (t := 50) (p := (.tmp 30)) (by rfl) (by rfl) (by kernel_rfl) (hp.cell 0 (by rfl) 6 _ (by rfl))) ?_
    refine sx_rd 32 (.int .i64 ((allL a0).length : Int)) (by rfl) (by kernel_rfl) ?_
    refine sx_rd 33 (.int .i64 0) (by rfl) (by kernel_rfl) ?_
    refine sx_nil ?_
    refine ex_then_n ?_
    refine wp_block ?_
    have hp := hp.nilrow Kd.string 9 w.heap.size
    have e0_18 : ([] : List ByteArray) = (seenS a0 ((allL a0).take 0)) := rfl
    have hp : Hp w (row Kd.string 9 w.heap.size (.slice none 0 0) (seenS a0 ((allL a0).take 0)) (fun _ => False) :: blk g_15 #[.int .i64 (Pure.w0 (rowsB a0) : Int), .int .i64 ((rowsB a0).length : Int), .slice A_4 ((cells a0).length) c_5, .bool true, .slice none 0 0, .slice (some ⟨g_12, 0, none⟩) ((cells a0).length) ((cells a0).length), .slice Af2 ((allL a0).length) cf2, .int .i64 (0 + (((lvs (nxS true (cells a0)) (Pure.w0 (rowsB a0) : Int) ((cells a0).length : Int) 31 (List.replicate (cells a0).length (0 : Int)) 0 []).map Prod.fst).length : Int)), .int .i64 1073741824] 52 :: row (Kd.int .u8) 5 w.heap.size (.slice (some ⟨g_12, 0, none⟩) ((cells a0).length) ((cells a0).length)) (List.replicate (cells a0).length (0 : Int)) FL2 :: rowS (Kd.slice 5 (Kd.int .u8)) 49 w.heap.size (.slice Af2 ((allL a0).length) cf2) (allL a0) Fd2 :: row (Kd.int .i64) 3 w.heap.size (.slice A_4 ((cells a0).length) c_5) (cells a0) F_6 :: blk g_8 #[.int .i64 (Pure.w0 (rowsB a0) : Int), .int .i64 ((rowsB a0).length : Int), .slice A_4 ((cells a0).length) c_5] 44 :: cs) W_17 := by rw [← e0_18]; exact hp
    refine wp_loop_ghost (fun n_ a_ W => ∃ (r_ : List (Nat × Value)) (i : Nat) (Ai7 : Option Addr) (ni7 ci7 : Nat) (Fi7 : Nat → Prop), n_ = (allL a0).length - i ∧ a_ = fr 57 ([(4, .pointer (some ⟨g_8, 0, none⟩)), (7, .slice Ai7 ni7 ci7), (31, .slice Af2 ((allL a0).length) cf2), (32, .int .i64 ((allL a0).length : Int)), (33, .int .i64 (i : Int))] ++ r_) ∧ Hp w (row Kd.string 9 w.heap.size (.slice Ai7 ni7 ci7) (seenS a0 ((allL a0).take i)) Fi7 :: blk g_15 #[.int .i64 (Pure.w0 (rowsB a0) : Int), .int .i64 ((rowsB a0).length : Int), .slice A_4 ((cells a0).length) c_5, .bool true, .slice none 0 0, .slice (some ⟨g_12, 0, none⟩) ((cells a0).length) ((cells a0).length), .slice Af2 ((allL a0).length) cf2, .int .i64 (0 + (((lvs (nxS true (cells a0)) (Pure.w0 (rowsB a0) : Int) ((cells a0).length : Int) 31 (List.replicate (cells a0).length (0 : Int)) 0 []).map Prod.fst).length : Int)), .int .i64 1073741824] 52 :: row (Kd.int .u8) 5 w.heap.size (.slice (some ⟨g_12, 0, none⟩) ((cells a0).length) ((cells a0).length)) (List.replicate (cells a0).length (0 : Int)) FL2 :: rowS (Kd.slice 5 (Kd.int .u8)) 49 w.heap.size (.slice Af2 ((allL a0).length) cf2) (allL a0) Fd2 :: row (Kd.int .i64) 3 w.heap.size (.slice A_4 ((cells a0).length) c_5) (cells a0) F_6 :: blk g_8 #[.int .i64 (Pure.w0 (rowsB a0) : Int), .int .i64 ((rowsB a0).length : Int), .slice A_4 ((cells a0).length) c_5] 44 :: cs) W ∧ (i ≤ (allL a0).length)) _ ⟨_, 0, _, _, _, _, rfl, fr_front [(4, .pointer (some ⟨g_8, 0, none⟩)), (7, .slice none 0 0), (31, .slice Af2 ((allL a0).length) cf2), (32, .int .i64 ((allL a0).length : Int)), (33, .int .i64 0)] ⟨rfl, rfl, rfl, rfl, rfl, trivial⟩, (hp.take [0, 1, 2, 3, 4, 5] 6 (by decide) (by simp)), Nat.zero_le _⟩ ?_
    rintro _ _ W_19 ⟨r_, i, Ai7, ni7, ci7, Fi7, rfl, rfl, hp, hi⟩
    obtain ⟨rfl, hcci7⟩ := row_len (hp.at_ 0 _ (by rfl))
    have hsl := seenS_len a0 ((allL a0).take i)
    rw [List.length_take] at hsl
    refine wp_seq ?_
    refine sx_region ?_
    refine sx_rd 34 (.bool (decide ((i : Int) < ((allL a0).length : Int)))) (by rfl) (by kernel_rfl) ?_
    refine sx_nil ?_
    refine ex_then_n ?_
    refine wp_seq ?_
    refine sx_cond (decide ((i : Int) < ((allL a0).length : Int))) (by rfl) (fun c_20 => ?_) (fun c_20 => ?_)
    ·
      have c_20p := of_decide_eq_true c_20
      have hbz := allL_at (s := a0) (b := (rd_i64s (allL a0) (i : Int))) (by rw [rdS_get (show i < (allL a0).length by omega)]; exact List.getElem_mem _)
      have htl := tilesH_len ht (rd_i64s (allL a0) (i : Int))
      obtain ⟨Ah, ch, hHc, hHC, hHl⟩ : ∃ A' c', W_19.cell? (adr Af2 (i : Int) 1) = some (.slice A' (rd_i64s (allL a0) (i : Int)).length c') ∧ Kd.C (Kd.int .u8) W_19 A' (rd_i64s (allL a0) (i : Int)).length (rd_i64s (allL a0) (i : Int)) ∧ (rd_i64s (allL a0) (i : Int)).length ≤ c' := by rw [rdS_get (show i < (allL a0).length by omega)]; exact rowS_hdr (hp.at_ 3 _ (by rfl)) i (by omega)
      refine wp_skip ?_
      refine ex_then_n ?_
      refine wp_seq ?_
      refine wp_block ?_
      refine wp_seq ?_
      refine sx_region ?_
      refine sx_rd 35 (.pointer (some (adr Af2 (i : Int) 1))) (by rfl) (ix_run (d := (Kd.slice 5 (Kd.int .u8))) (rowS_C (hp.at_ 3 _ (by rfl))) (t := 50) (by rfl) (by rfl) (by rfl) Tryz.underlying50 (by kernel_rfl) (by omega) (by omega)) ?_
      refine sx_rd 36 (.slice Ah ((rd_i64s (allL a0) (i : Int)).length) ch) (by rfl) (ld1 (t := 49) (p := (.tmp 35)) (by rfl) (by rfl) (by kernel_rfl) hHc) ?_
      refine sx_rd 9 (.slice Ah ((rd_i64s (allL a0) (i : Int)).length) ch) (by rfl) (by kernel_rfl) ?_
      refine sx_nil ?_
      refine ex_then_n ?_
      refine wp_seq ?_
      refine sx_region ?_
      refine sx_rd 37 (.agg #[.int .i64 (Pure.w0 (rowsB a0) : Int), .int .i64 ((rowsB a0).length : Int), .slice A_4 ((cells a0).length) c_5]) (by rfl) (ldn (t := 44) (p := (.tmp 4)) (by rfl) (by rfl) (by kernel_rfl) (by kernel_rfl) (by kernel_rfl) (hp.at_ 5 _ (by rfl))) ?_
      refine sx_rd 38 (.slice Ah ((rd_i64s (allL a0) (i : Int)).length) ch) (by rfl) (by kernel_rfl) ?_
      obtain ⟨k_21, hk_k_21⟩ := Ev.rounds (taTiles_ev ht (rd_i64s (allL a0) (i : Int)) hbz.1)
      refine sx_call 39 (by rfl) (by kernel_rfl) ((spec_taTiles.calls k_21 (Pure.w0 (rowsB a0) : Int) ((rowsB a0).length : Int) A_4 c_5 (cells a0) Ah ch (rd_i64s (allL a0) (i : Int)) _ _ (row_C (hp.at_ 4 _ (by rfl))) (row_len (hp.at_ 4 _ (by rfl))).2 hHC hHl hk_k_21).mono ?_)
      rintro _ W_27 ⟨v_23, rfl, hR_22, hb⟩
      refine ⟨_, rfl, ?_⟩
      obtain ⟨A_24, c_25, rfl, hcc_c_25, _⟩ := Kd.R_reads hR_22
      obtain ⟨F_26, hp⟩ : ∃ F, Hp w (row k55 55 w.heap.size (.slice A_24 (tilesH a0 (rd_i64s (allL a0) (i : Int))).length c_25) (tilesH a0 (rd_i64s (allL a0) (i : Int))) F :: row Kd.string 9 w.heap.size (.slice Ai7 ((seenS a0 ((allL a0).take i)).length) ci7) (seenS a0 ((allL a0).take i)) Fi7 :: blk g_15 #[.int .i64 (Pure.w0 (rowsB a0) : Int), .int .i64 ((rowsB a0).length : Int), .slice A_4 ((cells a0).length) c_5, .bool true, .slice none 0 0, .slice (some ⟨g_12, 0, none⟩) ((cells a0).length) ((cells a0).length), .slice Af2 ((allL a0).length) cf2, .int .i64 (0 + (((lvs (nxS true (cells a0)) (Pure.w0 (rowsB a0) : Int) ((cells a0).length : Int) 31 (List.replicate (cells a0).length (0 : Int)) 0 []).map Prod.fst).length : Int)), .int .i64 1073741824] 52 :: row (Kd.int .u8) 5 w.heap.size (.slice (some ⟨g_12, 0, none⟩) ((cells a0).length) ((cells a0).length)) (List.replicate (cells a0).length (0 : Int)) FL2 :: rowS (Kd.slice 5 (Kd.int .u8)) 49 w.heap.size (.slice Af2 ((allL a0).length) cf2) (allL a0) Fd2 :: row (Kd.int .i64) 3 w.heap.size (.slice A_4 ((cells a0).length) c_5) (cells a0) F_6 :: blk g_8 #[.int .i64 (Pure.w0 (rowsB a0) : Int), .int .i64 ((rowsB a0).length : Int), .slice A_4 ((cells a0).length) c_5] 44 :: cs) _ := ⟨_, Hp.made hp hb hR_22⟩
      refine sx_rd 10 (.slice A_24 ((tilesH a0 (rd_i64s (allL a0) (i : Int))).length) c_25) (by rfl) (by kernel_rfl) ?_
      refine sx_nil ?_
      refine ex_then_n ?_
      refine wp_seq ?_
      refine wp_seq ?_
      refine sx_region ?_
      refine sx_rd 40 (.slice A_24 ((tilesH a0 (rd_i64s (allL a0) (i : Int))).length) c_25) (by rfl) (by kernel_rfl) ?_
      obtain ⟨k_28, hk_k_28⟩ := Ev.rounds (tiHand_ev (tilesH a0 (rd_i64s (allL a0) (i : Int))))
      refine sx_call 41 (by rfl) (by kernel_rfl) ((spec_tiHand.calls k_28 A_24 c_25 (tilesH a0 (rd_i64s (allL a0) (i : Int))) _ _ (row_C (hp.at_ 0 _ (by rfl))) (row_len (hp.at_ 0 _ (by rfl))).2 hk_k_28).mono ?_)
      rintro _ W_29 ⟨rfl, hb⟩
      refine ⟨_, rfl, ?_⟩
      replace hp := hp.below hb
      clear hb
      refine sx_rd 42 (.bool (!(handB (tilesH a0 (rd_i64s (allL a0) (i : Int)))))) (by rfl) (by kernel_rfl) ?_
      refine sx_nil ?_
      refine ex_then_n ?_
      refine sx_cond (!(handB (tilesH a0 (rd_i64s (allL a0) (i : Int))))) (by rfl) (fun c_30 => ?_) (fun c_30 => ?_)
      ·
        refine wp_exit ?_
        refine ex_then_e (ex_blk_here ?_)
        refine ex_then_n ?_
        refine sx_region ?_
        refine sx_rd 54 (.int .i64 ((i : Int) + 1)) (by rfl) (wr_ok (by omega) (by kernel_rfl)) ?_
        refine sx_rd 33 (.int .i64 ((i : Int) + 1)) (by rfl) (by kernel_rfl) ?_
        refine sx_nil ?_
        refine ex_then_n ?_
        have hq_31 : (seenS a0 ((allL a0).take i)) = (seenS a0 ((allL a0).take (i + 1))) := (seenS_no (by omega) (not_eq c_30))
        rw [hq_31] at hp
        exact ⟨_, (by omega), _, (i + 1), _, _, _, _, rfl, fr_front [(4, .pointer (some ⟨g_8, 0, none⟩)), (7, .slice Ai7 ((seenS a0 ((allL a0).take (i + 1))).length) ci7), (31, .slice Af2 ((allL a0).length) cf2), (32, .int .i64 ((allL a0).length : Int)), (33, .int .i64 ((i + 1 : Nat) : Int))] ⟨rfl, congrArg (fun z : List ByteArray => Value.slice Ai7 z.length ci7) hq_31, rfl, rfl, rfl, trivial⟩, (hp.take [1, 2, 3, 4, 5, 6] 7 (by decide) (by simp)), (by omega)⟩
      ·
        refine wp_skip ?_
        refine ex_then_n ?_
        refine wp_seq ?_
        refine sx_region ?_
        refine sx_rd 43 (.slice A_24 ((tilesH a0 (rd_i64s (allL a0) (i : Int))).length) c_25) (by rfl) (by kernel_rfl) ?_
        obtain ⟨k_32, hk_k_32⟩ := Ev.rounds (tiSort_ev (tilesH a0 (rd_i64s (allL a0) (i : Int))) (by omega))
        refine sx_call 44 (by rfl) (by kernel_rfl) ((spec_tiSort.calls k_32 A_24 c_25 (tilesH a0 (rd_i64s (allL a0) (i : Int))) _ _ (row_C (hp.at_ 0 _ (by rfl))) (row_len (hp.at_ 0 _ (by rfl))).2 hk_k_32).mono ?_)
        rintro _ W_38 ⟨v_34, rfl, hR_33, hb⟩
        refine ⟨_, rfl, ?_⟩
        obtain ⟨A_35, c_36, rfl, hcc_c_36, _⟩ := Kd.R_reads hR_33
        obtain ⟨F_37, hp⟩ : ∃ F, Hp w (row k55 55 w.heap.size (.slice A_35 (sortT (tilesH a0 (rd_i64s (allL a0) (i : Int)))).length c_36) (sortT (tilesH a0 (rd_i64s (allL a0) (i : Int)))) F :: row k55 55 w.heap.size (.slice A_24 ((tilesH a0 (rd_i64s (allL a0) (i : Int))).length) c_25) (tilesH a0 (rd_i64s (allL a0) (i : Int))) F_26 :: row Kd.string 9 w.heap.size (.slice Ai7 ((seenS a0 ((allL a0).take i)).length) ci7) (seenS a0 ((allL a0).take i)) Fi7 :: blk g_15 #[.int .i64 (Pure.w0 (rowsB a0) : Int), .int .i64 ((rowsB a0).length : Int), .slice A_4 ((cells a0).length) c_5, .bool true, .slice none 0 0, .slice (some ⟨g_12, 0, none⟩) ((cells a0).length) ((cells a0).length), .slice Af2 ((allL a0).length) cf2, .int .i64 (0 + (((lvs (nxS true (cells a0)) (Pure.w0 (rowsB a0) : Int) ((cells a0).length : Int) 31 (List.replicate (cells a0).length (0 : Int)) 0 []).map Prod.fst).length : Int)), .int .i64 1073741824] 52 :: row (Kd.int .u8) 5 w.heap.size (.slice (some ⟨g_12, 0, none⟩) ((cells a0).length) ((cells a0).length)) (List.replicate (cells a0).length (0 : Int)) FL2 :: rowS (Kd.slice 5 (Kd.int .u8)) 49 w.heap.size (.slice Af2 ((allL a0).length) cf2) (allL a0) Fd2 :: row (Kd.int .i64) 3 w.heap.size (.slice A_4 ((cells a0).length) c_5) (cells a0) F_6 :: blk g_8 #[.int .i64 (Pure.w0 (rowsB a0) : Int), .int .i64 ((rowsB a0).length : Int), .slice A_4 ((cells a0).length) c_5] 44 :: cs) _ := ⟨_, Hp.made hp hb hR_33⟩
        obtain ⟨k_39, hk_k_39⟩ := Ev.rounds (tiText_ev (sortT (tilesH a0 (rd_i64s (allL a0) (i : Int)))) (Nat.le_trans (sortT_len _) (by omega)) (sortT_goodU (tilesH a0 (rd_i64s (allL a0) (i : Int)))))
        refine sx_call 45 (by rfl) (by kernel_rfl) ((spec_tiText.calls k_39 A_35 c_36 (sortT (tilesH a0 (rd_i64s (allL a0) (i : Int)))) _ _ (row_C (hp.at_ 0 _ (by rfl))) (row_len (hp.at_ 0 _ (by rfl))).2 hk_k_39).mono ?_)
        rintro _ W_40 ⟨rfl, hb⟩
        refine ⟨_, rfl, ?_⟩
        replace hp := hp.below hb
        clear hb
        refine sx_rd 11 (.string (mkU (handU (sortT (tilesH a0 (rd_i64s (allL a0) (i : Int))))))) (by rfl) (by kernel_rfl) ?_
        refine sx_nil ?_
        refine ex_then_n ?_
        refine wp_seq ?_
        refine sx_region ?_
        refine sx_rd 46 (.slice Ai7 ((seenS a0 ((allL a0).take i)).length) ci7) (by rfl) (by kernel_rfl) ?_
        refine sx_rd 47 (.string (mkU (handU (sortT (tilesH a0 (rd_i64s (allL a0) (i : Int))))))) (by rfl) (by kernel_rfl) ?_
        obtain ⟨k_41, hk_k_41⟩ := Ev.rounds (hasS_ev (seenS a0 ((allL a0).take i)) (mkU (handU (sortT (tilesH a0 (rd_i64s (allL a0) (i : Int)))))) (by omega))
        refine sx_call 48 (by rfl) (by kernel_rfl) ((spec_l1HasS.calls k_41 Ai7 ci7 (seenS a0 ((allL a0).take i)) (mkU (handU (sortT (tilesH a0 (rd_i64s (allL a0) (i : Int)))))) _ _ (row_C (hp.at_ 2 _ (by rfl))) (row_len (hp.at_ 2 _ (by rfl))).2 hk_k_41).mono ?_)
        rintro _ W_42 ⟨rfl, hb⟩
        refine ⟨_, rfl, ?_⟩
        replace hp := hp.below hb.below
        clear hb
        refine sx_rd 49 (.bool (!(inT (seenS a0 ((allL a0).take i)) (mkU (handU (sortT (tilesH a0 (rd_i64s (allL a0) (i : Int))))))))) (by rfl) (by kernel_rfl) ?_
        refine sx_nil ?_
        refine ex_then_n ?_
        refine sx_cond (!(inT (seenS a0 ((allL a0).take i)) (mkU (handU (sortT (tilesH a0 (rd_i64s (allL a0) (i : Int)))))))) (by rfl) (fun c_43 => ?_) (fun c_43 => ?_)
        ·
          refine sx_region ?_
          refine sx_rd 50 (.slice Ai7 ((seenS a0 ((allL a0).take i)).length) ci7) (by rfl) (by kernel_rfl) ?_
          refine sx_rd 51 (.string (mkU (handU (sortT (tilesH a0 (rd_i64s (allL a0) (i : Int))))))) (by rfl) (by kernel_rfl) ?_
          refine sx_lit 52 (by rfl) Kd.string w.heap.size 9 ([(mkU (handU (sortT (tilesH a0 (rd_i64s (allL a0) (i : Int))))))]) [.string (mkU (handU (sortT (tilesH a0 (rd_i64s (allL a0) (i : Int))))))] (fun W => by kernel_rfl) (Reps.snoc (cs := []) (Reps.none _ _) rfl rfl) (by simp) hp.size hp ?_
          intro g_44 F_45 W_46 hp hz; clear hz
          refine sx_append 53 (by rfl) Kd.string 3 (by rfl) (.string ByteArray.empty) 16 (by rfl) Tryz.underlying24 (by kernel_rfl) rfl (by decide) (by decide) ([(mkU (handU (sortT (tilesH a0 (rd_i64s (allL a0) (i : Int))))))]) (by rfl) (by rfl) (row_C (hp.at_ 0 _ (by rfl))) (fun x cs h => h) hp.size (by first | omega | (simp; omega)) hp ?_
          intro A_47 c_48 F_49 W_50 hp hz; clear hz; simp only [List.set_cons_succ, List.set_cons_zero] at hp
          refine sx_rd 7 (.slice A_47 (((seenS a0 ((allL a0).take i)) ++ [(mkU (handU (sortT (tilesH a0 (rd_i64s (allL a0) (i : Int))))))]).length) c_48) (by rfl) (by kernel_rfl) ?_
          refine sx_nil ?_
          refine ex_blk_n ?_
          refine ex_then_n ?_
          refine sx_region ?_
          refine sx_rd 54 (.int .i64 ((i : Int) + 1)) (by rfl) (wr_ok (by omega) (by kernel_rfl)) ?_
          refine sx_rd 33 (.int .i64 ((i : Int) + 1)) (by rfl) (by kernel_rfl) ?_
          refine sx_nil ?_
          refine ex_then_n ?_
          have hq_51 : ((seenS a0 ((allL a0).take i)) ++ [(mkU (handU (sortT (tilesH a0 (rd_i64s (allL a0) (i : Int))))))]) = (seenS a0 ((allL a0).take (i + 1))) := (seenS_new (by omega) (not_eq c_30) (not_eq c_43))
          rw [hq_51] at hp
          exact ⟨_, (by omega), _, (i + 1), _, _, _, _, rfl, fr_front [(4, .pointer (some ⟨g_8, 0, none⟩)), (7, .slice A_47 ((seenS a0 ((allL a0).take (i + 1))).length) c_48), (31, .slice Af2 ((allL a0).length) cf2), (32, .int .i64 ((allL a0).length : Int)), (33, .int .i64 ((i + 1 : Nat) : Int))] ⟨rfl, congrArg (fun z : List ByteArray => Value.slice A_47 z.length c_48) hq_51, rfl, rfl, rfl, trivial⟩, (hp.take [3, 4, 5, 6, 7, 8] 9 (by decide) (by simp)), (by omega)⟩
        ·
          refine wp_skip ?_
          refine ex_blk_n ?_
          refine ex_then_n ?_
          refine sx_region ?_
          refine sx_rd 54 (.int .i64 ((i : Int) + 1)) (by rfl) (wr_ok (by omega) (by kernel_rfl)) ?_
          refine sx_rd 33 (.int .i64 ((i : Int) + 1)) (by rfl) (by kernel_rfl) ?_
          refine sx_nil ?_
          refine ex_then_n ?_
          have hq_52 : (seenS a0 ((allL a0).take i)) = (seenS a0 ((allL a0).take (i + 1))) := (seenS_in (by omega) (not_eq c_30) (not_eq c_43))
          rw [hq_52] at hp
          exact ⟨_, (by omega), _, (i + 1), _, _, _, _, rfl, fr_front [(4, .pointer (some ⟨g_8, 0, none⟩)), (7, .slice Ai7 ((seenS a0 ((allL a0).take (i + 1))).length) ci7), (31, .slice Af2 ((allL a0).length) cf2), (32, .int .i64 ((allL a0).length : Int)), (33, .int .i64 ((i + 1 : Nat) : Int))] ⟨rfl, congrArg (fun z : List ByteArray => Value.slice Ai7 z.length ci7) hq_52, rfl, rfl, rfl, trivial⟩, (hp.take [2, 3, 4, 5, 6, 7] 8 (by decide) (by simp)), (by omega)⟩
    ·
      have c_20p := of_decide_eq_false c_20
      refine wp_exit ?_
      refine ex_then_e (ex_then_e (ex_blk_here ?_))
      refine ex_then_n ?_
      refine wp_seq ?_
      refine sx_region ?_
      refine sx_rd 55 (.slice Ai7 ((seenS a0 ((allL a0).take i)).length) ci7) (by rfl) (by kernel_rfl) ?_
      refine sx_rd 56 (.int .i64 ((seenS a0 ((allL a0).take i)).length : Int)) (by rfl) (by kernel_rfl) ?_
      refine sx_rd 2 (.int .i64 ((seenS a0 ((allL a0).take i)).length : Int)) (by rfl) (by kernel_rfl) ?_
      refine sx_rd 3 (.bool true) (by rfl) (by kernel_rfl) ?_
      refine sx_nil ?_
      refine ex_then_n ?_
      refine wp_ret ?_
      refine sx_end (.tuple #[.int .i64 ((seenS a0 ((allL a0).take i)).length : Int), .bool true]) (res2 2 3 (by rfl)) ?_
      have hiN : i = (allL a0).length := by omega
      have ht9 : (allL a0) = (allL a0).take i := by rw [hiN, List.take_length]
      rw [if_pos ht] at h
      rw [ht9] at h
      simp only [Option.some.injEq, Prod.mk.injEq] at h; obtain ⟨rfl, rfl⟩ := h
      exact ⟨rfl, hc2 _ (hp.tail.tail.tail.tail.tail.tail)⟩
  · replace ht : isTab a0 = false := by simpa using ht
    refine sx_enter (N := 57) (l := [.string a0]) Tryz.func20 rfl rfl rfl ?_
    refine wp_seq ?_
    refine sx_region ?_
    refine sx_rd 2 (.int .i64 0) (by rfl) (by kernel_rfl) ?_
    refine sx_rd 3 (.bool false) (by rfl) (by kernel_rfl) ?_
    refine sx_nil ?_
    refine ex_then_n ?_
    refine wp_seq ?_
    refine sx_region ?_
    refine sx_rd 13 (.string a0) (by rfl) (by kernel_rfl) ?_
    obtain ⟨k_1, hk_k_1⟩ := Ev.rounds (taRead_n hsz ht)
    refine sx_call 14 (by rfl) (by kernel_rfl) ((spec_taRead.calls k_1 a0 _ _ _ _ _ hk_k_1).mono ?_)
    rintro _ W_7 ⟨v_3, rfl, hR_2, hb⟩
    refine ⟨_, rfl, ?_⟩
    obtain ⟨A_4, c_5, rfl, hcc_c_5, _⟩ := Kd.R_reads hR_2
    obtain ⟨F_6, hp⟩ : ∃ F, Hp w (row (Kd.int .i64) 3 w.heap.size (.slice A_4 ([] : List Int).length c_5) ([] : List Int) F :: cs) _ := ⟨_, Hp.made hp hb hR_2⟩
    refine sx_rd 12 (.tuple #[.agg #[.int .i64 0, .int .i64 0, .slice A_4 (([] : List Int).length) c_5], .bool false]) (by rfl) (by kernel_rfl) ?_
    refine sx_rd 15 (.agg #[.int .i64 0, .int .i64 0, .slice A_4 (([] : List Int).length) c_5]) (by rfl) (by kernel_rfl) ?_
    refine sx_rd 16 (.bool false) (by rfl) (by kernel_rfl) ?_
    refine sx_box 4 hp #[.int .i64 0, .int .i64 0, .slice none 0 0] 44 (by rfl) (fun W => by kernel_rfl) ?_
    intro g_8 W_9 hp
    refine sx_store (t := 44) (p := (.tmp 4)) (x := (.tmp 15)) (by rfl) (by rfl) 0 (by rfl) 0 [.int .i64 0, .int .i64 0, .slice A_4 (([] : List Int).length) c_5] (by rfl) (by rfl) (by kernel_rfl) (by simp [Value.oneCell']) (by show 3 ≤ 3; omega) #[.int .i64 0, .int .i64 0, .slice A_4 (([] : List Int).length) c_5] (by rfl) hp ?_
    intro W_10 hp; simp only [List.set_cons_succ, List.set_cons_zero] at hp
    refine sx_rd 5 (.bool false) (by rfl) (by kernel_rfl) ?_
    refine sx_nil ?_
    refine ex_then_n ?_
    refine wp_seq ?_
    refine wp_seq ?_
    refine sx_region ?_
    refine sx_rd 17 (.bool false) (by rfl) (by kernel_rfl) ?_
    refine sx_rd 18 (.bool true) (by rfl) (by kernel_rfl) ?_
    refine sx_nil ?_
    refine ex_then_n ?_
    refine sx_then true (by rfl) rfl ?_
    refine wp_seq ?_
    refine sx_region ?_
    refine sx_rd 2 (.int .i64 0) (by rfl) (by kernel_rfl) ?_
    refine sx_rd 3 (.bool false) (by rfl) (by kernel_rfl) ?_
    refine sx_nil ?_
    refine ex_then_n ?_
    refine wp_ret ?_
    refine ex_then_r ?_
    refine sx_end (.tuple #[.int .i64 0, .bool false]) (res2 2 3 (by rfl)) ?_
    rw [if_neg (by rw [ht]; simp)] at h
    simp only [Option.some.injEq, Prod.mk.injEq] at h; obtain ⟨rfl, rfl⟩ := h
    exact ⟨rfl, hc2 _ (hp.tail.tail)⟩
end Go.Proofs.YtokkiiepddhkiaaGreatDoor.Hd
