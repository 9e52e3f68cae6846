/- spec.AllApart, by hand. -/
import Derived.Test.YtokkiiepddhkiaaGreatDoorMTaText
import Derived.Test.YtokkiiepddhkiaaGreatDoorPTxtL
import Derived.Test.YtokkiiepddhkiaaGreatDoorPTaText
import Derived.Test.YtokkiiepddhkiaaGreatDoorG2
import Derived.Test.YtokkiiepddhkiaaGreatDoorMMx
import Derived.Test.YtokkiiepddhkiaaGreatDoorMSx3
import Derived.Test.YtokkiiepddhkiaaGreatDoorMSxS
import Derived.Test.YtokkiiepddhkiaaGreatDoorMSxR
import Derived.Test.YtokkiiepddhkiaaGreatDoorMAptS
import Derived.Test.YtokkiiepddhkiaaGreatDoorPApB
namespace Go.Proofs.YtokkiiepddhkiaaGreatDoor.Hd
open Go.RowKit Go.Proofs.YtokkiiepddhkiaaGreatDoor.Pure Go.Proofs.YtokkiiepddhkiaaGreatDoorW.PrintWords Go.Proofs.YtokkiiepddhkiaaGreatDoorW.PrintLast Go.Proofs.YtokkiiepddhkiaaGreatDoorW.PrintMore
set_option linter.unusedVariables false
set_option linter.unusedSimpArgs false
set_option maxRecDepth 100000 in
set_option maxHeartbeats 40000000 in
theorem taApart_sx {w0 W : World} {cs : List Chunk} (w h most : Int) (C : List Int) (AG : Option Addr) (cG : Nat) (H : List S_Tile) (AH : Option Addr) (cH : Nat) (hw1 : 1 ≤ w) (hw2 : w ≤ 30) (hh1 : 1 ≤ h) (hh2 : h ≤ 30) (hwh : w * h = (C.length : Int)) (hn : C.length ≤ 30) (hcG : C.length ≤ cG) (hG : ∀ W, Hp w0 cs W → Kd.C (Kd.int .i64) W AG C.length C) (hHn : H.length ≤ 1000) (hcH : H.length ≤ cH) (hH : ∀ W, Hp w0 cs W → Kd.C k55 W AH H.length H) (hp : Hp w0 cs W) :
    Calls Tryz.prog 23 #[.agg #[.int .i64 w, .int .i64 h, .slice AG C.length cG], .slice AH H.length cH, .int .i64 most] W fun e W' => ∃ (g gL cL : Nat) (FL Fd : Nat → Prop) (Af : Option Addr) (cf : Nat), e = .returned (.pointer (some ⟨g, 0, none⟩)) ∧ (addF most [] (apL w (C.length : Int) C H)).length ≤ cf ∧ Hp w0 (blk g #[.int .i64 w, .int .i64 h, .slice AG C.length cG, .bool false, .slice AH H.length cH, .slice (some ⟨gL, 0, none⟩) C.length cL, .slice Af ((addF most [] (apL w (C.length : Int) C H)).length) cf, .int .i64 (0 + ((apL w (C.length : Int) C H).length : Int)), .int .i64 most] 52 :: row (Kd.int .u8) 5 w0.heap.size (.slice (some ⟨gL, 0, none⟩) C.length cL) (List.replicate C.length (0 : Int)) FL :: rowS (Kd.slice 5 (Kd.int .u8)) 49 w0.heap.size (.slice Af ((addF most [] (apL w (C.length : Int) C H)).length) cf) (addF most [] (apL w (C.length : Int) C H)) Fd :: cs) W' := by
  have hCn := hn
  refine sx_enter (N := 27) (l := [.agg #[.int .i64 w, .int .i64 h, .slice AG C.length cG], .slice AH H.length cH, .int .i64 most]) Tryz.func23 rfl rfl rfl ?_
  refine wp_seq ?_
  refine sx_region ?_
  refine sx_box 3 hp #[.int .i64 w, .int .i64 h, .slice AG C.length cG] 44 (by rfl) (fun W => by kernel_rfl) ?_
  intro g_1 W_2 hp
  refine sx_rd 6 (.pointer none) (by rfl) (by kernel_rfl) ?_
  refine sx_nil ?_
  refine ex_then_n ?_
  refine wp_seq ?_
  refine sx_drawT [1, 2, 6] (.rd 0 (.rd 3 (.rd 4 (.alt 5 (.rd 7 (.alt 8 (.rd 9 (.fin)) .non)) .non)))) 10 (C := Hp w0 (blk g_1 #[.int .i64 w, .int .i64 h, .slice AG C.length cG] 44 :: cs)) (by kernel_rfl) (by kernel_rfl) (fun d _ _ _ _ h => by cases d <;> exact h) (fun W h => h.drew) hp ?_
  refine preI_read rfl ?_
  refine sxq_val 9 (.slice AH H.length cH) (by rfl) (fun W _ => (by kernel_rfl)) ?_
  refine sxq_nil ?_
  refine preI_read rfl ?_
  refine sxq_val 10 (.pointer (some ⟨g_1, 2, none⟩)) (by rfl) (fun W _ => (by kernel_rfl)) ?_
  refine sxq_nil ?_
  refine preI_read rfl ?_
  refine sxq_val 14 (.int .i64 most) (by rfl) (fun W _ => (by kernel_rfl)) ?_
  refine sxq_nil ?_
  refine preI_nil ?_
  intro W_3 hp
  refine treeI_rd rfl ?_
  refine sxq_val 8 (.agg #[.int .i64 w, .int .i64 h, .slice AG C.length cG]) (by rfl) (fun W hp => (ldn (t := 44) (p := (.tmp 3)) (by rfl) (by rfl) (by kernel_rfl) (by kernel_rfl) (by kernel_rfl) (hp.at_ 0 _ (by rfl)))) ?_
  refine sxq_nil ?_
  refine treeI_rd rfl ?_
  refine sxq_val 11 (.slice AG C.length cG) (by rfl) (fun W hp => (ld1 (t := 42) (p := (.tmp 10)) (by rfl) (by rfl) (by kernel_rfl) (hp.cell 0 (by rfl) 2 _ (by rfl)))) ?_
  refine sxq_nil ?_
  refine treeI_rd rfl ?_
  refine sxq_val 12 (.int .i64 (C.length : Int)) (by rfl) (fun W hp => (by kernel_rfl)) ?_
  refine sxq_nil ?_
  refine treeI_ev rfl ?_
  refine sx_make 13 (by rfl) (Kd.int .u8) w0.heap.size 5 C.length (by rfl) (by rfl) (by rfl) (by omega) Tryz.underlying49 (.int .u8 0) 1 (by rfl) (by rfl) (by decide) (by decide) 0 rfl (by omega) hp.size hp ?_
  intro g_4 F_5 W_6 hp
  refine step_fin hp.tail ?_
  refine treeI_rd rfl ?_
  refine sxq_val 15 (.agg #[.int .i64 w, .int .i64 h, .slice AG C.length cG, .bool false, .slice AH H.length cH, .slice (some ⟨g_4, 0, none⟩) ((List.replicate C.length (0 : Int)).length) ((List.replicate C.length (0 : Int)).length), .slice none 0 0, .int .i64 0, .int .i64 most]) (by rfl) (fun W hp => (by kernel_rfl)) ?_
  refine sxq_nil ?_
  refine treeI_ev rfl ?_
  refine sx_box 16 hp #[.int .i64 w, .int .i64 h, .slice AG C.length cG, .bool false, .slice AH H.length cH, .slice (some ⟨g_4, 0, none⟩) ((List.replicate C.length (0 : Int)).length) ((List.replicate C.length (0 : Int)).length), .slice none 0 0, .int .i64 0, .int .i64 most] 52 (by rfl) (fun W => by kernel_rfl) ?_
  intro g_7 W_8 hp
  refine step_fin hp.tail.tail ?_
  refine treeI_rd rfl ?_
  refine sxq_val 7 (.pointer (some ⟨g_7, 0, none⟩)) (by rfl) (fun W hp => (by kernel_rfl)) ?_
  refine sxq_nil ?_
  refine treeI_fin ?_
  refine sx_nil ?_
  refine ex_then_n ?_
  refine wp_seq ?_
  refine wp_seq ?_
  refine sx_region ?_
  refine sx_rd 17 (.slice AH H.length cH) (by rfl) (by kernel_rfl) ?_
  refine sx_rd 18 (.int .i64 (H.length : Int)) (by rfl) (by kernel_rfl) ?_
  refine sx_rd 19 (.int .i64 (2 * (H.length : Int))) (by rfl) (wr_ok (by omega) (by kernel_rfl)) ?_
  refine sx_rd 20 (.pointer (some ⟨g_1, 2, none⟩)) (by rfl) (by kernel_rfl) ?_
  refine sx_rd 21 (.slice AG C.length cG) (by rfl) (ld1 (t := 42) (p := (.tmp 20)) (by rfl) (by rfl) (by kernel_rfl) (hp.cell 2 (by rfl) 2 _ (by rfl))) ?_
  refine sx_rd 22 (.int .i64 (C.length : Int)) (by rfl) (by kernel_rfl) ?_
  refine sx_rd 23 (.bool ((2 * (H.length : Int)) == (C.length : Int))) (by rfl) (by kernel_rfl) ?_
  refine sx_nil ?_
  refine ex_then_n ?_
  refine sx_cond ((2 * (H.length : Int)) == (C.length : Int)) (by rfl) (fun c_9 => ?_) (fun c_9 => ?_)
  ·
    have c_9p := eq_of_beq_ c_9
    refine sx_region ?_
    refine sx_rd 24 (.pointer (some ⟨g_7, 0, none⟩)) (by rfl) (by kernel_rfl) ?_
    have hp := hp.nilrowS (Kd.slice 5 (Kd.int .u8)) 49 w0.heap.size
    have hzl : (List.replicate C.length (0 : Int)).length = C.length := List.length_replicate
    have hp2 := (hp.take [1, 2, 0, 3] 4 (by decide) (by simp))
    rw [hzl] at hp2
    refine sx_call 25 (by rfl) (by kernel_rfl) ((lookS_all w0 31 _ (blk g_1 #[.int .i64 w, .int .i64 h, .slice AG C.length cG] 44 :: cs) g_7 g_4 w h C.length (List.replicate C.length (0 : Int)) 0 0 most false C AG cG H AH cH C.length F_5 [] none 0 (fun _ => False) hw1 hw2 hh1 hh2 hwh hn hzl rfl hcG (fun W h => hG W h.tail) hHn hcH (fun W h => hH W h.tail) (by decide) (by decide) (by decide) (Nat.le_refl _) (Nat.zero_le _) (by omega) hp2).mono ?_)
    rintro _ W_10 ⟨FL2, Fd2, Af2, cf2, rfl, hfc2, hp⟩
    refine ⟨_, rfl, ?_⟩
    refine sx_nil ?_
    refine ex_then_n ?_
    refine wp_seq ?_
    refine sx_region ?_
    refine sx_rd 26 (.pointer (some ⟨g_7, 0, none⟩)) (by rfl) (by kernel_rfl) ?_
    refine sx_rd 6 (.pointer (some ⟨g_7, 0, none⟩)) (by rfl) (by kernel_rfl) ?_
    refine sx_nil ?_
    refine ex_then_n ?_
    refine wp_ret ?_
    refine sx_end (.pointer (some ⟨g_7, 0, none⟩)) (res1 6 (by rfl)) ?_
    have hL : (apL w (C.length : Int) C H) = ((lvs (nxS false C) w (C.length : Int) 31 (List.replicate C.length (0 : Int)) 0 H).map Prod.fst) := by unfold apL; rw [if_pos c_9p]
    rw [hL]
    exact ⟨_, _, _, _, _, _, _, rfl, hfc2, (hp.take [0, 1, 2] 4 (by decide) (by simp))⟩
  ·
    have c_9p := ne_of_beq_ c_9
    refine wp_skip ?_
    refine ex_then_n ?_
    refine wp_seq ?_
    refine sx_region ?_
    refine sx_rd 26 (.pointer (some ⟨g_7, 0, none⟩)) (by rfl) (by kernel_rfl) ?_
    refine sx_rd 6 (.pointer (some ⟨g_7, 0, none⟩)) (by rfl) (by kernel_rfl) ?_
    refine sx_nil ?_
    refine ex_then_n ?_
    refine wp_ret ?_
    refine sx_end (.pointer (some ⟨g_7, 0, none⟩)) (res1 6 (by rfl)) ?_
    have hp := hp.nilrowS (Kd.slice 5 (Kd.int .u8)) 49 w0.heap.size
    have hzl : (List.replicate C.length (0 : Int)).length = C.length := List.length_replicate
    have hL : (apL w (C.length : Int) C H) = [] := by unfold apL; rw [if_neg c_9p]
    rw [hL]
    have hq := (hp.take [1, 2, 0] 4 (by decide) (by simp))
    rw [hzl] at hq
    exact ⟨_, _, _, _, _, _, _, rfl, Nat.le_refl _, hq⟩
end Go.Proofs.YtokkiiepddhkiaaGreatDoor.Hd
namespace Go.Proofs.YtokkiiepddhkiaaGreatDoor.Hd
open Go Go.RowKit Go.Proofs.YtokkiiepddhkiaaGreatDoorW.PrintWords Go.Proofs.YtokkiiepddhkiaaGreatDoorW.PrintLast Go.Proofs.YtokkiiepddhkiaaGreatDoorW.PrintMore
set_option linter.unusedVariables false
section
variable {α : Type} {di : Kd α} {ei e base n c : Nat} {A : Option Addr} {xs : List (List α)} {F : Nat → Prop} {W W1 : World}
theorem rowS_hdr (h : (rowS (Kd.slice ei di) e base (.slice A n c) xs F).ok W) (i : Nat) (hi : i < xs.length) :
    ∃ A' c', W.cell? (adr A (i : Int) 1) = some (.slice A' xs[i].length c') ∧ Kd.C di W A' xs[i].length xs[i] ∧ xs[i].length ≤ c' := by
  obtain ⟨h1, h2, h3⟩ := rowS_C h
  obtain ⟨ad, hA, hj⟩ := h3 (by omega)
  obtain ⟨c, hlen, hK, hcell⟩ := hj i xs[i] (List.getElem?_eq_getElem hi)
  obtain ⟨A', c', rfl, hl, hc⟩ := hK
  have hc0 := hcell 0 (.slice A' xs[i].length c') rfl
  refine ⟨A', c', ?_, hc, hl⟩
  have e : adr A (i : Int) 1 = ad.add (i * 1 + 0) := by rw [hA]; simp [adr]
  rw [e]; exact hc0
theorem add_block (ad : Addr) (k : Nat) : (ad.add k).block = ad.block := by
  unfold Addr.add
  split <;> rfl
end
end Go.Proofs.YtokkiiepddhkiaaGreatDoor.Hd
namespace Go.Proofs.YtokkiiepddhkiaaGreatDoor.Hd
open Go.RowKit Go.Proofs.YtokkiiepddhkiaaGreatDoor.Pure Go.Proofs.YtokkiiepddhkiaaGreatDoorW.PrintWords Go.Proofs.YtokkiiepddhkiaaGreatDoorW.PrintLast Go.Proofs.YtokkiiepddhkiaaGreatDoorW.PrintMore
set_option linter.unusedVariables false
set_option linter.unusedSimpArgs false
theorem taAsked_t (s : ByteArray) (l : List S_Tile) (hs : s.size ≤ 1048576) (ht : isTab s = true) : Ev (fun k => spec_taAsked.f k s l) ((Pure.w0 (rowsB s) : Int), ((rowsB s).length : Int), cells s, handB l) := by
  have q := taAsked_ev s l hs; unfold askF at q; rw [if_pos ht] at q; exact q
theorem taAsked_f (s : ByteArray) (l : List S_Tile) (hs : s.size ≤ 1048576) (ht : isTab s = false) : Ev (fun k => spec_taAsked.f k s l) (0, 0, [], false) := by
  have q := taAsked_ev s l hs; unfold askF at q; rw [if_neg (by rw [ht]; simp)] at q; exact q
theorem taText_eq {w h : Nat} {C b : List Int} (hw : 1 ≤ w) (hw2 : w ≤ 30) (hh : 1 ≤ h) (hh2 : h ≤ 30) (hb : b.length = h * w) (hbb : ∀ x ∈ b, 0 ≤ x ∧ x < 256) : spec_taText.f (w : Int) (h : Int) C b = some (formT w h b) := by
  unfold spec_taText.f
  rw [if_pos ⟨by omega, by omega, by omega, by omega, by rw [hb, Int.natCast_mul], hbb⟩, Int.toNat_natCast, Int.toNat_natCast]
def spec_AllApart.f (a0 : ByteArray) (l1 : List S_Tile) : Option (List ByteArray × Bool) := if a0.size ≤ 1048576 then (if (isTab a0 && handB l1) = true then some (if (lvsH a0 l1).length > 100 then ([], false) else (txtL a0 (lvsH a0 l1), true)) else some ([], false)) else none
set_option maxRecDepth 100000 in
set_option maxHeartbeats 40000000 in
theorem spec_AllApart.calls (a0 : ByteArray) (A1 : Option Addr) (c1 : Nat) (l1 : List S_Tile) (r0 : List ByteArray) (r1 : Bool) (w : World) (hr1 : Kd.C k55 w A1 l1.length l1) (hc1 : l1.length ≤ c1) (hmx : ∃ m, w.cell? ⟨0, 0, none⟩ = some (.int .i64 m)) (h : spec_AllApart.f a0 l1 = some (r0, r1)) :
    Calls Tryz.prog 7 #[.string a0, .slice A1 l1.length c1] w fun e w' => ∃ v0_ : Value, e = .returned (.tuple #[v0_, .bool r1]) ∧ Kd.R Kd.string 9 w' w.heap.size (fun _ => True) v0_ r0 ∧ Below w.heap.size w w' := by
  unfold spec_AllApart.f at h
  by_cases hsz : a0.size ≤ 1048576
  case neg => rw [if_neg hsz] at h; cases h
  rw [if_pos hsz] at h
  obtain ⟨cs, hcs⟩ : ∃ cs, cs = [old w w.heap.size] := ⟨_, rfl⟩
  have hp : Hp w cs w := by rw [hcs]; exact Hp.old_start w
  have hc2 : ∀ W, Hp w cs W → Below w.heap.size w W := fun W h => by rw [hcs] at h; exact h.since 0 _ rfl
  have hC1 : ∀ W, Hp w cs W → Kd.C k55 W A1 l1.length l1 := fun W h => Kd.C_below hr1 (hc2 W h)
  have hM : ∀ W, Hp w cs W → ∃ m, W.cell? ⟨0, 0, none⟩ = some (.int .i64 m) := fun W h => hmx.imp fun m q => ((hc2 W h).cell (World.block_lt_of_cell? _ _ q)).trans q
  clear hcs
  by_cases ht : isTab a0 = true
  ·
    have hd := tab_dim ht
    refine sx_enter (N := 45) (l := [.string a0, .slice A1 l1.length c1]) Tryz.func7 rfl rfl rfl ?_
    refine wp_seq ?_
    refine sx_region ?_
    refine sx_rd 4 (.slice none 0 0) (by rfl) (by kernel_rfl) ?_
    refine sx_rd 5 (.bool false) (by rfl) (by kernel_rfl) ?_
    refine sx_nil ?_
    refine ex_then_n ?_
    refine wp_seq ?_
    refine sx_region ?_
    refine sx_rd 13 (.string a0) (by rfl) (by kernel_rfl) ?_
    refine sx_rd 14 (.slice A1 l1.length c1) (by rfl) (by kernel_rfl) ?_
    obtain ⟨k_1, hk_k_1⟩ := Ev.rounds (taAsked_t a0 l1 hsz ht)
    refine sx_call 15 (by rfl) (by kernel_rfl) ((spec_taAsked.calls k_1 a0 A1 c1 l1 _ _ _ _ _ (hC1 _ hp) hc1 hk_k_1).mono ?_)
    rintro _ W_7 ⟨v_3, rfl, hR_2, hb⟩
    refine ⟨_, rfl, ?_⟩
    obtain ⟨A_4, c_5, rfl, hcc_c_5, _⟩ := Kd.R_reads hR_2
    obtain ⟨F_6, hp⟩ : ∃ F, Hp w (row (Kd.int .i64) 3 w.heap.size (.slice A_4 (cells a0).length c_5) (cells a0) F :: cs) _ := ⟨_, Hp.made hp hb hR_2⟩
    refine sx_rd 12 (.tuple #[.agg #[.int .i64 (Pure.w0 (rowsB a0) : Int), .int .i64 ((rowsB a0).length : Int), .slice A_4 ((cells a0).length) c_5], .bool (handB l1)]) (by rfl) (by kernel_rfl) ?_
    refine sx_rd 16 (.agg #[.int .i64 (Pure.w0 (rowsB a0) : Int), .int .i64 ((rowsB a0).length : Int), .slice A_4 ((cells a0).length) c_5]) (by rfl) (by kernel_rfl) ?_
    refine sx_rd 17 (.bool (handB l1)) (by rfl) (by kernel_rfl) ?_
    refine sx_box 6 hp #[.int .i64 0, .int .i64 0, .slice none 0 0] 44 (by rfl) (fun W => by kernel_rfl) ?_
    intro g_8 W_9 hp
    refine sx_store (t := 44) (p := (.tmp 6)) (x := (.tmp 16)) (by rfl) (by rfl) 0 (by rfl) 0 [.int .i64 (Pure.w0 (rowsB a0) : Int), .int .i64 ((rowsB a0).length : Int), .slice A_4 ((cells a0).length) c_5] (by rfl) (by rfl) (by kernel_rfl) (by simp [Value.oneCell']) (by show 3 ≤ 3; omega) #[.int .i64 (Pure.w0 (rowsB a0) : Int), .int .i64 ((rowsB a0).length : Int), .slice A_4 ((cells a0).length) c_5] (by rfl) hp ?_
    intro W_10 hp; simp only [List.set_cons_succ, List.set_cons_zero] at hp
    refine sx_rd 7 (.bool (handB l1)) (by rfl) (by kernel_rfl) ?_
    refine sx_nil ?_
    refine ex_then_n ?_
    refine wp_seq ?_
    refine wp_seq ?_
    refine sx_region ?_
    refine sx_rd 18 (.bool (handB l1)) (by rfl) (by kernel_rfl) ?_
    refine sx_rd 19 (.bool (!(handB l1))) (by rfl) (by kernel_rfl) ?_
    refine sx_nil ?_
    refine ex_then_n ?_
    refine sx_cond (!(handB l1)) (by rfl) (fun c_11 => ?_) (fun c_11 => ?_)
    ·
      refine wp_seq ?_
      refine sx_region ?_
      refine sx_rd 4 (.slice none 0 0) (by rfl) (by kernel_rfl) ?_
      refine sx_rd 5 (.bool false) (by rfl) (by kernel_rfl) ?_
      refine sx_nil ?_
      refine ex_then_n ?_
      refine wp_ret ?_
      refine ex_then_r ?_
      refine sx_end (.tuple #[.slice none 0 0, .bool false]) (res2 4 5 (by rfl)) ?_
      rw [if_neg (by rw [show handB l1 = false from (not_eq c_11)]; simp)] at h
      simp only [Option.some.injEq, Prod.mk.injEq] at h; obtain ⟨rfl, rfl⟩ := h
      exact ⟨_, rfl, Kd.R_nil _ _ _ _ _, hc2 _ (hp.tail.tail)⟩
    ·
      have hl := hand_ok (show handB l1 = true from (not_eq c_11))
      refine wp_skip ?_
      refine ex_then_n ?_
      refine wp_seq ?_
      refine sx_region ?_
      refine sx_rd 20 (.agg #[.int .i64 (Pure.w0 (rowsB a0) : Int), .int .i64 ((rowsB a0).length : Int), .slice A_4 ((cells a0).length) c_5]) (by rfl) (ldn (t := 44) (p := (.tmp 6)) (by rfl) (by rfl) (by kernel_rfl) (by kernel_rfl) (by kernel_rfl) (hp.at_ 0 _ (by rfl))) ?_
      refine sx_rd 21 (.slice A1 l1.length c1) (by rfl) (by kernel_rfl) ?_
      refine sx_call 22 (by rfl) (by kernel_rfl) ((taApart_sx (cs := row (Kd.int .i64) 3 w.heap.size (.slice A_4 ((cells a0).length) c_5) (cells a0) F_6 :: blk g_8 #[.int .i64 (Pure.w0 (rowsB a0) : Int), .int .i64 ((rowsB a0).length : Int), .slice A_4 ((cells a0).length) c_5] 44 :: cs) (Pure.w0 (rowsB a0) : Int) ((rowsB a0).length : Int) 100 (cells a0) A_4 c_5 l1 A1 c1 (by omega) (by omega) (by omega) (by omega) hd.1 hd.2.2.1 (row_len ((hp.take [1, 0] 2 (by decide) (by simp)).at_ 0 _ (by rfl))).2 (fun W h => row_C (h.at_ 0 _ (by rfl))) (by omega) hc1 (fun W h => hC1 W h.tail.tail) (hp.take [1, 0] 2 (by decide) (by simp))).mono ?_)
      rintro _ W_12 ⟨g, gL, cL, FL, Fd, Af, cf, rfl, hcf, hp⟩
      refine ⟨_, rfl, ?_⟩
      replace hp : Hp w (blk g #[.int .i64 (Pure.w0 (rowsB a0) : Int), .int .i64 ((rowsB a0).length : Int), .slice A_4 ((cells a0).length) c_5, .bool false, .slice A1 l1.length c1, .slice (some ⟨gL, 0, none⟩) ((cells a0).length) cL, .slice Af ((addF 100 [] (lvsH a0 l1)).length) cf, .int .i64 (0 + ((lvsH a0 l1).length : Int)), .int .i64 100] 52 :: row (Kd.int .u8) 5 w.heap.size (.slice (some ⟨gL, 0, none⟩) ((cells a0).length) cL) (List.replicate (cells a0).length (0 : Int)) FL :: rowS (Kd.slice 5 (Kd.int .u8)) 49 w.heap.size (.slice Af ((addF 100 [] (lvsH a0 l1)).length) cf) (addF 100 [] (lvsH a0 l1)) Fd :: row (Kd.int .i64) 3 w.heap.size (.slice A_4 ((cells a0).length) c_5) (cells a0) F_6 :: blk g_8 #[.int .i64 (Pure.w0 (rowsB a0) : Int), .int .i64 ((rowsB a0).length : Int), .slice A_4 ((cells a0).length) c_5] 44 :: cs) W_12 := hp
      refine sx_rd 8 (.pointer (some ⟨g, 0, none⟩)) (by rfl) (by kernel_rfl) ?_
      refine sx_nil ?_
      refine ex_then_n ?_
      refine wp_seq ?_
      refine wp_seq ?_
      refine sx_region ?_
      refine sx_rd 23 (.pointer (some ⟨g, 0, none⟩)) (by rfl) (by kernel_rfl) ?_
      refine sx_rd 24 (.pointer (some ⟨g, 0, none⟩)) (by rfl) (by kernel_rfl) ?_
      refine sx_rd 25 (.pointer (some ⟨g, 7, none⟩)) (by rfl) (by kernel_rfl) ?_
      refine sx_rd 26 (.int .i64 (0 + ((lvsH a0 l1).length : Int))) (by rfl) (ld1 (t := 3) (p := (.tmp 25)) (by rfl) (by rfl) (by kernel_rfl) (hp.cell 0 (by rfl) 7 _ (by rfl))) ?_
      refine sx_rd 27 (.bool (decide ((0 + ((lvsH a0 l1).length : Int)) > 100))) (by rfl) (by kernel_rfl) ?_
      refine sx_nil ?_
      refine ex_then_n ?_
      refine sx_cond (decide ((0 + ((lvsH a0 l1).length : Int)) > 100)) (by rfl) (fun c_13 => ?_) (fun c_13 => ?_)
      ·
        have c_13p := of_decide_eq_true c_13
        refine wp_seq ?_
        refine sx_region ?_
        refine sx_rd 4 (.slice none 0 0) (by rfl) (by kernel_rfl) ?_
        refine sx_rd 5 (.bool false) (by rfl) (by kernel_rfl) ?_
        refine sx_nil ?_
        refine ex_then_n ?_
        refine wp_ret ?_
        refine ex_then_r ?_
        refine sx_end (.tuple #[.slice none 0 0, .bool false]) (res2 4 5 (by rfl)) ?_
        have hb : handB l1 = true := (not_eq c_11)
        rw [if_pos (by rw [ht, hb]; rfl)] at h
        rw [if_pos (by have q := c_13p; omega)] at h
        simp only [Option.some.injEq, Prod.mk.injEq] at h; obtain ⟨rfl, rfl⟩ := h
        exact ⟨_, rfl, Kd.R_nil _ _ _ _ _, hc2 _ (hp.tail.tail.tail.tail.tail)⟩
      ·
        have c_13p := of_decide_eq_false c_13
        have hF : (addF 100 [] (lvsH a0 l1)) = (lvsH a0 l1) := addF_full (m := 100) (lvsH a0 l1) [] (by simp; omega)
        rw [hF] at hp
        refine wp_skip ?_
        refine ex_then_n ?_
        refine wp_seq ?_
        refine sx_region ?_
        refine sx_rd 9 (.slice none 0 0) (by rfl) (by kernel_rfl) ?_
        refine sx_nil ?_
        refine ex_then_n ?_
        refine wp_seq ?_
        refine wp_seq ?_
        refine sx_region ?_
        refine sx_rd 28 (.pointer (some ⟨g, 0, none⟩)) (by rfl) (by kernel_rfl) ?_
        refine sx_rd 29 (.pointer (some ⟨g, 0, none⟩)) (by rfl) (by kernel_rfl) ?_
        refine sx_rd 30 (.pointer (some ⟨g, 6, none⟩)) (by rfl) (by kernel_rfl) ?_
        refine sx_rd 31 (.slice Af ((lvsH a0 l1).length) cf) (by rfl) (ld1 (t := 50) (p := (.tmp 30)) (by rfl) (by rfl) (by kernel_rfl) (hp.cell 0 (by rfl) 6 _ (by rfl))) ?_
        refine sx_rd 32 (.int .i64 ((lvsH a0 l1).length : Int)) (by rfl) (by kernel_rfl) ?_
        refine sx_rd 33 (.int .i64 0) (by rfl) (by kernel_rfl) ?_
        refine sx_nil ?_
        refine ex_then_n ?_
        refine wp_block ?_
        have hp := hp.nilrow Kd.string 9 w.heap.size
        have e0_14 : ([] : List ByteArray) = (txtL a0 ((lvsH a0 l1).take 0)) := rfl
        have hp : Hp w (row Kd.string 9 w.heap.size (.slice none 0 0) (txtL a0 ((lvsH a0 l1).take 0)) (fun _ => False) :: blk g #[.int .i64 (Pure.w0 (rowsB a0) : Int), .int .i64 ((rowsB a0).length : Int), .slice A_4 ((cells a0).length) c_5, .bool false, .slice A1 l1.length c1, .slice (some ⟨gL, 0, none⟩) ((cells a0).length) cL, .slice Af ((lvsH a0 l1).length) cf, .int .i64 (0 + ((lvsH a0 l1).length : Int)), .int .i64 100] 52 :: row (Kd.int .u8) 5 w.heap.size (.slice (some ⟨gL, 0, none⟩) ((cells a0).length) cL) (List.replicate (cells a0).length (0 : Int)) FL :: rowS (Kd.slice 5 (Kd.int .u8)) 49 w.heap.size (.slice Af ((lvsH a0 l1).length) cf) (lvsH a0 l1) Fd :: row (Kd.int .i64) 3 w.heap.size (.slice A_4 ((cells a0).length) c_5) (cells a0) F_6 :: blk g_8 #[.int .i64 (Pure.w0 (rowsB a0) : Int), .int .i64 ((rowsB a0).length : Int), .slice A_4 ((cells a0).length) c_5] 44 :: cs) W_12 := by rw [← e0_14]; exact hp
        refine wp_loop_ghost (fun n_ a_ W => ∃ (r_ : List (Nat × Value)) (i : Nat) (Ai9 : Option Addr) (ni9 ci9 : Nat) (Fi9 : Nat → Prop), n_ = (lvsH a0 l1).length - i ∧ a_ = fr 45 ([(6, .pointer (some ⟨g_8, 0, none⟩)), (9, .slice Ai9 ni9 ci9), (31, .slice Af ((lvsH a0 l1).length) cf), (32, .int .i64 ((lvsH a0 l1).length : Int)), (33, .int .i64 (i : Int))] ++ r_) ∧ Hp w (row Kd.string 9 w.heap.size (.slice Ai9 ni9 ci9) (txtL a0 ((lvsH a0 l1).take i)) Fi9 :: blk g #[.int .i64 (Pure.w0 (rowsB a0) : Int), .int .i64 ((rowsB a0).length : Int), .slice A_4 ((cells a0).length) c_5, .bool false, .slice A1 l1.length c1, .slice (some ⟨gL, 0, none⟩) ((cells a0).length) cL, .slice Af ((lvsH a0 l1).length) cf, .int .i64 (0 + ((lvsH a0 l1).length : Int)), .int .i64 100] 52 :: row (Kd.int .u8) 5 w.heap.size (.slice (some ⟨gL, 0, none⟩) ((cells a0).length) cL) (List.replicate (cells a0).length (0 : Int)) FL :: rowS (Kd.slice 5 (Kd.int .u8)) 49 w.heap.size (.slice Af ((lvsH a0 l1).length) cf) (lvsH a0 l1) Fd :: row (Kd.int .i64) 3 w.heap.size (.slice A_4 ((cells a0).length) c_5) (cells a0) F_6 :: blk g_8 #[.int .i64 (Pure.w0 (rowsB a0) : Int), .int .i64 ((rowsB a0).length : Int), .slice A_4 ((cells a0).length) c_5] 44 :: cs) W ∧ (i ≤ (lvsH a0 l1).length)) _ ⟨_, 0, _, _, _, _, rfl, fr_front [(6, .pointer (some ⟨g_8, 0, none⟩)), (9, .slice none 0 0), (31, .slice Af ((lvsH a0 l1).length) cf), (32, .int .i64 ((lvsH a0 l1).length : Int)), (33, .int .i64 0)] ⟨rfl, rfl, rfl, rfl, rfl, trivial⟩, (hp.take [0, 1, 2, 3, 4, 5] 6 (by decide) (by simp)), Nat.zero_le _⟩ ?_
        rintro _ _ W_15 ⟨r_, i, Ai9, ni9, ci9, Fi9, rfl, rfl, hp, hi⟩
        obtain ⟨rfl, hcci9⟩ := row_len (hp.at_ 0 _ (by rfl))
        have htl : (txtL a0 ((lvsH a0 l1).take i)).length ≤ i := by rw [txtL_len, List.length_take]; omega
        refine wp_seq ?_
        refine sx_region ?_
        refine sx_rd 34 (.bool (decide ((i : Int) < ((lvsH a0 l1).length : Int)))) (by rfl) (by kernel_rfl) ?_
        refine sx_nil ?_
        refine ex_then_n ?_
        refine wp_seq ?_
        refine sx_cond (decide ((i : Int) < ((lvsH a0 l1).length : Int))) (by rfl) (fun c_16 => ?_) (fun c_16 => ?_)
        ·
          have c_16p := of_decide_eq_true c_16
          have hbz := lvsH_at (s := a0) (hand := l1) (b := (rd_i64s (lvsH a0 l1) (i : Int))) (by rw [rdS_get (show i < (lvsH a0 l1).length by omega)]; exact List.getElem_mem _)
          obtain ⟨Ah, ch, hHc, hHC, hHl⟩ : ∃ A' c', W_15.cell? (adr Af (i : Int) 1) = some (.slice A' (rd_i64s (lvsH a0 l1) (i : Int)).length c') ∧ Kd.C (Kd.int .u8) W_15 A' (rd_i64s (lvsH a0 l1) (i : Int)).length (rd_i64s (lvsH a0 l1) (i : Int)) ∧ (rd_i64s (lvsH a0 l1) (i : Int)).length ≤ c' := by rw [rdS_get (show i < (lvsH a0 l1).length by omega)]; exact rowS_hdr (hp.at_ 3 _ (by rfl)) i (by omega)
          refine wp_skip ?_
          refine ex_then_n ?_
          refine wp_seq ?_
          refine wp_block ?_
          refine wp_seq ?_
          refine sx_region ?_
          refine sx_rd 35 (.pointer (some (adr Af (i : Int) 1))) (by rfl) (ix_run (d := (Kd.slice 5 (Kd.int .u8))) (rowS_C (hp.at_ 3 _ (by rfl))) (t := 50) (by rfl) (by rfl) (by rfl) Tryz.underlying50 (by kernel_rfl) (by omega) (by omega)) ?_
          refine sx_rd 36 (.slice Ah ((rd_i64s (lvsH a0 l1) (i : Int)).length) ch) (by rfl) (ld1 (t := 49) (p := (.tmp 35)) (by rfl) (by rfl) (by kernel_rfl) hHc) ?_
          refine sx_rd 11 (.slice Ah ((rd_i64s (lvsH a0 l1) (i : Int)).length) ch) (by rfl) (by kernel_rfl) ?_
          refine sx_nil ?_
          refine ex_then_n ?_
          refine sx_region ?_
          refine sx_rd 37 (.slice Ai9 ((txtL a0 ((lvsH a0 l1).take i)).length) ci9) (by rfl) (by kernel_rfl) ?_
          refine sx_rd 38 (.agg #[.int .i64 (Pure.w0 (rowsB a0) : Int), .int .i64 ((rowsB a0).length : Int), .slice A_4 ((cells a0).length) c_5]) (by rfl) (ldn (t := 44) (p := (.tmp 6)) (by rfl) (by rfl) (by kernel_rfl) (by kernel_rfl) (by kernel_rfl) (hp.at_ 5 _ (by rfl))) ?_
          refine sx_rd 39 (.slice Ah ((rd_i64s (lvsH a0 l1) (i : Int)).length) ch) (by rfl) (by kernel_rfl) ?_
          refine sx_call 40 (by rfl) (by kernel_rfl) ((spec_taText.calls (Pure.w0 (rowsB a0) : Int) ((rowsB a0).length : Int) A_4 c_5 (cells a0) Ah ch (rd_i64s (lvsH a0 l1) (i : Int)) _ _ (row_C (hp.at_ 4 _ (by rfl))) (row_len (hp.at_ 4 _ (by rfl))).2 hHC hHl (taText_eq hd.2.2.2.1 hd.2.2.2.2.1 hd.2.2.2.2.2.1 hd.2.2.2.2.2.2.1 (hbz.1.trans hd.2.1.symm) hbz.2)).mono ?_)
          rintro _ W_17 ⟨rfl, hb⟩
          refine ⟨_, rfl, ?_⟩
          replace hp := hp.below hb
          clear hb
          refine sx_lit 41 (by rfl) Kd.string w.heap.size 9 ([(formT (Pure.w0 (rowsB a0)) (rowsB a0).length (rd_i64s (lvsH a0 l1) (i : Int)))]) [.string (formT (Pure.w0 (rowsB a0)) (rowsB a0).length (rd_i64s (lvsH a0 l1) (i : Int)))] (fun W => by kernel_rfl) (Reps.snoc (cs := []) (Reps.none _ _) rfl rfl) (by simp) hp.size hp ?_
          intro g_18 F_19 W_20 hp hz; clear hz
          refine sx_append 42 (by rfl) Kd.string 1 (by rfl) (.string ByteArray.empty) 16 (by rfl) Tryz.underlying24 (by kernel_rfl) rfl (by decide) (by decide) ([(formT (Pure.w0 (rowsB a0)) (rowsB a0).length (rd_i64s (lvsH a0 l1) (i : Int)))]) (by rfl) (by rfl) (row_C (hp.at_ 0 _ (by rfl))) (fun x cs h => h) hp.size (by first | omega | (simp; omega)) hp ?_
          intro A_21 c_22 F_23 W_24 hp hz; clear hz; simp only [List.set_cons_succ, List.set_cons_zero] at hp
          refine sx_rd 9 (.slice A_21 (((txtL a0 ((lvsH a0 l1).take i)) ++ [(formT (Pure.w0 (rowsB a0)) (rowsB a0).length (rd_i64s (lvsH a0 l1) (i : Int)))]).length) c_22) (by rfl) (by kernel_rfl) ?_
          refine sx_nil ?_
          refine ex_blk_n ?_
          refine ex_then_n ?_
          refine sx_region ?_
          refine sx_rd 43 (.int .i64 ((i : Int) + 1)) (by rfl) (wr_ok (by omega) (by kernel_rfl)) ?_
          refine sx_rd 33 (.int .i64 ((i : Int) + 1)) (by rfl) (by kernel_rfl) ?_
          refine sx_nil ?_
          refine ex_then_n ?_
          have hq_25 : ((txtL a0 ((lvsH a0 l1).take i)) ++ [(formT (Pure.w0 (rowsB a0)) (rowsB a0).length (rd_i64s (lvsH a0 l1) (i : Int)))]) = (txtL a0 ((lvsH a0 l1).take (i + 1))) := txtL_next (by omega)
          rw [hq_25] at hp
          exact ⟨_, (by omega), _, (i + 1), _, _, _, _, rfl, fr_front [(6, .pointer (some ⟨g_8, 0, none⟩)), (9, .slice A_21 ((txtL a0 ((lvsH a0 l1).take (i + 1))).length) c_22), (31, .slice Af ((lvsH a0 l1).length) cf), (32, .int .i64 ((lvsH a0 l1).length : Int)), (33, .int .i64 ((i + 1 : Nat) : Int))] ⟨rfl, congrArg (fun z : List ByteArray => Value.slice A_21 z.length c_22) hq_25, rfl, rfl, rfl, trivial⟩, (hp.take [1, 2, 3, 4, 5, 6] 7 (by decide) (by simp)), (by omega)⟩
        ·
          have c_16p := of_decide_eq_false c_16
          refine wp_exit ?_
          refine ex_then_e (ex_then_e (ex_blk_here ?_))
          refine ex_then_n ?_
          refine wp_seq ?_
          refine sx_region ?_
          refine sx_rd 44 (.slice Ai9 ((txtL a0 ((lvsH a0 l1).take i)).length) ci9) (by rfl) (by kernel_rfl) ?_
          refine sx_rd 4 (.slice Ai9 ((txtL a0 ((lvsH a0 l1).take i)).length) ci9) (by rfl) (by kernel_rfl) ?_
          refine sx_rd 5 (.bool true) (by rfl) (by kernel_rfl) ?_
          refine sx_nil ?_
          refine ex_then_n ?_
          refine wp_ret ?_
          refine sx_end (.tuple #[.slice Ai9 ((txtL a0 ((lvsH a0 l1).take i)).length) ci9, .bool true]) (res2 4 5 (by rfl)) ?_
          have hb : handB l1 = true := (not_eq c_11)
          rw [if_pos (by rw [ht, hb]; rfl)] at h
          rw [if_neg (by have q := c_13p; omega)] at h
          obtain rfl : i = (lvsH a0 l1).length := by omega
          rw [List.take_length] at hp
          simp only [Option.some.injEq, Prod.mk.injEq] at h; obtain ⟨rfl, rfl⟩ := h
          rw [List.take_length]
          exact ⟨_, rfl, Kd.R_mono (row_R (hp.at_ 0 _ (by rfl))) (fun _ _ => trivial), hc2 _ (hp.tail.tail.tail.tail.tail.tail)⟩
  · replace ht : isTab a0 = false := by simpa using ht
    refine sx_enter (N := 45) (l := [.string a0, .slice A1 l1.length c1]) Tryz.func7 rfl rfl rfl ?_
    refine wp_seq ?_
    refine sx_region ?_
    refine sx_rd 4 (.slice none 0 0) (by rfl) (by kernel_rfl) ?_
    refine sx_rd 5 (.bool false) (by rfl) (by kernel_rfl) ?_
    refine sx_nil ?_
    refine ex_then_n ?_
    refine wp_seq ?_
    refine sx_region ?_
    refine sx_rd 13 (.string a0) (by rfl) (by kernel_rfl) ?_
    refine sx_rd 14 (.slice A1 l1.length c1) (by rfl) (by kernel_rfl) ?_
    obtain ⟨k_1, hk_k_1⟩ := Ev.rounds (taAsked_f a0 l1 hsz ht)
    refine sx_call 15 (by rfl) (by kernel_rfl) ((spec_taAsked.calls k_1 a0 A1 c1 l1 _ _ _ _ _ (hC1 _ hp) hc1 hk_k_1).mono ?_)
    rintro _ W_7 ⟨v_3, rfl, hR_2, hb⟩
    refine ⟨_, rfl, ?_⟩
    obtain ⟨A_4, c_5, rfl, hcc_c_5, _⟩ := Kd.R_reads hR_2
    obtain ⟨F_6, hp⟩ : ∃ F, Hp w (row (Kd.int .i64) 3 w.heap.size (.slice A_4 ([] : List Int).length c_5) ([] : List Int) F :: cs) _ := ⟨_, Hp.made hp hb hR_2⟩
    refine sx_rd 12 (.tuple #[.agg #[.int .i64 0, .int .i64 0, .slice A_4 (([] : List Int).length) c_5], .bool false]) (by rfl) (by kernel_rfl) ?_
    refine sx_rd 16 (.agg #[.int .i64 0, .int .i64 0, .slice A_4 (([] : List Int).length) c_5]) (by rfl) (by kernel_rfl) ?_
    refine sx_rd 17 (.bool false) (by rfl) (by kernel_rfl) ?_
    refine sx_box 6 hp #[.int .i64 0, .int .i64 0, .slice none 0 0] 44 (by rfl) (fun W => by kernel_rfl) ?_
    intro g_8 W_9 hp
    refine sx_store (t := 44) (p := (.tmp 6)) (x := (.tmp 16)) (by rfl) (by rfl) 0 (by rfl) 0 [.int .i64 0, .int .i64 0, .slice A_4 (([] : List Int).length) c_5] (by rfl) (by rfl) (by kernel_rfl) (by simp [Value.oneCell']) (by show 3 ≤ 3; omega) #[.int .i64 0, .int .i64 0, .slice A_4 (([] : List Int).length) c_5] (by rfl) hp ?_
    intro W_10 hp; simp only [List.set_cons_succ, List.set_cons_zero] at hp
    refine sx_rd 7 (.bool false) (by rfl) (by kernel_rfl) ?_
    refine sx_nil ?_
    refine ex_then_n ?_
    refine wp_seq ?_
    refine wp_seq ?_
    refine sx_region ?_
    refine sx_rd 18 (.bool false) (by rfl) (by kernel_rfl) ?_
    refine sx_rd 19 (.bool true) (by rfl) (by kernel_rfl) ?_
    refine sx_nil ?_
    refine ex_then_n ?_
    refine sx_then true (by rfl) rfl ?_
    refine wp_seq ?_
    refine sx_region ?_
    refine sx_rd 4 (.slice none 0 0) (by rfl) (by kernel_rfl) ?_
    refine sx_rd 5 (.bool false) (by rfl) (by kernel_rfl) ?_
    refine sx_nil ?_
    refine ex_then_n ?_
    refine wp_ret ?_
    refine ex_then_r ?_
    refine sx_end (.tuple #[.slice none 0 0, .bool false]) (res2 4 5 (by rfl)) ?_
    rw [if_neg (by rw [ht]; simp)] at h
    simp only [Option.some.injEq, Prod.mk.injEq] at h; obtain ⟨rfl, rfl⟩ := h
    exact ⟨_, rfl, Kd.R_nil _ _ _ _ _, hc2 _ (hp.tail.tail)⟩
end Go.Proofs.YtokkiiepddhkiaaGreatDoor.Hd
