/- spec.FirstApart, by hand. -/
import Derived.Test.YtokkiiepddhkiaaDoorMTaText
import Derived.Test.YtokkiiepddhkiaaDoorPTaText
import Derived.Test.YtokkiiepddhkiaaDoorG2
import Derived.Test.YtokkiiepddhkiaaDoorMMx
import Derived.Test.YtokkiiepddhkiaaDoorMSx3
import Derived.Test.YtokkiiepddhkiaaDoorMSxS
import Derived.Test.YtokkiiepddhkiaaDoorMSxR
import Derived.Test.YtokkiiepddhkiaaDoorMAptS
import Derived.Test.YtokkiiepddhkiaaDoorPApB
namespace Go.Proofs.YtokkiiepddhkiaaDoor.Hd
open Go.RowKit Go.Proofs.YtokkiiepddhkiaaDoor.Pure Go.Proofs.YtokkiiepddhkiaaDoorW.PrintWords Go.Proofs.YtokkiiepddhkiaaDoorW.PrintLast Go.Proofs.YtokkiiepddhkiaaDoorW.PrintMore
set_option linter.unusedVariables false
set_option linter.unusedSimpArgs false
set_option maxRecDepth 100000 in
set_option maxHeartbeats 40000000 in
theorem taApart_sx {w0 W : World} {cs : List Chunk} (w h most : Int) (C : List Int) (AG : Option Addr) (cG : Nat) (H : List S_Tile) (AH : Option Addr) (cH : Nat) (hw1 : 1 ≤ w) (hw2 : w ≤ 30) (hh1 : 1 ≤ h) (hh2 : h ≤ 30) (hwh : w * h = (C.length : Int)) (hn : C.length ≤ 30) (hcG : C.length ≤ cG) (hG : ∀ W, Hp w0 cs W → Kd.C (Kd.int .i64) W AG C.length C) (hHn : H.length ≤ 1000) (hcH : H.length ≤ cH) (hH : ∀ W, Hp w0 cs W → Kd.C k54 W AH H.length H) (hp : Hp w0 cs W) :
    Calls Tryd.prog 22 #[.agg #[.int .i64 w, .int .i64 h, .slice AG C.length cG], .slice AH H.length cH, .int .i64 most] W fun e W' => ∃ (g gL cL : Nat) (FL Fd : Nat → Prop) (Af : Option Addr) (cf : Nat), e = .returned (.pointer (some ⟨g, 0, none⟩)) ∧ (addF most [] (apL w (C.length : Int) C H)).length ≤ cf ∧ Hp w0 (blk g #[.int .i64 w, .int .i64 h, .slice AG C.length cG, .bool false, .slice AH H.length cH, .slice (some ⟨gL, 0, none⟩) C.length cL, .slice Af ((addF most [] (apL w (C.length : Int) C H)).length) cf, .int .i64 (0 + ((apL w (C.length : Int) C H).length : Int)), .int .i64 most] 50 :: row (Kd.int .u8) 5 w0.heap.size (.slice (some ⟨gL, 0, none⟩) C.length cL) (List.replicate C.length (0 : Int)) FL :: rowS (Kd.slice 5 (Kd.int .u8)) 42 w0.heap.size (.slice Af ((addF most [] (apL w (C.length : Int) C H)).length) cf) (addF most [] (apL w (C.length : Int) C H)) Fd :: cs) W' := by
  have hCn := hn
  refine sx_enter (N := 27) (l := [.agg #[.int .i64 w, .int .i64 h, .slice AG C.length cG], .slice AH H.length cH, .int .i64 most]) Tryd.func22 rfl rfl rfl ?_
  refine wp_seq ?_
  refine sx_region ?_
  refine sx_box 3 hp #[.int .i64 w, .int .i64 h, .slice AG C.length cG] 36 (by rfl) (fun W => by kernel_rfl) ?_
  intro g_1 W_2 hp
  refine sx_rd 6 (.pointer none) (by rfl) (by kernel_rfl) ?_
  refine sx_nil ?_
  refine ex_then_n ?_
  refine wp_seq ?_
  refine sx_drawT [1, 2, 6] (.rd 0 (.rd 3 (.rd 4 (.alt 5 (.rd 7 (.alt 8 (.rd 9 (.fin)) .non)) .non)))) 10 (C := Hp w0 (blk g_1 #[.int .i64 w, .int .i64 h, .slice AG C.length cG] 36 :: cs)) (by kernel_rfl) (by kernel_rfl) (fun d _ _ _ _ h => by cases d <;> exact h) (fun W h => h.drew) hp ?_
  refine preI_read rfl ?_
  refine sxq_val 9 (.slice AH H.length cH) (by rfl) (fun W _ => (by kernel_rfl)) ?_
  refine sxq_nil ?_
  refine preI_read rfl ?_
  refine sxq_val 10 (.pointer (some ⟨g_1, 2, none⟩)) (by rfl) (fun W _ => (by kernel_rfl)) ?_
  refine sxq_nil ?_
  refine preI_read rfl ?_
  refine sxq_val 14 (.int .i64 most) (by rfl) (fun W _ => (by kernel_rfl)) ?_
  refine sxq_nil ?_
  refine preI_nil ?_
  intro W_3 hp
  refine treeI_rd rfl ?_
  refine sxq_val 8 (.agg #[.int .i64 w, .int .i64 h, .slice AG C.length cG]) (by rfl) (fun W hp => (ldn (t := 36) (p := (.tmp 3)) (by rfl) (by rfl) (by kernel_rfl) (by kernel_rfl) (by kernel_rfl) (hp.at_ 0 _ (by rfl)))) ?_
  refine sxq_nil ?_
  refine treeI_rd rfl ?_
  refine sxq_val 11 (.slice AG C.length cG) (by rfl) (fun W hp => (ld1 (t := 34) (p := (.tmp 10)) (by rfl) (by rfl) (by kernel_rfl) (hp.cell 0 (by rfl) 2 _ (by rfl)))) ?_
  refine sxq_nil ?_
  refine treeI_rd rfl ?_
  refine sxq_val 12 (.int .i64 (C.length : Int)) (by rfl) (fun W hp => (by kernel_rfl)) ?_
  refine sxq_nil ?_
  refine treeI_ev rfl ?_
  refine sx_make 13 (by rfl) (Kd.int .u8) w0.heap.size 5 C.length (by rfl) (by rfl) (by rfl) (by omega) Tryd.underlying42 (.int .u8 0) 1 (by rfl) (by rfl) (by decide) (by decide) 0 rfl (by omega) hp.size hp ?_
  intro g_4 F_5 W_6 hp
  refine step_fin hp.tail ?_
  refine treeI_rd rfl ?_
  refine sxq_val 15 (.agg #[.int .i64 w, .int .i64 h, .slice AG C.length cG, .bool false, .slice AH H.length cH, .slice (some ⟨g_4, 0, none⟩) ((List.replicate C.length (0 : Int)).length) ((List.replicate C.length (0 : Int)).length), .slice none 0 0, .int .i64 0, .int .i64 most]) (by rfl) (fun W hp => (by kernel_rfl)) ?_
  refine sxq_nil ?_
  refine treeI_ev rfl ?_
  refine sx_box 16 hp #[.int .i64 w, .int .i64 h, .slice AG C.length cG, .bool false, .slice AH H.length cH, .slice (some ⟨g_4, 0, none⟩) ((List.replicate C.length (0 : Int)).length) ((List.replicate C.length (0 : Int)).length), .slice none 0 0, .int .i64 0, .int .i64 most] 50 (by rfl) (fun W => by kernel_rfl) ?_
  intro g_7 W_8 hp
  refine step_fin hp.tail.tail ?_
  refine treeI_rd rfl ?_
  refine sxq_val 7 (.pointer (some ⟨g_7, 0, none⟩)) (by rfl) (fun W hp => (by kernel_rfl)) ?_
  refine sxq_nil ?_
  refine treeI_fin ?_
  refine sx_nil ?_
  refine ex_then_n ?_
  refine wp_seq ?_
  refine wp_seq ?_
  refine sx_region ?_
  refine sx_rd 17 (.slice AH H.length cH) (by rfl) (by kernel_rfl) ?_
  refine sx_rd 18 (.int .i64 (H.length : Int)) (by rfl) (by kernel_rfl) ?_
  refine sx_rd 19 (.int .i64 (2 * (H.length : Int))) (by rfl) (wr_ok (by omega) (by kernel_rfl)) ?_
  refine sx_rd 20 (.pointer (some ⟨g_1, 2, none⟩)) (by rfl) (by kernel_rfl) ?_
  refine sx_rd 21 (.slice AG C.length cG) (by rfl) (ld1 (t := 34) (p := (.tmp 20)) (by rfl) (by rfl) (by kernel_rfl) (hp.cell 2 (by rfl) 2 _ (by rfl))) ?_
  refine sx_rd 22 (.int .i64 (C.length : Int)) (by rfl) (by kernel_rfl) ?_
  refine sx_rd 23 (.bool ((2 * (H.length : Int)) == (C.length : Int))) (by rfl) (by kernel_rfl) ?_
  refine sx_nil ?_
  refine ex_then_n ?_
  refine sx_cond ((2 * (H.length : Int)) == (C.length : Int)) (by rfl) (fun c_9 => ?_) (fun c_9 => ?_)
  ·
    have c_9p := eq_of_beq_ c_9
    refine sx_region ?_
    refine sx_rd 24 (.pointer (some ⟨g_7, 0, none⟩)) (by rfl) (by kernel_rfl) ?_
    have hp := hp.nilrowS (Kd.slice 5 (Kd.int .u8)) 42 w0.heap.size
    have hzl : (List.replicate C.length (0 : Int)).length = C.length := List.length_replicate
    have hp2 := (hp.take [1, 2, 0, 3] 4 (by decide) (by simp))
    rw [hzl] at hp2
    refine sx_call 25 (by rfl) (by kernel_rfl) ((lookS_all w0 31 _ (blk g_1 #[.int .i64 w, .int .i64 h, .slice AG C.length cG] 36 :: cs) g_7 g_4 w h C.length (List.replicate C.length (0 : Int)) 0 0 most false C AG cG H AH cH C.length F_5 [] none 0 (fun _ => False) hw1 hw2 hh1 hh2 hwh hn hzl rfl hcG (fun W h => hG W h.tail) hHn hcH (fun W h => hH W h.tail) (by decide) (by decide) (by decide) (Nat.le_refl _) (Nat.zero_le _) (by omega) hp2).mono ?_)
    rintro _ W_10 ⟨FL2, Fd2, Af2, cf2, rfl, hfc2, hp⟩
    refine ⟨_, rfl, ?_⟩
    refine sx_nil ?_
    refine ex_then_n ?_
    refine wp_seq ?_
    refine sx_region ?_
    refine sx_rd 26 (.pointer (some ⟨g_7, 0, none⟩)) (by rfl) (by kernel_rfl) ?_
    refine sx_rd 6 (.pointer (some ⟨g_7, 0, none⟩)) (by rfl) (by kernel_rfl) ?_
    refine sx_nil ?_
    refine ex_then_n ?_
    refine wp_ret ?_
    refine sx_end (.pointer (some ⟨g_7, 0, none⟩)) (res1 6 (by rfl)) ?_
    have hL : (apL w (C.length : Int) C H) = ((lvs (nxS false C) w (C.length : Int) 31 (List.replicate C.length (0 : Int)) 0 H).map Prod.fst) := by unfold apL; rw [if_pos c_9p]
    rw [hL]
    exact ⟨_, _, _, _, _, _, _, rfl, hfc2, (hp.take [0, 1, 2] 4 (by decide) (by simp))⟩
  ·
    have c_9p := ne_of_beq_ c_9
    refine wp_skip ?_
    refine ex_then_n ?_
    refine wp_seq ?_
    refine sx_region ?_
    refine sx_rd 26 (.pointer (some ⟨g_7, 0, none⟩)) (by rfl) (by kernel_rfl) ?_
    refine sx_rd 6 (.pointer (some ⟨g_7, 0, none⟩)) (by rfl) (by kernel_rfl) ?_
    refine sx_nil ?_
    refine ex_then_n ?_
    refine wp_ret ?_
    refine sx_end (.pointer (some ⟨g_7, 0, none⟩)) (res1 6 (by rfl)) ?_
    have hp := hp.nilrowS (Kd.slice 5 (Kd.int .u8)) 42 w0.heap.size
    have hzl : (List.replicate C.length (0 : Int)).length = C.length := List.length_replicate
    have hL : (apL w (C.length : Int) C H) = [] := by unfold apL; rw [if_neg c_9p]
    rw [hL]
    have hq := (hp.take [1, 2, 0] 4 (by decide) (by simp))
    rw [hzl] at hq
    exact ⟨_, _, _, _, _, _, _, rfl, Nat.le_refl _, hq⟩
end Go.Proofs.YtokkiiepddhkiaaDoor.Hd
namespace Go.Proofs.YtokkiiepddhkiaaDoor.Hd
open Go Go.RowKit Go.Proofs.YtokkiiepddhkiaaDoorW.PrintWords Go.Proofs.YtokkiiepddhkiaaDoorW.PrintLast Go.Proofs.YtokkiiepddhkiaaDoorW.PrintMore
set_option linter.unusedVariables false
def pin (c : Chunk) (W1 : World) : Chunk where
  fp := c.fp
  ok W := c.ok W ∧ ∀ k, c.fp k → W.heap[k]? = W1.heap[k]?
  move h e := ⟨c.move h.1 e, fun k hk => (e k hk).trans (h.2 k hk)⟩
  live h := c.live h.1
theorem Hp.pin {w0 W : World} {c : Chunk} {cs : List Chunk} (h : Hp w0 (c :: cs) W) : Hp w0 (Hd.pin c W :: cs) W :=
  h.upd 0 c (Hd.pin c W) rfl (Mv.refl _ W) ⟨h.at_ 0 _ rfl, fun _ _ => rfl⟩ (fun k hk => .inl hk)
theorem pin_ok {c : Chunk} {W W1 : World} (h : (pin c W1).ok W) : c.ok W := h.1
section
variable {α : Type} {di : Kd α} {ei e base n c : Nat} {A : Option Addr} {xs : List (List α)} {F : Nat → Prop} {W W1 : World}
theorem rowS_hdr (h : (rowS (Kd.slice ei di) e base (.slice A n c) xs F).ok W) (i : Nat) (hi : i < xs.length) :
    ∃ A' c', W.cell? (adr A (i : Int) 1) = some (.slice A' xs[i].length c') ∧ Kd.C di W A' xs[i].length xs[i] ∧ xs[i].length ≤ c' := by
  obtain ⟨h1, h2, h3⟩ := rowS_C h
  obtain ⟨ad, hA, hj⟩ := h3 (by omega)
  obtain ⟨c, hlen, hK, hcell⟩ := hj i xs[i] (List.getElem?_eq_getElem hi)
  obtain ⟨A', c', rfl, hl, hc⟩ := hK
  have hc0 := hcell 0 (.slice A' xs[i].length c') rfl
  refine ⟨A', c', ?_, hc, hl⟩
  have e : adr A (i : Int) 1 = ad.add (i * 1 + 0) := by rw [hA]; simp [adr]
  rw [e]; exact hc0
theorem add_block (ad : Addr) (k : Nat) : (ad.add k).block = ad.block := by
  unfold Addr.add
  split <;> rfl
theorem cell_same {p : Addr} (h : W.heap[p.block]? = W1.heap[p.block]?) : W.cell? p = W1.cell? p := by
  unfold World.cell?
  rw [h]
theorem pin_at (h : (pin (rowS (Kd.slice ei di) e base (.slice A n c) xs F) W1).ok W) (i : Nat) (hi : i < xs.length) {A' : Option Addr} {c' : Nat} (hc : W1.cell? (adr A (i : Int) 1) = some (.slice A' xs[i].length c')) :
    W.cell? (adr A (i : Int) 1) = some (.slice A' xs[i].length c') ∧ Kd.C di W A' xs[i].length xs[i] := by
  obtain ⟨h1, h2⟩ := h
  obtain ⟨B, d, q1, q2, _⟩ := rowS_hdr h1 i hi
  have hF : F (adr A (i : Int) 1).block := by
    obtain ⟨r1, r2, r3⟩ := rowS_C h1
    obtain ⟨ad, hA, _⟩ := r3 (by omega)
    subst hA
    obtain ⟨f, hf, _⟩ := h1.1
    have e : (adr (some ad) (i : Int) 1).block = ad.block := add_block _ _
    rw [e]
    exact hf _ rfl
  have e := cell_same (p := adr A (i : Int) 1) (h2 _ hF)
  have e2 := e.symm.trans q1
  rw [hc] at e2
  injection e2 with e2
  injection e2 with a b c
  subst a
  subst c
  exact ⟨q1, q2⟩
end
end Go.Proofs.YtokkiiepddhkiaaDoor.Hd
namespace Go.Proofs.YtokkiiepddhkiaaDoor.Hd
open Go.RowKit Go.Proofs.YtokkiiepddhkiaaDoor.Pure Go.Proofs.YtokkiiepddhkiaaDoorW.PrintWords Go.Proofs.YtokkiiepddhkiaaDoorW.PrintLast Go.Proofs.YtokkiiepddhkiaaDoorW.PrintMore
set_option linter.unusedVariables false
set_option linter.unusedSimpArgs false
theorem taAsked_t (s : ByteArray) (l : List S_Tile) (hs : s.size ≤ 1048576) (ht : isTab s = true) : Ev (fun k => spec_taAsked.f k s l) ((Pure.w0 (rowsB s) : Int), ((rowsB s).length : Int), cells s, handB l) := by
  have q := taAsked_ev s l hs; unfold askF at q; rw [if_pos ht] at q; exact q
theorem taAsked_f (s : ByteArray) (l : List S_Tile) (hs : s.size ≤ 1048576) (ht : isTab s = false) : Ev (fun k => spec_taAsked.f k s l) (0, 0, [], false) := by
  have q := taAsked_ev s l hs; unfold askF at q; rw [if_neg (by rw [ht]; simp)] at q; exact q
theorem addF_zero (b : List Int) : ∀ (L : List (List Int)), addF 0 [] (b :: L) = [b] := by
  have key : ∀ (L : List (List Int)), addF 0 [b] L = [b] := by
    intro L
    induction L with
    | nil => rfl
    | cons x L ih => exact ih
  intro L; exact key L
theorem taText_eq {w h : Nat} {C b : List Int} (hw : 1 ≤ w) (hw2 : w ≤ 30) (hh : 1 ≤ h) (hh2 : h ≤ 30) (hb : b.length = h * w) (hbb : ∀ x ∈ b, 0 ≤ x ∧ x < 256) : spec_taText.f (w : Int) (h : Int) C b = some (formT w h b) := by
  unfold spec_taText.f
  rw [if_pos ⟨by omega, by omega, by omega, by omega, by rw [hb, Int.natCast_mul], hbb⟩, Int.toNat_natCast, Int.toNat_natCast]
def spec_FirstApart.f (a0 : ByteArray) (l1 : List S_Tile) : Option (ByteArray × Bool) := if a0.size ≤ 1048576 then (if (isTab a0 && handB l1) = true then some ((match lvsH a0 l1 with | [] => ((⟨#[]⟩ : ByteArray), false) | b :: _ => (formT (Pure.w0 (rowsB a0)) (rowsB a0).length b, true))) else some (⟨#[]⟩, false)) else none
set_option maxRecDepth 100000 in
set_option maxHeartbeats 40000000 in
theorem spec_FirstApart.calls (a0 : ByteArray) (A1 : Option Addr) (c1 : Nat) (l1 : List S_Tile) (r0 : ByteArray) (r1 : Bool) (w : World) (hr1 : Kd.C k54 w A1 l1.length l1) (hc1 : l1.length ≤ c1) (hmx : ∃ m, w.cell? ⟨0, 0, none⟩ = some (.int .i64 m)) (h : spec_FirstApart.f a0 l1 = some (r0, r1)) :
    Calls Tryd.prog 13 #[.string a0, .slice A1 l1.length c1] w fun e w' => e = .returned (.tuple #[.string r0, .bool r1]) ∧ Below w.heap.size w w' := by
  unfold spec_FirstApart.f at h
  by_cases hsz : a0.size ≤ 1048576
  case neg => rw [if_neg hsz] at h; cases h
  rw [if_pos hsz] at h
  obtain ⟨cs, hcs⟩ : ∃ cs, cs = [old w w.heap.size] := ⟨_, rfl⟩
  have hp : Hp w cs w := by rw [hcs]; exact Hp.old_start w
  have hc2 : ∀ W, Hp w cs W → Below w.heap.size w W := fun W h => by rw [hcs] at h; exact h.since 0 _ rfl
  have hC1 : ∀ W, Hp w cs W → Kd.C k54 W A1 l1.length l1 := fun W h => Kd.C_below hr1 (hc2 W h)
  have hM : ∀ W, Hp w cs W → ∃ m, W.cell? ⟨0, 0, none⟩ = some (.int .i64 m) := fun W h => hmx.imp fun m q => ((hc2 W h).cell (World.block_lt_of_cell? _ _ q)).trans q
  clear hcs
  by_cases ht : isTab a0 = true
  ·
    have hd := tab_dim ht
    refine sx_enter (N := 33) (l := [.string a0, .slice A1 l1.length c1]) Tryd.func13 rfl rfl rfl ?_
    refine wp_seq ?_
    refine sx_region ?_
    refine sx_rd 4 (.string (⟨#[]⟩ : ByteArray)) (by rfl) (by kernel_rfl) ?_
    refine sx_rd 5 (.bool false) (by rfl) (by kernel_rfl) ?_
    refine sx_nil ?_
    refine ex_then_n ?_
    refine wp_seq ?_
    refine sx_region ?_
    refine sx_rd 10 (.string a0) (by rfl) (by kernel_rfl) ?_
    refine sx_rd 11 (.slice A1 l1.length c1) (by rfl) (by kernel_rfl) ?_
    obtain ⟨k_1, hk_k_1⟩ := Ev.rounds (taAsked_t a0 l1 hsz ht)
    refine sx_call 12 (by rfl) (by kernel_rfl) ((spec_taAsked.calls k_1 a0 A1 c1 l1 _ _ _ _ _ (hC1 _ hp) hc1 hk_k_1).mono ?_)
    rintro _ W_7 ⟨v_3, rfl, hR_2, hb⟩
    refine ⟨_, rfl, ?_⟩
    obtain ⟨A_4, c_5, rfl, hcc_c_5, _⟩ := Kd.R_reads hR_2
    obtain ⟨F_6, hp⟩ : ∃ F, Hp w (row (Kd.int .i64) 3 w.heap.size (.slice A_4 (cells a0).length c_5) (cells a0) F :: cs) _ := ⟨_, Hp.made hp hb hR_2⟩
    refine sx_rd 9 (.tuple #[.agg #[.int .i64 (Pure.w0 (rowsB a0) : Int), .int .i64 ((rowsB a0).length : Int), .slice A_4 ((cells a0).length) c_5], .bool (handB l1)]) (by rfl) (by kernel_rfl) ?_
    refine sx_rd 13 (.agg #[.int .i64 (Pure.w0 (rowsB a0) : Int), .int .i64 ((rowsB a0).length : Int), .slice A_4 ((cells a0).length) c_5]) (by rfl) (by kernel_rfl) ?_
    refine sx_rd 14 (.bool (handB l1)) (by rfl) (by kernel_rfl) ?_
    refine sx_box 6 hp #[.int .i64 0, .int .i64 0, .slice none 0 0] 36 (by rfl) (fun W => by kernel_rfl) ?_
    intro g_8 W_9 hp
    refine sx_store (t := 36) (p := (.tmp 6)) (x := (.tmp 13)) (by rfl) (by rfl) 0 (by rfl) 0 [.int .i64 (Pure.w0 (rowsB a0) : Int), .int .i64 ((rowsB a0).length : Int), .slice A_4 ((cells a0).length) c_5] (by rfl) (by rfl) (by kernel_rfl) (by simp [Value.oneCell']) (by show 3 ≤ 3; omega) #[.int .i64 (Pure.w0 (rowsB a0) : Int), .int .i64 ((rowsB a0).length : Int), .slice A_4 ((cells a0).length) c_5] (by rfl) hp ?_
    intro W_10 hp; simp only [List.set_cons_succ, List.set_cons_zero] at hp
    refine sx_rd 7 (.bool (handB l1)) (by rfl) (by kernel_rfl) ?_
    refine sx_nil ?_
    refine ex_then_n ?_
    refine wp_seq ?_
    refine wp_seq ?_
    refine sx_region ?_
    refine sx_rd 15 (.bool (handB l1)) (by rfl) (by kernel_rfl) ?_
    refine sx_rd 16 (.bool (!(handB l1))) (by rfl) (by kernel_rfl) ?_
    refine sx_nil ?_
    refine ex_then_n ?_
    refine sx_cond (!(handB l1)) (by rfl) (fun c_11 => ?_) (fun c_11 => ?_)
    ·
      refine wp_seq ?_
      refine sx_region ?_
      refine sx_rd 4 (.string (⟨#[]⟩ : ByteArray)) (by rfl) (by kernel_rfl) ?_
      refine sx_rd 5 (.bool false) (by rfl) (by kernel_rfl) ?_
      refine sx_nil ?_
      refine ex_then_n ?_
      refine wp_ret ?_
      refine ex_then_r ?_
      refine sx_end (.tuple #[.string (⟨#[]⟩ : ByteArray), .bool false]) (res2 4 5 (by rfl)) ?_
      rw [if_neg (by rw [show handB l1 = false from (not_eq c_11)]; simp)] at h
      simp only [Option.some.injEq, Prod.mk.injEq] at h; obtain ⟨rfl, rfl⟩ := h
      exact ⟨rfl, hc2 _ (hp.tail.tail)⟩
    ·
      have hl := hand_ok (show handB l1 = true from (not_eq c_11))
      refine wp_skip ?_
      refine ex_then_n ?_
      refine wp_seq ?_
      refine sx_region ?_
      refine sx_rd 17 (.agg #[.int .i64 (Pure.w0 (rowsB a0) : Int), .int .i64 ((rowsB a0).length : Int), .slice A_4 ((cells a0).length) c_5]) (by rfl) (ldn (t := 36) (p := (.tmp 6)) (by rfl) (by rfl) (by kernel_rfl) (by kernel_rfl) (by kernel_rfl) (hp.at_ 0 _ (by rfl))) ?_
      refine sx_rd 18 (.slice A1 l1.length c1) (by rfl) (by kernel_rfl) ?_
      refine sx_call 19 (by rfl) (by kernel_rfl) ((taApart_sx (cs := row (Kd.int .i64) 3 w.heap.size (.slice A_4 ((cells a0).length) c_5) (cells a0) F_6 :: blk g_8 #[.int .i64 (Pure.w0 (rowsB a0) : Int), .int .i64 ((rowsB a0).length : Int), .slice A_4 ((cells a0).length) c_5] 36 :: cs) (Pure.w0 (rowsB a0) : Int) ((rowsB a0).length : Int) 0 (cells a0) A_4 c_5 l1 A1 c1 (by omega) (by omega) (by omega) (by omega) hd.1 hd.2.2.1 (row_len ((hp.take [1, 0] 2 (by decide) (by simp)).at_ 0 _ (by rfl))).2 (fun W h => row_C (h.at_ 0 _ (by rfl))) (by omega) hc1 (fun W h => hC1 W h.tail.tail) (hp.take [1, 0] 2 (by decide) (by simp))).mono ?_)
      rintro _ W_12 ⟨g, gL, cL, FL, Fd, Af, cf, rfl, hcf, hp⟩
      refine ⟨_, rfl, ?_⟩
      replace hp : Hp w (blk g #[.int .i64 (Pure.w0 (rowsB a0) : Int), .int .i64 ((rowsB a0).length : Int), .slice A_4 ((cells a0).length) c_5, .bool false, .slice A1 l1.length c1, .slice (some ⟨gL, 0, none⟩) ((cells a0).length) cL, .slice Af ((addF 0 [] (lvsH a0 l1)).length) cf, .int .i64 (0 + ((lvsH a0 l1).length : Int)), .int .i64 0] 50 :: row (Kd.int .u8) 5 w.heap.size (.slice (some ⟨gL, 0, none⟩) ((cells a0).length) cL) (List.replicate (cells a0).length (0 : Int)) FL :: rowS (Kd.slice 5 (Kd.int .u8)) 42 w.heap.size (.slice Af ((addF 0 [] (lvsH a0 l1)).length) cf) (addF 0 [] (lvsH a0 l1)) Fd :: row (Kd.int .i64) 3 w.heap.size (.slice A_4 ((cells a0).length) c_5) (cells a0) F_6 :: blk g_8 #[.int .i64 (Pure.w0 (rowsB a0) : Int), .int .i64 ((rowsB a0).length : Int), .slice A_4 ((cells a0).length) c_5] 36 :: cs) W_12 := hp
      refine sx_rd 8 (.pointer (some ⟨g, 0, none⟩)) (by rfl) (by kernel_rfl) ?_
      refine sx_nil ?_
      refine ex_then_n ?_
      refine wp_seq ?_
      refine wp_seq ?_
      refine sx_region ?_
      refine sx_rd 20 (.pointer (some ⟨g, 0, none⟩)) (by rfl) (by kernel_rfl) ?_
      refine sx_rd 21 (.pointer (some ⟨g, 0, none⟩)) (by rfl) (by kernel_rfl) ?_
      refine sx_rd 22 (.pointer (some ⟨g, 7, none⟩)) (by rfl) (by kernel_rfl) ?_
      refine sx_rd 23 (.int .i64 (0 + ((lvsH a0 l1).length : Int))) (by rfl) (ld1 (t := 3) (p := (.tmp 22)) (by rfl) (by rfl) (by kernel_rfl) (hp.cell 0 (by rfl) 7 _ (by rfl))) ?_
      refine sx_rd 24 (.bool ((0 + ((lvsH a0 l1).length : Int)) == 0)) (by rfl) (by kernel_rfl) ?_
      refine sx_nil ?_
      refine ex_then_n ?_
      refine sx_cond ((0 + ((lvsH a0 l1).length : Int)) == 0) (by rfl) (fun c_13 => ?_) (fun c_13 => ?_)
      ·
        have c_13p := eq_of_beq_ c_13
        refine wp_seq ?_
        refine sx_region ?_
        refine sx_rd 4 (.string (⟨#[]⟩ : ByteArray)) (by rfl) (by kernel_rfl) ?_
        refine sx_rd 5 (.bool false) (by rfl) (by kernel_rfl) ?_
        refine sx_nil ?_
        refine ex_then_n ?_
        refine wp_ret ?_
        refine ex_then_r ?_
        refine sx_end (.tuple #[.string (⟨#[]⟩ : ByteArray), .bool false]) (res2 4 5 (by rfl)) ?_
        have hb : handB l1 = true := (not_eq c_11)
        rw [if_pos (by rw [ht, hb]; rfl)] at h
        have hL0 : lvsH a0 l1 = [] := List.eq_nil_of_length_eq_zero (by have q := c_13p; omega)
        rw [hL0] at h
        simp only [Option.some.injEq, Prod.mk.injEq] at h; obtain ⟨rfl, rfl⟩ := h
        exact ⟨rfl, hc2 _ (hp.tail.tail.tail.tail.tail)⟩
      ·
        have c_13p := ne_of_beq_ c_13
        obtain ⟨b, L2, hL2⟩ : ∃ b L2, lvsH a0 l1 = b :: L2 := List.exists_cons_of_ne_nil (fun q => by rw [q] at c_13p; simp at c_13p)
        have hF : addF 0 [] (lvsH a0 l1) = [b] := by rw [hL2]; exact addF_zero b L2
        have hbz := lvsH_at (s := a0) (hand := l1) (b := b) (by rw [hL2]; exact List.mem_cons_self)
        have hb1 : ([b] : List (List Int)).length = 1 := rfl
        rw [hF] at hp
        have hp := (hp.take [2, 0, 1, 3, 4] 5 (by decide) (by simp))
        have hp := Hp.pin hp
        obtain ⟨Ah, ch, hHc, -, hHl⟩ : ∃ A' c', W_12.cell? (adr Af ((0 : Nat) : Int) 1) = some (.slice A' [b][0].length c') ∧ _ ∧ [b][0].length ≤ c' := rowS_hdr (pin_ok (hp.at_ 0 _ (by rfl))) 0 (by simp)
        refine wp_skip ?_
        refine ex_then_n ?_
        refine wp_seq ?_
        refine sx_drawT [1, 2, 3] (.rd 0 (.rd 4 (.rd 5 (.rd 6 (.alt 7 (.rd 8 (.rd 9 (.fin))) .non))))) 10 (C := Hp w (pin (rowS (Kd.slice 5 (Kd.int .u8)) 42 w.heap.size (.slice Af ([b].length) cf) ([b]) Fd) W_12 :: blk g #[.int .i64 (Pure.w0 (rowsB a0) : Int), .int .i64 ((rowsB a0).length : Int), .slice A_4 ((cells a0).length) c_5, .bool false, .slice A1 l1.length c1, .slice (some ⟨gL, 0, none⟩) ((cells a0).length) cL, .slice Af ([b].length) cf, .int .i64 (0 + ((lvsH a0 l1).length : Int)), .int .i64 0] 50 :: row (Kd.int .u8) 5 w.heap.size (.slice (some ⟨gL, 0, none⟩) ((cells a0).length) cL) (List.replicate (cells a0).length (0 : Int)) FL :: row (Kd.int .i64) 3 w.heap.size (.slice A_4 ((cells a0).length) c_5) (cells a0) F_6 :: blk g_8 #[.int .i64 (Pure.w0 (rowsB a0) : Int), .int .i64 ((rowsB a0).length : Int), .slice A_4 ((cells a0).length) c_5] 36 :: cs)) (by kernel_rfl) (by kernel_rfl) (fun d _ _ _ _ h => by cases d <;> exact h) (fun W h => h.drew) hp ?_
        refine preI_read rfl ?_
        refine sxq_val 26 (.pointer (some ⟨g, 0, none⟩)) (by rfl) (fun W _ => (by kernel_rfl)) ?_
        refine sxq_nil ?_
        refine preI_read rfl ?_
        refine sxq_val 27 (.pointer (some ⟨g, 0, none⟩)) (by rfl) (fun W _ => (by kernel_rfl)) ?_
        refine sxq_nil ?_
        refine preI_read rfl ?_
        refine sxq_val 28 (.pointer (some ⟨g, 6, none⟩)) (by rfl) (fun W _ => (by kernel_rfl)) ?_
        refine sxq_nil ?_
        refine preI_nil ?_
        intro W_14 hp
        refine treeI_rd rfl ?_
        refine sxq_val 25 (.agg #[.int .i64 (Pure.w0 (rowsB a0) : Int), .int .i64 ((rowsB a0).length : Int), .slice A_4 ((cells a0).length) c_5]) (by rfl) (fun W hp => (ldn (t := 36) (p := (.tmp 6)) (by rfl) (by rfl) (by kernel_rfl) (by kernel_rfl) (by kernel_rfl) (hp.at_ 4 _ (by rfl)))) ?_
        refine sxq_nil ?_
        refine treeI_rd rfl ?_
        refine sxq_val 29 (.slice Af ([b].length) cf) (by rfl) (fun W hp => (ld1 (t := 48) (p := (.tmp 28)) (by rfl) (by rfl) (by kernel_rfl) (hp.cell 1 (by rfl) 6 _ (by rfl)))) ?_
        refine sxq_nil ?_
        refine treeI_rd rfl ?_
        refine sxq_val 30 (.pointer (some (adr Af 0 1))) (by rfl) (fun W hp => (ix_run (d := (Kd.slice 5 (Kd.int .u8))) (rowS_C (pin_ok (hp.at_ 0 _ (by rfl)))) (t := 48) (by rfl) (by rfl) (by rfl) Tryd.underlying48 (by kernel_rfl) (by omega) (by omega))) ?_
        refine sxq_nil ?_
        refine treeI_rd rfl ?_
        refine sxq_val 31 (.slice Ah b.length ch) (by rfl) (fun W hp => (ld1 (t := 42) (p := (.tmp 30)) (by rfl) (by rfl) (by kernel_rfl) (pin_at (hp.at_ 0 _ (by rfl)) 0 (by simp) hHc).1)) ?_
        refine sxq_nil ?_
        refine treeI_ev rfl ?_
        refine sx_call 32 (by rfl) (by kernel_rfl) ((spec_taText.calls (Pure.w0 (rowsB a0) : Int) ((rowsB a0).length : Int) A_4 c_5 (cells a0) Ah ch b _ _ (row_C (hp.at_ 3 _ (by rfl))) (row_len (hp.at_ 3 _ (by rfl))).2 (pin_at (hp.at_ 0 _ (by rfl)) 0 (by first | omega | simp) hHc).2 hHl (taText_eq hd.2.2.2.1 hd.2.2.2.2.1 hd.2.2.2.2.2.1 hd.2.2.2.2.2.2.1 (hbz.1.trans hd.2.1.symm) hbz.2)).mono ?_)
        rintro _ W_15 ⟨rfl, hb⟩
        refine ⟨_, rfl, ?_⟩
        replace hp := hp.below hb
        clear hb
        refine step_fin hp ?_
        refine treeI_rd rfl ?_
        refine sxq_val 4 (.string (formT (Pure.w0 (rowsB a0)) (rowsB a0).length b)) (by rfl) (fun W hp => (by kernel_rfl)) ?_
        refine sxq_nil ?_
        refine treeI_rd rfl ?_
        refine sxq_val 5 (.bool true) (by rfl) (fun W hp => (by kernel_rfl)) ?_
        refine sxq_nil ?_
        refine treeI_fin ?_
        refine sx_nil ?_
        refine ex_then_n ?_
        refine wp_ret ?_
        refine sx_end (.tuple #[.string (formT (Pure.w0 (rowsB a0)) (rowsB a0).length b), .bool true]) (res2 4 5 (by rfl)) ?_
        have hb : handB l1 = true := (not_eq c_11)
        rw [if_pos (by rw [ht, hb]; rfl)] at h
        rw [hL2] at h
        simp only [Option.some.injEq, Prod.mk.injEq] at h; obtain ⟨rfl, rfl⟩ := h
        exact ⟨rfl, hc2 _ (hp.tail.tail.tail.tail.tail)⟩
  · replace ht : isTab a0 = false := by simpa using ht
    refine sx_enter (N := 33) (l := [.string a0, .slice A1 l1.length c1]) Tryd.func13 rfl rfl rfl ?_
    refine wp_seq ?_
    refine sx_region ?_
    refine sx_rd 4 (.string (⟨#[]⟩ : ByteArray)) (by rfl) (by kernel_rfl) ?_
    refine sx_rd 5 (.bool false) (by rfl) (by kernel_rfl) ?_
    refine sx_nil ?_
    refine ex_then_n ?_
    refine wp_seq ?_
    refine sx_region ?_
    refine sx_rd 10 (.string a0) (by rfl) (by kernel_rfl) ?_
    refine sx_rd 11 (.slice A1 l1.length c1) (by rfl) (by kernel_rfl) ?_
    obtain ⟨k_1, hk_k_1⟩ := Ev.rounds (taAsked_f a0 l1 hsz ht)
    refine sx_call 12 (by rfl) (by kernel_rfl) ((spec_taAsked.calls k_1 a0 A1 c1 l1 _ _ _ _ _ (hC1 _ hp) hc1 hk_k_1).mono ?_)
    rintro _ W_7 ⟨v_3, rfl, hR_2, hb⟩
    refine ⟨_, rfl, ?_⟩
    obtain ⟨A_4, c_5, rfl, hcc_c_5, _⟩ := Kd.R_reads hR_2
    obtain ⟨F_6, hp⟩ : ∃ F, Hp w (row (Kd.int .i64) 3 w.heap.size (.slice A_4 ([] : List Int).length c_5) ([] : List Int) F :: cs) _ := ⟨_, Hp.made hp hb hR_2⟩
    refine sx_rd 9 (.tuple #[.agg #[.int .i64 0, .int .i64 0, .slice A_4 (([] : List Int).length) c_5], .bool false]) (by rfl) (by kernel_rfl) ?_
    refine sx_rd 13 (.agg #[.int .i64 0, .int .i64 0, .slice A_4 (([] : List Int).length) c_5]) (by rfl) (by kernel_rfl) ?_
    refine sx_rd 14 (.bool false) (by rfl) (by kernel_rfl) ?_
    refine sx_box 6 hp #[.int .i64 0, .int .i64 0, .slice none 0 0] 36 (by rfl) (fun W => by kernel_rfl) ?_
    intro g_8 W_9 hp
    refine sx_store (t := 36) (p := (.tmp 6)) (x := (.tmp 13)) (by rfl) (by rfl) 0 (by rfl) 0 [.int .i64 0, .int .i64 0, .slice A_4 (([] : List Int).length) c_5] (by rfl) (by rfl) (by kernel_rfl) (by simp [Value.oneCell']) (by show 3 ≤ 3; omega) #[.int .i64 0, .int .i64 0, .slice A_4 (([] : List Int).length) c_5] (by rfl) hp ?_
    intro W_10 hp; simp only [List.set_cons_succ, List.set_cons_zero] at hp
    refine sx_rd 7 (.bool false) (by rfl) (by kernel_rfl) ?_
    refine sx_nil ?_
    refine ex_then_n ?_
    refine wp_seq ?_
    refine wp_seq ?_
    refine sx_region ?_
    refine sx_rd 15 (.bool false) (by rfl) (by kernel_rfl) ?_
    refine sx_rd 16 (.bool true) (by rfl) (by kernel_rfl) ?_
    refine sx_nil ?_
    refine ex_then_n ?_
    refine sx_then true (by rfl) rfl ?_
    refine wp_seq ?_
    refine sx_region ?_
    refine sx_rd 4 (.string (⟨#[]⟩ : ByteArray)) (by rfl) (by kernel_rfl) ?_
    refine sx_rd 5 (.bool false) (by rfl) (by kernel_rfl) ?_
    refine sx_nil ?_
    refine ex_then_n ?_
    refine wp_ret ?_
    refine ex_then_r ?_
    refine sx_end (.tuple #[.string (⟨#[]⟩ : ByteArray), .bool false]) (res2 4 5 (by rfl)) ?_
    rw [if_neg (by rw [ht]; simp)] at h
    simp only [Option.some.injEq, Prod.mk.injEq] at h; obtain ⟨rfl, rfl⟩ := h
    exact ⟨rfl, hc2 _ (hp.tail.tail)⟩
end Go.Proofs.YtokkiiepddhkiaaDoor.Hd
