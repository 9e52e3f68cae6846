/- spec.CountApart, by hand. -/
import Derived.Test.YtokkiiepddhkiaaDoorMAptA
import Derived.Test.YtokkiiepddhkiaaDoorG2
import Derived.Test.YtokkiiepddhkiaaDoorMMx
import Derived.Test.YtokkiiepddhkiaaDoorMSx3
import Derived.Test.YtokkiiepddhkiaaDoorPApB
import Derived.Test.YtokkiiepddhkiaaDoorPDig
namespace Go.Proofs.YtokkiiepddhkiaaDoor.Pure
open Go Go.RowKit Go.Proofs.YtokkiiepddhkiaaDoor.Hd Go.Proofs.YtokkiiepddhkiaaDoorW.PrintWords Go.Proofs.YtokkiiepddhkiaaDoorW.PrintLast
set_option linter.unusedVariables false
set_option linter.unusedSimpArgs false
end Go.Proofs.YtokkiiepddhkiaaDoor.Pure
namespace Go.Proofs.YtokkiiepddhkiaaDoor.Hd
open Go.RowKit Go.Proofs.YtokkiiepddhkiaaDoor.Pure Go.Proofs.YtokkiiepddhkiaaDoorW.PrintWords Go.Proofs.YtokkiiepddhkiaaDoorW.PrintLast Go.Proofs.YtokkiiepddhkiaaDoorW.PrintMore
set_option linter.unusedVariables false
set_option linter.unusedSimpArgs false
theorem taAsked_t (s : ByteArray) (l : List S_Tile) (hs : s.size ≤ 1048576) (ht : isTab s = true) : Ev (fun k => spec_taAsked.f k s l) ((Pure.w0 (rowsB s) : Int), ((rowsB s).length : Int), cells s, handB l) := by
  have q := taAsked_ev s l hs; unfold askF at q; rw [if_pos ht] at q; exact q
theorem taAsked_f (s : ByteArray) (l : List S_Tile) (hs : s.size ≤ 1048576) (ht : isTab s = false) : Ev (fun k => spec_taAsked.f k s l) (0, 0, [], false) := by
  have q := taAsked_ev s l hs; unfold askF at q; rw [if_neg (by rw [ht]; simp)] at q; exact q
def spec_CountApart.f (a0 : ByteArray) (l1 : List S_Tile) : Option (Int × Bool) := if a0.size ≤ 1048576 then (if (isTab a0 && handB l1) = true then some (((lvsH a0 l1).length : Int), true) else some (0, false)) else none
set_option maxRecDepth 100000 in
set_option maxHeartbeats 40000000 in
theorem spec_CountApart.calls (a0 : ByteArray) (A1 : Option Addr) (c1 : Nat) (l1 : List S_Tile) (r0 : Int) (r1 : Bool) (w : World) (hr1 : Kd.C k54 w A1 l1.length l1) (hc1 : l1.length ≤ c1) (hmx : ∃ m, w.cell? ⟨0, 0, none⟩ = some (.int .i64 m)) (h : spec_CountApart.f a0 l1 = some (r0, r1)) :
    Calls Tryd.prog 9 #[.string a0, .slice A1 l1.length c1] w fun e w' => e = .returned (.tuple #[.int .i64 r0, .bool r1]) ∧ Below w.heap.size w w' := by
  unfold spec_CountApart.f at h
  by_cases hsz : a0.size ≤ 1048576
  case neg => rw [if_neg hsz] at h; cases h
  rw [if_pos hsz] at h
  obtain ⟨cs, hcs⟩ : ∃ cs, cs = [old w w.heap.size] := ⟨_, rfl⟩
  have hp : Hp w cs w := by rw [hcs]; exact Hp.old_start w
  have hc2 : ∀ W, Hp w cs W → Below w.heap.size w W := fun W h => by rw [hcs] at h; exact h.since 0 _ rfl
  have hC1 : ∀ W, Hp w cs W → Kd.C k54 W A1 l1.length l1 := fun W h => Kd.C_below hr1 (hc2 W h)
  have hM : ∀ W, Hp w cs W → ∃ m, W.cell? ⟨0, 0, none⟩ = some (.int .i64 m) := fun W h => hmx.imp fun m q => ((hc2 W h).cell (World.block_lt_of_cell? _ _ q)).trans q
  clear hcs
  by_cases ht : isTab a0 = true
  ·
    have hd := tab_dim ht
    refine sx_enter (N := 22) (l := [.string a0, .slice A1 l1.length c1]) Tryd.func9 rfl rfl rfl ?_
    refine wp_seq ?_
    refine sx_region ?_
    refine sx_rd 4 (.int .i64 0) (by rfl) (by kernel_rfl) ?_
    refine sx_rd 5 (.bool false) (by rfl) (by kernel_rfl) ?_
    refine sx_nil ?_
    refine ex_then_n ?_
    refine wp_seq ?_
    refine sx_region ?_
    refine sx_rd 9 (.string a0) (by rfl) (by kernel_rfl) ?_
    refine sx_rd 10 (.slice A1 l1.length c1) (by rfl) (by kernel_rfl) ?_
    obtain ⟨k_1, hk_k_1⟩ := Ev.rounds (taAsked_t a0 l1 hsz ht)
    refine sx_call 11 (by rfl) (by kernel_rfl) ((spec_taAsked.calls k_1 a0 A1 c1 l1 _ _ _ _ _ (hC1 _ hp) hc1 hk_k_1).mono ?_)
    rintro _ W_7 ⟨v_3, rfl, hR_2, hb⟩
    refine ⟨_, rfl, ?_⟩
    obtain ⟨A_4, c_5, rfl, hcc_c_5, _⟩ := Kd.R_reads hR_2
    obtain ⟨F_6, hp⟩ : ∃ F, Hp w (row (Kd.int .i64) 3 w.heap.size (.slice A_4 (cells a0).length c_5) (cells a0) F :: cs) _ := ⟨_, Hp.made hp hb hR_2⟩
    refine sx_rd 8 (.tuple #[.agg #[.int .i64 (Pure.w0 (rowsB a0) : Int), .int .i64 ((rowsB a0).length : Int), .slice A_4 ((cells a0).length) c_5], .bool (handB l1)]) (by rfl) (by kernel_rfl) ?_
    refine sx_rd 12 (.agg #[.int .i64 (Pure.w0 (rowsB a0) : Int), .int .i64 ((rowsB a0).length : Int), .slice A_4 ((cells a0).length) c_5]) (by rfl) (by kernel_rfl) ?_
    refine sx_rd 13 (.bool (handB l1)) (by rfl) (by kernel_rfl) ?_
    refine sx_box 6 hp #[.int .i64 0, .int .i64 0, .slice none 0 0] 36 (by rfl) (fun W => by kernel_rfl) ?_
    intro g_8 W_9 hp
    refine sx_store (t := 36) (p := (.tmp 6)) (x := (.tmp 12)) (by rfl) (by rfl) 0 (by rfl) 0 [.int .i64 (Pure.w0 (rowsB a0) : Int), .int .i64 ((rowsB a0).length : Int), .slice A_4 ((cells a0).length) c_5] (by rfl) (by rfl) (by kernel_rfl) (by simp [Value.oneCell']) (by show 3 ≤ 3; omega) #[.int .i64 (Pure.w0 (rowsB a0) : Int), .int .i64 ((rowsB a0).length : Int), .slice A_4 ((cells a0).length) c_5] (by rfl) hp ?_
    intro W_10 hp; simp only [List.set_cons_succ, List.set_cons_zero] at hp
    refine sx_rd 7 (.bool (handB l1)) (by rfl) (by kernel_rfl) ?_
    refine sx_nil ?_
    refine ex_then_n ?_
    refine wp_seq ?_
    refine wp_seq ?_
    refine sx_region ?_
    refine sx_rd 14 (.bool (handB l1)) (by rfl) (by kernel_rfl) ?_
    refine sx_rd 15 (.bool (!(handB l1))) (by rfl) (by kernel_rfl) ?_
    refine sx_nil ?_
    refine ex_then_n ?_
    refine sx_cond (!(handB l1)) (by rfl) (fun c_11 => ?_) (fun c_11 => ?_)
    ·
      refine wp_seq ?_
      refine sx_region ?_
      refine sx_rd 4 (.int .i64 0) (by rfl) (by kernel_rfl) ?_
      refine sx_rd 5 (.bool false) (by rfl) (by kernel_rfl) ?_
      refine sx_nil ?_
      refine ex_then_n ?_
      refine wp_ret ?_
      refine ex_then_r ?_
      refine sx_end (.tuple #[.int .i64 0, .bool false]) (res2 4 5 (by rfl)) ?_
      rw [if_neg (by rw [show handB l1 = false from (not_eq c_11)]; simp)] at h
      simp only [Option.some.injEq, Prod.mk.injEq] at h; obtain ⟨rfl, rfl⟩ := h
      exact ⟨rfl, hc2 _ (hp.tail.tail)⟩
    ·
      have hl := hand_ok (show handB l1 = true from (not_eq c_11))
      refine wp_skip ?_
      refine ex_then_n ?_
      refine wp_seq ?_
      refine sx_region ?_
      refine sx_rd 16 (.agg #[.int .i64 (Pure.w0 (rowsB a0) : Int), .int .i64 ((rowsB a0).length : Int), .slice A_4 ((cells a0).length) c_5]) (by rfl) (ldn (t := 36) (p := (.tmp 6)) (by rfl) (by rfl) (by kernel_rfl) (by kernel_rfl) (by kernel_rfl) (hp.at_ 0 _ (by rfl))) ?_
      refine sx_rd 17 (.slice A1 l1.length c1) (by rfl) (by kernel_rfl) ?_
      refine sx_call 18 (by rfl) (by kernel_rfl) ((taApart_sx (cs := row (Kd.int .i64) 3 w.heap.size (.slice A_4 ((cells a0).length) c_5) (cells a0) F_6 :: blk g_8 #[.int .i64 (Pure.w0 (rowsB a0) : Int), .int .i64 ((rowsB a0).length : Int), .slice A_4 ((cells a0).length) c_5] 36 :: cs) (Pure.w0 (rowsB a0) : Int) ((rowsB a0).length : Int) 0 (cells a0) A_4 c_5 l1 A1 c1 (by omega) (by omega) (by omega) (by omega) hd.1 hd.2.2.1 (row_len ((hp.take [1, 0] 2 (by decide) (by simp)).at_ 0 _ (by rfl))).2 (fun W h => row_C (h.at_ 0 _ (by rfl))) (by omega) hc1 (fun W h => hC1 W h.tail.tail) (hp.take [1, 0] 2 (by decide) (by simp))).mono ?_)
      rintro _ W_12 ⟨g, gL, cL, FL, Fd, Af, cf, rfl, hcf, hp⟩
      refine ⟨_, rfl, ?_⟩
      replace hp : Hp w (blk g #[.int .i64 (Pure.w0 (rowsB a0) : Int), .int .i64 ((rowsB a0).length : Int), .slice A_4 ((cells a0).length) c_5, .bool false, .slice A1 l1.length c1, .slice (some ⟨gL, 0, none⟩) ((cells a0).length) cL, .slice Af ((addF 0 [] (lvsH a0 l1)).length) cf, .int .i64 (0 + ((lvsH a0 l1).length : Int)), .int .i64 0] 50 :: row (Kd.int .u8) 5 w.heap.size (.slice (some ⟨gL, 0, none⟩) ((cells a0).length) cL) (List.replicate (cells a0).length (0 : Int)) FL :: rowS (Kd.slice 5 (Kd.int .u8)) 42 w.heap.size (.slice Af ((addF 0 [] (lvsH a0 l1)).length) cf) (addF 0 [] (lvsH a0 l1)) Fd :: row (Kd.int .i64) 3 w.heap.size (.slice A_4 ((cells a0).length) c_5) (cells a0) F_6 :: blk g_8 #[.int .i64 (Pure.w0 (rowsB a0) : Int), .int .i64 ((rowsB a0).length : Int), .slice A_4 ((cells a0).length) c_5] 36 :: cs) W_12 := hp
      refine sx_rd 19 (.pointer (some ⟨g, 0, none⟩)) (by rfl) (by kernel_rfl) ?_
      refine sx_rd 20 (.pointer (some ⟨g, 7, none⟩)) (by rfl) (by kernel_rfl) ?_
      refine sx_rd 21 (.int .i64 (0 + ((lvsH a0 l1).length : Int))) (by rfl) (ld1 (t := 3) (p := (.tmp 20)) (by rfl) (by rfl) (by kernel_rfl) (hp.cell 0 (by rfl) 7 _ (by rfl))) ?_
      refine sx_rd 4 (.int .i64 (0 + ((lvsH a0 l1).length : Int))) (by rfl) (by kernel_rfl) ?_
      refine sx_rd 5 (.bool true) (by rfl) (by kernel_rfl) ?_
      refine sx_nil ?_
      refine ex_then_n ?_
      refine wp_ret ?_
      refine sx_end (.tuple #[.int .i64 (0 + ((lvsH a0 l1).length : Int)), .bool true]) (res2 4 5 (by rfl)) ?_
      have hb : handB l1 = true := (not_eq c_11)
      rw [if_pos (by rw [ht, hb]; rfl)] at h
      rw [← Int.zero_add ((lvsH a0 l1).length : Int)] at h
      simp only [Option.some.injEq, Prod.mk.injEq] at h; obtain ⟨rfl, rfl⟩ := h
      exact ⟨rfl, hc2 _ (hp.tail.tail.tail.tail.tail)⟩
  · replace ht : isTab a0 = false := by simpa using ht
    refine sx_enter (N := 22) (l := [.string a0, .slice A1 l1.length c1]) Tryd.func9 rfl rfl rfl ?_
    refine wp_seq ?_
    refine sx_region ?_
    refine sx_rd 4 (.int .i64 0) (by rfl) (by kernel_rfl) ?_
    refine sx_rd 5 (.bool false) (by rfl) (by kernel_rfl) ?_
    refine sx_nil ?_
    refine ex_then_n ?_
    refine wp_seq ?_
    refine sx_region ?_
    refine sx_rd 9 (.string a0) (by rfl) (by kernel_rfl) ?_
    refine sx_rd 10 (.slice A1 l1.length c1) (by rfl) (by kernel_rfl) ?_
    obtain ⟨k_1, hk_k_1⟩ := Ev.rounds (taAsked_f a0 l1 hsz ht)
    refine sx_call 11 (by rfl) (by kernel_rfl) ((spec_taAsked.calls k_1 a0 A1 c1 l1 _ _ _ _ _ (hC1 _ hp) hc1 hk_k_1).mono ?_)
    rintro _ W_7 ⟨v_3, rfl, hR_2, hb⟩
    refine ⟨_, rfl, ?_⟩
    obtain ⟨A_4, c_5, rfl, hcc_c_5, _⟩ := Kd.R_reads hR_2
    obtain ⟨F_6, hp⟩ : ∃ F, Hp w (row (Kd.int .i64) 3 w.heap.size (.slice A_4 ([] : List Int).length c_5) ([] : List Int) F :: cs) _ := ⟨_, Hp.made hp hb hR_2⟩
    refine sx_rd 8 (.tuple #[.agg #[.int .i64 0, .int .i64 0, .slice A_4 (([] : List Int).length) c_5], .bool false]) (by rfl) (by kernel_rfl) ?_
    refine sx_rd 12 (.agg #[.int .i64 0, .int .i64 0, .slice A_4 (([] : List Int).length) c_5]) (by rfl) (by kernel_rfl) ?_
    refine sx_rd 13 (.bool false) (by rfl) (by kernel_rfl) ?_
    refine sx_box 6 hp #[.int .i64 0, .int .i64 0, .slice none 0 0] 36 (by rfl) (fun W => by kernel_rfl) ?_
    intro g_8 W_9 hp
    refine sx_store (t := 36) (p := (.tmp 6)) (x := (.tmp 12)) (by rfl) (by rfl) 0 (by rfl) 0 [.int .i64 0, .int .i64 0, .slice A_4 (([] : List Int).length) c_5] (by rfl) (by rfl) (by kernel_rfl) (by simp [Value.oneCell']) (by show 3 ≤ 3; omega) #[.int .i64 0, .int .i64 0, .slice A_4 (([] : List Int).length) c_5] (by rfl) hp ?_
    intro W_10 hp; simp only [List.set_cons_succ, List.set_cons_zero] at hp
    refine sx_rd 7 (.bool false) (by rfl) (by kernel_rfl) ?_
    refine sx_nil ?_
    refine ex_then_n ?_
    refine wp_seq ?_
    refine wp_seq ?_
    refine sx_region ?_
    refine sx_rd 14 (.bool false) (by rfl) (by kernel_rfl) ?_
    refine sx_rd 15 (.bool true) (by rfl) (by kernel_rfl) ?_
    refine sx_nil ?_
    refine ex_then_n ?_
    refine sx_then true (by rfl) rfl ?_
    refine wp_seq ?_
    refine sx_region ?_
    refine sx_rd 4 (.int .i64 0) (by rfl) (by kernel_rfl) ?_
    refine sx_rd 5 (.bool false) (by rfl) (by kernel_rfl) ?_
    refine sx_nil ?_
    refine ex_then_n ?_
    refine wp_ret ?_
    refine ex_then_r ?_
    refine sx_end (.tuple #[.int .i64 0, .bool false]) (res2 4 5 (by rfl)) ?_
    rw [if_neg (by rw [ht]; simp)] at h
    simp only [Option.some.injEq, Prod.mk.injEq] at h; obtain ⟨rfl, rfl⟩ := h
    exact ⟨rfl, hc2 _ (hp.tail.tail)⟩
end Go.Proofs.YtokkiiepddhkiaaDoor.Hd
