/- impl.IsBlock, by hand (its function literal captures the rows, which therefore stand in memory). -/
import Derived.Test.YtipkmbgebpeeoaaMIdxRow
import Derived.Test.YtipkmbgebpeeoaaMWithin
import Derived.Test.YtipkmbgebpeeoaaG0
import Derived.Test.YtipkmbgebpeeoaaG1
import Derived.Test.YtipkmbgebpeeoaaG2
import Derived.Test.YtipkmbgebpeeoaaG2
namespace Go.Proofs.Ytipkmbgebpeeoaa.Hd
open Go.RowKit Go.Proofs.YtipkmbgebpeeoaaW.PrintWords Go.Proofs.YtipkmbgebpeeoaaW.PrintLast Go.Proofs.YtipkmbgebpeeoaaW.PrintMore
set_option linter.unusedVariables false
set_option linter.unusedSimpArgs false
theorem clo_block (b : Nat) (A0 : Addr) (c0 n0 cc0 : Nat) (A1 : Option Addr) (m : Nat) (x : Option Addr) (nx cx : Nat) (w : World) (hb : w.cell? ⟨b, 0, none⟩ = some (.slice (some A0) m c0)) (hm : 0 < m) (h0 : w.cell? A0 = some (.slice A1 n0 cc0)) :
    Calls Try.prog 27 (#[.slice x nx cx] ++ #[.pointer (some ⟨b, 0, none⟩)]) w fun e w' => e = .returned (.bool (!decide ((nx : Int) = (n0 : Int)))) ∧ Below w.heap.size w w' := by
  have hmz : decide ((0 : Int) < (m : Int)) = true := decide_eq_true (by omega)
  obtain ⟨q, hq⟩ : ∃ q, decide ((nx : Int) = (n0 : Int)) = q := ⟨_, rfl⟩
  rw [hq]
  go_enter Try.func27, Try.ntmps27
  go_wp2
  go_ret
  exact ⟨by rw [← hq]; rfl, Below.refl _ _⟩
def sameLen (l : List (List Int)) : Bool := l.all fun row => decide ((row.length : Int) = ((rd_i64s l 0).length : Int))
def rowsB (l : List (List Int)) : Bool := decide (1 ≤ (l.length : Int)) && decide ((l.length : Int) ≤ 3)
def impl_IsBlock.f (k : Nat) (l0 : List (List Int)) : Option Bool :=
  if rowsB l0 = true then (if sameLen l0 = true then ((slices_Concat_int_int.f k l0).bind fun all =>
    if ((rd_i64s l0 0).length : Int) = 2 ∨ ((rd_i64s l0 0).length : Int) = 4 then (if all.all (inB 0 9) = true then ((impl_tilesIn.f k all).bind fun ts => impl_areDifferent_impl_Tile.f k ts) else some false) else some false) else some false) else some false
theorem within_rows (l : List (List Int)) : impl_within.f (l.length : Int) 1 3 = some (rowsB l) := by
  unfold impl_within.f rowsB
  by_cases h : 1 ≤ (l.length : Int)
  · rw [if_pos h]; simp [h]
  · rw [if_neg h]; simp [h]
set_option maxHeartbeats 4000000 in
theorem impl_IsBlock.calls (k : Nat) (A0 : Option Addr) (c0 : Nat) (l0 : List (List Int)) (r : Bool) (w : World) (hr0 : Kd.C (Kd.slice 3 (Kd.int .i64)) w A0 l0.length l0) (hc0 : l0.length ≤ c0) (h : impl_IsBlock.f k l0 = some r) :
    Calls Try.prog 16 #[.slice A0 l0.length c0] w fun e w' => e = .returned (.bool r) ∧ Below w.heap.size w w' := by
  have HR : Aside0 (∀ W, Below w.heap.size w W → Kd.C (Kd.slice 3 (Kd.int .i64)) W A0 l0.length l0) := ⟨fun W hb => Kd.C_below hr0 hb⟩
  have hwi := within_rows l0
  unfold impl_IsBlock.f at h
  obtain ⟨b1, hb1⟩ : ∃ b, rowsB l0 = b := ⟨_, rfl⟩
  rw [hb1] at h hwi
  have HW := Aside0.mk hwi
  clear hwi
  cases b1 with
  | false =>
    rw [if_neg (by simp)] at h
    obtain rfl := Option.some.inj h
    clear h hr0
    go_enter Try.func16, Try.ntmps16
    go_wp2_with (go_at_call 25; refine (impl_within.calls _ _ _ _ _ HW.out).mono ?_; rintro e w1 ⟨rfl, ⟨q1, rfl⟩⟩)
    go_ret
    exact ⟨rfl, pw_below_drewN ((Below.refl _ _).alloc (Nat.le_refl _) _) _⟩
  | true =>
    rw [if_pos rfl] at h
    have hlen : 1 ≤ (l0.length : Int) := by
      have := hb1
      simp only [rowsB, Bool.and_eq_true, decide_eq_true_eq] at this
      exact this.1
    obtain ⟨ad, A1, cc0, rfl, h0, _, _⟩ := at_i64s hr0 0 (Int.le_refl _) (by omega)
    simp only [Int.toNat_zero] at h0
    have h0' : w.cell? ad = some (.slice A1 (rd_i64s l0 0).length cc0) := by simpa [Addr.add] using h0
    have HX : Aside0 (∀ W, Below w.heap.size w W → W.cell? ad = some (.slice A1 (rd_i64s l0 0).length cc0)) := ⟨fun W hb => (hb.cell (block_lt_of_cell h0')).trans h0'⟩
    have HC : ∀ W, Below w.heap.size w W → W.cell? ⟨w.heap.size, 0, none⟩ = some (.slice (some ad) l0.length c0) → w.heap.size < W.heap.size → RGives 27 #[.pointer (some ⟨w.heap.size, 0, none⟩)] (fun row => !decide ((row.length : Int) = ((rd_i64s l0 0).length : Int))) W := by
      intro W hb hc hlt W2 A c x hb2 _ _
      exact clo_block w.heap.size ad c0 (rd_i64s l0 0).length cc0 A1 l0.length A x.length c W2 ((hb2.cell hlt).trans hc) (by omega) (HX.out _ (hb.trans (hb2.mono hb.size)))
    replace HC := Aside0.mk HC
    have hany : (l0.any fun row => !decide ((row.length : Int) = ((rd_i64s l0 0).length : Int))) = !sameLen l0 := by rw [sameLen, ← List.not_all_eq_any_not]
    replace hany := Aside0.mk hany
    clear hr0 h0 h0'
    obtain ⟨b2, hb2⟩ : ∃ b, sameLen l0 = b := ⟨_, rfl⟩
    rw [hb2] at h hany
    clear hb1 hb2
    have hlz : decide ((0 : Int) < (l0.length : Int)) = true := decide_eq_true (by omega)
    cases b2 with
    | false =>
      rw [if_neg (by simp)] at h
      obtain rfl := Option.some.inj h
      clear h
      go_enter Try.func16, Try.ntmps16
      go_wp2_with (first | (go_at_call 25; refine (impl_within.calls _ _ _ _ _ HW.out).mono ?_; rintro e w1 ⟨rfl, ⟨q1, rfl⟩⟩) | (go_at_call 26; refine (contFuncR 27 #[.pointer (some ⟨w.heap.size, 0, none⟩)] _ (enters_of Try.func27 (by kernel_rfl) rfl) (some ad) c0 l0 _ (HR.out _ (pw_below_drewN ((Below.refl _ _).alloc (Nat.le_refl _) _) _)) (HC.out _ (pw_below_drewN ((Below.refl _ _).alloc (Nat.le_refl _) _) _) (by simp) (by simp))).mono ?_; rw [hany.out]; rintro e w2 ⟨rfl, hb⟩; replace hb := Aside0.mk hb))
      go_ret
      exact ⟨rfl, Below.trans (pw_below_drewN ((Below.refl _ _).alloc (Nat.le_refl _) _) _) (hb.out.mono (by simp))⟩
    | true =>
      rw [if_pos rfl] at h
      obtain ⟨all, hall, h2⟩ := Option.bind_eq_some_iff.1 h
      clear h
      replace hall := Aside0.mk hall
      have HBox : ∀ W : World, Below (w.heap.size + 1) (w.alloc (.cells #[.slice (some ad) l0.length c0] 22 (0, 0))) W → W.cell? ⟨w.heap.size, 0, none⟩ = some (.slice (some ad) l0.length c0) := by
        intro W hb
        rw [hb.cell (by simp)]
        simp
      replace HBox := Aside0.mk HBox
      have HPre : ∀ W : World, Below (w.heap.size + 1) (w.alloc (.cells #[.slice (some ad) l0.length c0] 22 (0, 0))) W → Below w.heap.size w W := by
        intro W hb
        exact ((Below.refl _ _).alloc (Nat.le_refl _) _).trans (hb.mono (by omega))
      replace HPre := Aside0.mk HPre
      have HSz : ∀ W : World, Below (w.heap.size + 1) (w.alloc (.cells #[.slice (some ad) l0.length c0] 22 (0, 0))) W → w.heap.size + 1 ≤ W.heap.size := by
        intro W hb
        have := hb.size
        simpa using this
      replace HSz := Aside0.mk HSz
      by_cases hn : ((rd_i64s l0 0).length : Int) = 2 ∨ ((rd_i64s l0 0).length : Int) = 4
      · rw [if_pos hn] at h2
        by_cases ha : all.all (inB 0 9) = true
        · rw [if_pos ha] at h2
          have hwit := Aside0.mk (show impl_areWithin.f all 0 9 = some true by simp only [impl_areWithin.f, ha])
          clear ha
          obtain ⟨ts, hts, hdif⟩ := Option.bind_eq_some_iff.1 h2
          clear h2
          replace hts := Aside0.mk hts
          replace hdif := Aside0.mk hdif
          by_cases hn2 : ((rd_i64s l0 0).length : Int) = 2
          · have n2 := decide_eq_true hn2
            clear hn
            go_enter Try.func16, Try.ntmps16
            go_wp2_with (first | (go_at_call 25; refine (impl_within.calls _ _ _ _ _ HW.out).mono ?_; rintro e w1 ⟨rfl, ⟨q1, rfl⟩⟩) | (go_at_call 26; refine (contFuncR 27 #[.pointer (some ⟨w.heap.size, 0, none⟩)] _ (enters_of Try.func27 (by kernel_rfl) rfl) (some ad) c0 l0 _ (HR.out _ (pw_below_drewN ((Below.refl _ _).alloc (Nat.le_refl _) _) _)) (HC.out _ (pw_below_drewN ((Below.refl _ _).alloc (Nat.le_refl _) _) _) (by simp) (by simp))).mono ?_; rw [hany.out]; rintro e w2 ⟨rfl, hb⟩; replace hb := Aside0.mk (Below.trans (pw_below_drewN (Below.refl (w.heap.size + 1) (w.alloc (.cells #[.slice (some ad) l0.length c0] 22 (0, 0)))) _) (hb.mono (by simp))); have hbx := HBox.out _ hb.out; have hz2 := HSz.out _ hb.out) | (go_at_call 28; refine (slices_Concat_int_int.calls k (some ad) c0 l0 all _ (HR.out _ (HPre.out _ hb.out)) hc0 hall.out).mono ?_; rintro e w3 ⟨v3, rfl, hR3, hb3⟩; obtain ⟨A3, c3, rfl, hc3, hC3⟩ := Kd.R_reads hR3; clear hR3; have hC3 := Aside0.mk hC3; have hb4 := Aside0.mk (hb.out.trans (hb3.mono hz2)); have hbx := HBox.out _ hb4.out; have hz3 := HSz.out _ hb4.out; have hax := HX.out _ (HPre.out _ hb4.out)) | (go_at_call 17; refine (impl_areWithin.calls A3 c3 all 0 9 _ _ hC3.out hc3 hwit.out).mono ?_; rintro e w4 ⟨rfl, hb5⟩; have hb6 := Aside0.mk (hb4.out.trans (hb5.mono hz3)); have hz4 := HSz.out _ hb6.out; have hC4 := Aside0.mk (Kd.C_below hC3.out hb5)) | (go_at_call 30; refine (impl_tilesIn.calls k A3 c3 all ts _ hC4.out hc3 hts.out).mono ?_; rintro e w5 ⟨v5, rfl, hR5, hb7⟩; obtain ⟨A5, c5, rfl, hc5, hC5⟩ := Kd.R_reads hR5; clear hR5; have hC5 := Aside0.mk hC5; have hb8 := Aside0.mk (hb6.out.trans (hb7.mono hz4)); have hz5 := HSz.out _ hb8.out) | (go_at_call 29; refine (impl_areDifferent_impl_Tile.calls k A5 c5 ts r _ hC5.out hc5 hdif.out).mono ?_; rintro e w6 ⟨rfl, hb9⟩; have hb10 := Aside0.mk (hb8.out.trans (hb9.mono hz5))))
            all_goals first | (exact absurd ‹_› (by assumption)) | (go_ret; exact ⟨by first | rfl | simp, HPre.out _ hb10.out⟩) | (exfalso; omega)
          · have n2 := decide_eq_false hn2
            have hn4 := hn.resolve_left hn2
            have n4 := decide_eq_true hn4
            clear hn
            go_enter Try.func16, Try.ntmps16
            go_wp2_with (first | (go_at_call 25; refine (impl_within.calls _ _ _ _ _ HW.out).mono ?_; rintro e w1 ⟨rfl, ⟨q1, rfl⟩⟩) | (go_at_call 26; refine (contFuncR 27 #[.pointer (some ⟨w.heap.size, 0, none⟩)] _ (enters_of Try.func27 (by kernel_rfl) rfl) (some ad) c0 l0 _ (HR.out _ (pw_below_drewN ((Below.refl _ _).alloc (Nat.le_refl _) _) _)) (HC.out _ (pw_below_drewN ((Below.refl _ _).alloc (Nat.le_refl _) _) _) (by simp) (by simp))).mono ?_; rw [hany.out]; rintro e w2 ⟨rfl, hb⟩; replace hb := Aside0.mk (Below.trans (pw_below_drewN (Below.refl (w.heap.size + 1) (w.alloc (.cells #[.slice (some ad) l0.length c0] 22 (0, 0)))) _) (hb.mono (by simp))); have hbx := HBox.out _ hb.out; have hz2 := HSz.out _ hb.out) | (go_at_call 28; refine (slices_Concat_int_int.calls k (some ad) c0 l0 all _ (HR.out _ (HPre.out _ hb.out)) hc0 hall.out).mono ?_; rintro e w3 ⟨v3, rfl, hR3, hb3⟩; obtain ⟨A3, c3, rfl, hc3, hC3⟩ := Kd.R_reads hR3; clear hR3; have hC3 := Aside0.mk hC3; have hb4 := Aside0.mk (hb.out.trans (hb3.mono hz2)); have hbx := HBox.out _ hb4.out; have hz3 := HSz.out _ hb4.out; have hax := HX.out _ (HPre.out _ hb4.out)) | (go_at_call 17; refine (impl_areWithin.calls A3 c3 all 0 9 _ _ hC3.out hc3 hwit.out).mono ?_; rintro e w4 ⟨rfl, hb5⟩; have hb6 := Aside0.mk (hb4.out.trans (hb5.mono hz3)); have hz4 := HSz.out _ hb6.out; have hC4 := Aside0.mk (Kd.C_below hC3.out hb5)) | (go_at_call 30; refine (impl_tilesIn.calls k A3 c3 all ts _ hC4.out hc3 hts.out).mono ?_; rintro e w5 ⟨v5, rfl, hR5, hb7⟩; obtain ⟨A5, c5, rfl, hc5, hC5⟩ := Kd.R_reads hR5; clear hR5; have hC5 := Aside0.mk hC5; have hb8 := Aside0.mk (hb6.out.trans (hb7.mono hz4)); have hz5 := HSz.out _ hb8.out) | (go_at_call 29; refine (impl_areDifferent_impl_Tile.calls k A5 c5 ts r _ hC5.out hc5 hdif.out).mono ?_; rintro e w6 ⟨rfl, hb9⟩; have hb10 := Aside0.mk (hb8.out.trans (hb9.mono hz5))))
            all_goals first | (exact absurd ‹_› (by assumption)) | (go_ret; exact ⟨by first | rfl | simp, HPre.out _ hb10.out⟩) | (exfalso; omega)
        · rw [if_neg ha] at h2
          obtain rfl := Option.some.inj h2
          clear h2
          have hwit := Aside0.mk (show impl_areWithin.f all 0 9 = some false by simp only [impl_areWithin.f, Bool.eq_false_iff.2 ha])
          clear ha
          by_cases hn2 : ((rd_i64s l0 0).length : Int) = 2
          · have n2 := decide_eq_true hn2
            clear hn
            go_enter Try.func16, Try.ntmps16
            go_wp2_with (first | (go_at_call 25; refine (impl_within.calls _ _ _ _ _ HW.out).mono ?_; rintro e w1 ⟨rfl, ⟨q1, rfl⟩⟩) | (go_at_call 26; refine (contFuncR 27 #[.pointer (some ⟨w.heap.size, 0, none⟩)] _ (enters_of Try.func27 (by kernel_rfl) rfl) (some ad) c0 l0 _ (HR.out _ (pw_below_drewN ((Below.refl _ _).alloc (Nat.le_refl _) _) _)) (HC.out _ (pw_below_drewN ((Below.refl _ _).alloc (Nat.le_refl _) _) _) (by simp) (by simp))).mono ?_; rw [hany.out]; rintro e w2 ⟨rfl, hb⟩; replace hb := Aside0.mk (Below.trans (pw_below_drewN (Below.refl (w.heap.size + 1) (w.alloc (.cells #[.slice (some ad) l0.length c0] 22 (0, 0)))) _) (hb.mono (by simp))); have hbx := HBox.out _ hb.out; have hz2 := HSz.out _ hb.out) | (go_at_call 28; refine (slices_Concat_int_int.calls k (some ad) c0 l0 all _ (HR.out _ (HPre.out _ hb.out)) hc0 hall.out).mono ?_; rintro e w3 ⟨v3, rfl, hR3, hb3⟩; obtain ⟨A3, c3, rfl, hc3, hC3⟩ := Kd.R_reads hR3; clear hR3; have hC3 := Aside0.mk hC3; have hb4 := Aside0.mk (hb.out.trans (hb3.mono hz2)); have hbx := HBox.out _ hb4.out; have hz3 := HSz.out _ hb4.out; have hax := HX.out _ (HPre.out _ hb4.out)) | (go_at_call 17; refine (impl_areWithin.calls A3 c3 all 0 9 _ _ hC3.out hc3 hwit.out).mono ?_; rintro e w4 ⟨rfl, hb5⟩; have hb6 := Aside0.mk (hb4.out.trans (hb5.mono hz3)); have hz4 := HSz.out _ hb6.out; have hC4 := Aside0.mk (Kd.C_below hC3.out hb5)))
            all_goals first | (exact absurd ‹_› (by assumption)) | (go_ret; exact ⟨by first | rfl | simp, HPre.out _ hb6.out⟩) | (exfalso; omega)
          · have n2 := decide_eq_false hn2
            have hn4 := hn.resolve_left hn2
            have n4 := decide_eq_true hn4
            clear hn
            go_enter Try.func16, Try.ntmps16
            go_wp2_with (first | (go_at_call 25; refine (impl_within.calls _ _ _ _ _ HW.out).mono ?_; rintro e w1 ⟨rfl, ⟨q1, rfl⟩⟩) | (go_at_call 26; refine (contFuncR 27 #[.pointer (some ⟨w.heap.size, 0, none⟩)] _ (enters_of Try.func27 (by kernel_rfl) rfl) (some ad) c0 l0 _ (HR.out _ (pw_below_drewN ((Below.refl _ _).alloc (Nat.le_refl _) _) _)) (HC.out _ (pw_below_drewN ((Below.refl _ _).alloc (Nat.le_refl _) _) _) (by simp) (by simp))).mono ?_; rw [hany.out]; rintro e w2 ⟨rfl, hb⟩; replace hb := Aside0.mk (Below.trans (pw_below_drewN (Below.refl (w.heap.size + 1) (w.alloc (.cells #[.slice (some ad) l0.length c0] 22 (0, 0)))) _) (hb.mono (by simp))); have hbx := HBox.out _ hb.out; have hz2 := HSz.out _ hb.out) | (go_at_call 28; refine (slices_Concat_int_int.calls k (some ad) c0 l0 all _ (HR.out _ (HPre.out _ hb.out)) hc0 hall.out).mono ?_; rintro e w3 ⟨v3, rfl, hR3, hb3⟩; obtain ⟨A3, c3, rfl, hc3, hC3⟩ := Kd.R_reads hR3; clear hR3; have hC3 := Aside0.mk hC3; have hb4 := Aside0.mk (hb.out.trans (hb3.mono hz2)); have hbx := HBox.out _ hb4.out; have hz3 := HSz.out _ hb4.out; have hax := HX.out _ (HPre.out _ hb4.out)) | (go_at_call 17; refine (impl_areWithin.calls A3 c3 all 0 9 _ _ hC3.out hc3 hwit.out).mono ?_; rintro e w4 ⟨rfl, hb5⟩; have hb6 := Aside0.mk (hb4.out.trans (hb5.mono hz3)); have hz4 := HSz.out _ hb6.out; have hC4 := Aside0.mk (Kd.C_below hC3.out hb5)))
            all_goals first | (exact absurd ‹_› (by assumption)) | (go_ret; exact ⟨by first | rfl | simp, HPre.out _ hb6.out⟩) | (exfalso; omega)
      · rw [if_neg hn] at h2
        obtain rfl := Option.some.inj h2
        clear h2
        have n2 : decide (((rd_i64s l0 0).length : Int) = 2) = false := decide_eq_false (fun e => hn (.inl e))
        have n4 : decide (((rd_i64s l0 0).length : Int) = 4) = false := decide_eq_false (fun e => hn (.inr e))
        have hn2 : ¬ ((rd_i64s l0 0).length : Int) = 2 := fun e => hn (.inl e)
        have hn4 : ¬ ((rd_i64s l0 0).length : Int) = 4 := fun e => hn (.inr e)
        clear hn
        go_enter Try.func16, Try.ntmps16
        go_wp2_with (first | (go_at_call 25; refine (impl_within.calls _ _ _ _ _ HW.out).mono ?_; rintro e w1 ⟨rfl, ⟨q1, rfl⟩⟩) | (go_at_call 26; refine (contFuncR 27 #[.pointer (some ⟨w.heap.size, 0, none⟩)] _ (enters_of Try.func27 (by kernel_rfl) rfl) (some ad) c0 l0 _ (HR.out _ (pw_below_drewN ((Below.refl _ _).alloc (Nat.le_refl _) _) _)) (HC.out _ (pw_below_drewN ((Below.refl _ _).alloc (Nat.le_refl _) _) _) (by simp) (by simp))).mono ?_; rw [hany.out]; rintro e w2 ⟨rfl, hb⟩; replace hb := Aside0.mk (Below.trans (pw_below_drewN (Below.refl (w.heap.size + 1) (w.alloc (.cells #[.slice (some ad) l0.length c0] 22 (0, 0)))) _) (hb.mono (by simp))); have hbx := HBox.out _ hb.out; have hz2 := HSz.out _ hb.out) | (go_at_call 28; refine (slices_Concat_int_int.calls k (some ad) c0 l0 all _ (HR.out _ (HPre.out _ hb.out)) hc0 hall.out).mono ?_; rintro e w3 ⟨v3, rfl, hR3, hb3⟩; obtain ⟨A3, c3, rfl, hc3, hC3⟩ := Kd.R_reads hR3; clear hR3; have hC3 := Aside0.mk hC3; have hb4 := Aside0.mk (hb.out.trans (hb3.mono hz2)); have hbx := HBox.out _ hb4.out; have hz3 := HSz.out _ hb4.out; have hax := HX.out _ (HPre.out _ hb4.out)))
        all_goals first | (exact absurd ‹_› (by assumption)) | (go_ret; exact ⟨by first | rfl | simp, HPre.out _ hb4.out⟩) | (exfalso; omega)
end Go.Proofs.Ytipkmbgebpeeoaa.Hd
