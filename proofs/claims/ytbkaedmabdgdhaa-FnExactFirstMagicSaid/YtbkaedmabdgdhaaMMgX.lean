/- impl.magic, by hand. -/
import Derived.Test.YtbkaedmabdgdhaaPWithin0
import Derived.Test.YtbkaedmabdgdhaaPEqIntSS
import Derived.Test.YtbkaedmabdgdhaaPTile
import Derived.Test.YtbkaedmabdgdhaaG2
import Derived.Test.YtbkaedmabdgdhaaG0
import Derived.Shelf.Abstract
import Derived.Test.YtbkaedmabdgdhaaMMgL
namespace Go.Proofs.Ytbkaedmabdgdhaa.Hd
open Go.RowKit Go.Proofs.Ytbkaedmabdgdhaa.Pure Go.Proofs.YtbkaedmabdgdhaaW.PrintWords Go.Proofs.YtbkaedmabdgdhaaW.PrintLast Go.Proofs.YtbkaedmabdgdhaaW.PrintMore
set_option linter.unusedVariables false
set_option linter.unusedSimpArgs false
set_option maxRecDepth 100000 in
set_option maxHeartbeats 40000000 in
theorem laidM_sx (gM gB gS gR : Nat) (R wd : Nat) (hw : 1 ≤ wd) (hw4 : wd ≤ 4) (hR : 1 ≤ R) (hR3 : R ≤ 3) (w0 W : World) (cs : List Chunk) (H : List S_Tile) (AH : Option Addr) (cH : Nat) (hRm : R * wd = 2 * H.length) (hlen : H.length ≤ 1000) (hcH : H.length ≤ cH) (hH : ∀ W, Hp w0 cs W → Kd.C k50 W AH H.length H) (s : List Int × Nat) (hs : s.1 ≠ [] → s.1.length = 2 * H.length) (Ab : Option Addr) (cb : Nat) (Fb : Nat → Prop) (hnil : s.1 = [] → Ab = none ∧ cb = 0) (hbd : ((walkL (stepM R wd) H.length H.length [] H s)).2 ≤ 1000000000) (hp : Hp w0 (blk gM #[.int .i64 (s.2 : Int)] 3 :: blk gB #[.slice Ab s.1.length cb] 39 :: row (Kd.int .i64) 3 w0.heap.size (.slice Ab s.1.length cb) s.1 Fb :: blk gS #[.func (.func 46) #[] #[.pointer (some ⟨gR, 0, none⟩)]] 67 :: blk gR #[.int .i64 (R : Int)] 3 :: cs) W) :
    Calls Try.prog 49 #[.slice AH H.length cH, .int .i64 (H.length : Int), .func (.func 50) #[] #[.pointer (some ⟨gS, 0, none⟩), .pointer (some ⟨gM, 0, none⟩), .pointer (some ⟨gB, 0, none⟩)]] W fun e W' => ∃ A' c' F', e = .returned (.tuple #[]) ∧ (((walkL (stepM R wd) H.length H.length [] H s)).1 = [] → A' = none ∧ c' = 0) ∧ Hp w0 (blk gM #[.int .i64 ((walkL (stepM R wd) H.length H.length [] H s).2 : Int)] 3 :: blk gB #[.slice A' ((walkL (stepM R wd) H.length H.length [] H s).1.length) c'] 39 :: row (Kd.int .i64) 3 w0.heap.size (.slice A' ((walkL (stepM R wd) H.length H.length [] H s).1.length) c') ((walkL (stepM R wd) H.length H.length [] H s).1) F' :: blk gS #[.func (.func 46) #[] #[.pointer (some ⟨gR, 0, none⟩)]] 67 :: blk gR #[.int .i64 (R : Int)] 3 :: cs) W' := by
  refine sx_enter (N := 12) (l := [.slice AH H.length cH, .int .i64 (H.length : Int), .func (.func 50) #[] #[.pointer (some ⟨gS, 0, none⟩), .pointer (some ⟨gM, 0, none⟩), .pointer (some ⟨gB, 0, none⟩)]]) Try.func49 rfl rfl rfl ?_
  refine wp_seq ?_
  refine sx_region ?_
  refine sx_box 4 hp #[.int .i64 (H.length : Int)] 3 (by rfl) (fun W => by kernel_rfl) ?_
  intro g_1 W_2 hp
  refine sx_box 5 hp #[.func (.func 50) #[] #[.pointer (some ⟨gS, 0, none⟩), .pointer (some ⟨gM, 0, none⟩), .pointer (some ⟨gB, 0, none⟩)]] 59 (by rfl) (fun W => by kernel_rfl) ?_
  intro g_3 W_4 hp
  refine sx_nil ?_
  refine ex_then_n ?_
  refine wp_seq ?_
  refine sx_region ?_
  refine sx_box 6 hp #[.nilFunc] 86 (by rfl) (fun W => by kernel_rfl) ?_
  intro g_5 W_6 hp
  refine sx_nil ?_
  refine ex_then_n ?_
  refine wp_seq ?_
  refine sx_region ?_
  refine sx_rd 7 (.func (.func 77) #[] #[.pointer (some ⟨g_1, 0, none⟩), .pointer (some ⟨g_3, 0, none⟩), .pointer (some ⟨g_5, 0, none⟩)]) (by rfl) (by kernel_rfl) ?_
  refine sx_store (t := 86) (p := (.tmp 6)) (x := (.tmp 7)) (by rfl) (by rfl) 0 (by rfl) 0 [.func (.func 77) #[] #[.pointer (some ⟨g_1, 0, none⟩), .pointer (some ⟨g_3, 0, none⟩), .pointer (some ⟨g_5, 0, none⟩)]] (by rfl) (by rfl) (by kernel_rfl) (by simp [Value.oneCell']) (by show 1 ≤ 1; omega) #[.func (.func 77) #[] #[.pointer (some ⟨g_1, 0, none⟩), .pointer (some ⟨g_3, 0, none⟩), .pointer (some ⟨g_5, 0, none⟩)]] (by rfl) hp ?_
  intro W_7 hp; simp only [List.set_cons_succ, List.set_cons_zero] at hp
  refine sx_nil ?_
  refine ex_then_n ?_
  refine sx_region ?_
  refine sx_rd 8 (.func (.func 77) #[] #[.pointer (some ⟨g_1, 0, none⟩), .pointer (some ⟨g_3, 0, none⟩), .pointer (some ⟨g_5, 0, none⟩)]) (by rfl) (ld1 (t := 86) (p := (.tmp 6)) (by rfl) (by rfl) (by kernel_rfl) (hp.cell 0 (by rfl) 0 _ (by rfl))) ?_
  refine sx_lit 9 (by rfl) (Kd.int .i64) w0.heap.size 3 ([] : List Int) [] (fun W => by kernel_rfl) (Reps.none _ _) (by simp) hp.size hp ?_
  intro g_8 F_9 W_10 hp hz; clear hz
  refine sx_rd 10 (.slice AH H.length cH) (by rfl) (by kernel_rfl) ?_
  refine sx_call 11 (by rfl) (by kernel_rfl) ((addM_sx gM gB gS gR g_1 g_3 g_5 R wd H.length hw hw4 hR hR3 hRm H.length w0 _ (cs) [] (some ⟨g_8, 0, none⟩) (([] : List Int).length) F_9 H AH cH rfl (by simp; omega) hcH (fun W h => hH W h) s hs Ab cb Fb hnil hbd (hp.take [0, 4, 5, 6, 7, 8, 3, 2, 1] 9 (by decide) (by simp))).mono ?_)
  rintro _ W_11 ⟨A2, c2, F2, rfl, hn2, hp⟩
  refine ⟨_, rfl, ?_⟩
  refine sx_nil ?_
  refine sx_end_n (.tuple #[]) (res0 (by rfl)) ?_
  exact ⟨_, _, _, rfl, hn2, (hp.take [0, 1, 2, 3, 4] 8 (by decide) (by simp))⟩
end Go.Proofs.Ytbkaedmabdgdhaa.Hd
namespace Go.Proofs.Ytbkaedmabdgdhaa.Hd
open Go.RowKit Go.Proofs.YtbkaedmabdgdhaaW.PrintWords Go.Proofs.YtbkaedmabdgdhaaW.PrintLast Go.Proofs.YtbkaedmabdgdhaaW.PrintMore
set_option linter.unusedVariables false
set_option linter.unusedSimpArgs false
def TGives (g : Nat) (lb : Array Value) (p : S_Tile → Bool) (w : World) : Prop :=
  ∀ (W : World) (x : S_Tile), Below w.heap.size w W → Calls Try.prog g (#[.agg #[.int .i64 x.f0, .int .i64 x.f1]] ++ lb) W fun e w' => e = .returned (.bool (p x)) ∧ Below W.heap.size W w'
def IdxEndT (p : S_Tile → Bool) (l : List S_Tile) (e : Ending) : Prop := ∃ j : Int, decide (0 ≤ j) = l.any p ∧ e = .returned (.int .i64 j)
theorem anyT_hit {p : S_Tile → Bool} {l : List S_Tile} {k : Nat} {y : S_Tile} (h : k < l.length) (hy : rd_Tile l k = y) (hq : p y = true) : IdxEndT p l (.returned (.int .i64 (k : Int))) := by
  refine ⟨k, ?_, rfl⟩
  have : l.any p = true := by
    rw [List.any_eq_true]
    exact ⟨y, by rw [← hy]; simp [rd_Tile, h], hq⟩
  rw [this]; simp
theorem anyT_miss {p : S_Tile → Bool} {l : List S_Tile} {k : Nat} (h : ¬ k < l.length) (hq : (l.take k).any p = false) : IdxEndT p l (.returned (.int .i64 (-1))) := by
  rw [List.take_of_length_le (by omega)] at hq
  exact ⟨-1, by rw [hq]; rfl, rfl⟩
theorem take_anyT {p : S_Tile → Bool} {l : List S_Tile} {k : Nat} {y : S_Tile} (h : k < l.length) (hy : rd_Tile l k = y) (hq : p y = false) (ha : (l.take k).any p = false) : (l.take (k + 1)).any p = false := by
  rw [List.take_succ_eq_append_getElem h, List.any_append, ha]
  have : l[k] = y := by rw [← hy]; simp [rd_Tile, h]
  simp [this, hq]

set_option maxHeartbeats 2000000 in
theorem idxFuncT (g : Nat) (lb : Array Value) (p : S_Tile → Bool) (eg : ∀ args w, (callFunc g args).run Try.prog w = .ok (.enter g args) w) (A0 : Option Addr) (c0 : Nat) (l0 : List S_Tile) (w : World) (hr : Kd.C k50 w A0 l0.length l0) (hp : TGives g lb p w) :
    Calls Try.prog 103 #[.slice A0 l0.length c0, .func (.func g) #[] lb] w fun e w' => IdxEndT p l0 e ∧ Below w.heap.size w w' := by
  have HR := Aside0.mk hr
  have HP := Aside0.mk hp
  have hm := hr.2.1
  clear hr hp
  go_enter Try.func103, Try.ntmps103
  go_wp2
  go_loopg [5, 8] l0.length (fun gg _ s8 wr => ∃ kk : Nat, kk ≤ l0.length ∧ l0.length - kk ≤ gg ∧ s8 = .int .i64 kk ∧ Aside0 (Below w.heap.size w wr) ∧ Aside0 ((l0.take kk).any p = false))
  case atStart => exact ⟨0, Nat.zero_le _, by omega, rfl, ⟨Below.refl _ _⟩, ⟨by simp⟩⟩
  case round =>
    obtain ⟨kk, hkk, hg, rfl, HB, HA⟩ := hrel
    by_cases hlt : kk < l0.length
    · obtain ⟨ad, rfl, hc0, hc1⟩ := at_T50 (Kd.C_below HR.out HB.out) (kk : Int) (by omega) (by omega)
      have hltz : (kk : Int) < (l0.length : Int) := by omega
      simp only [Int.toNat_natCast] at hc0 hc1
      obtain ⟨y, hy⟩ : ∃ y, rd_Tile l0 kk = y := ⟨_, rfl⟩
      rw [hy] at hc0 hc1
      have HY := Aside0.mk hy
      clear hy
      have hcall := HP.out _ y HB.out
      obtain ⟨y0, y1⟩ := y
      simp only [] at hc0 hc1 hcall
      cases hq : p ⟨y0, y1⟩ with
      | true =>
        rw [hq] at hcall
        go_wp2_with (go_at_fn g; refine hcall.mono ?_; rintro e w' ⟨rfl, hb'⟩)
        go_ret
        exact ⟨anyT_hit hlt HY.out hq, HB.out.trans (hb'.mono HB.out.size)⟩
      | false =>
        rw [hq] at hcall
        go_wp2_with (go_at_fn g; refine hcall.mono ?_; rintro e w' ⟨rfl, hb'⟩; replace hb' := Aside0.mk hb')
        go_roundg (l0.length - (kk + 1))
        case measure => omega
        case rel => exact ⟨kk + 1, by omega, by omega, by go_num, ⟨HB.out.trans (hb'.out.mono HB.out.size)⟩, ⟨take_anyT hlt HY.out hq HA.out⟩⟩
    · have hltz : ¬ (kk : Int) < (l0.length : Int) := by omega
      go_wp2
      go_ret
      exact ⟨anyT_miss hlt HA.out, HB.out⟩

theorem contFuncT (g : Nat) (lb : Array Value) (p : S_Tile → Bool) (eg : ∀ args w, (callFunc g args).run Try.prog w = .ok (.enter g args) w) (A0 : Option Addr) (c0 : Nat) (l0 : List S_Tile) (w : World) (hr : Kd.C k50 w A0 l0.length l0) (hp : TGives g lb p w) :
    Calls Try.prog 71 #[.slice A0 l0.length c0, .func (.func g) #[] lb] w fun e w' => e = .returned (.bool (l0.any p)) ∧ Below w.heap.size w w' := by
  have hi := idxFuncT g lb p eg A0 c0 l0 w hr hp
  clear hr hp
  go_enter Try.func71, Try.ntmps71
  go_wp2_with (go_at_call 103; refine hi.mono ?_; rintro e w' ⟨⟨j, hj, rfl⟩, hb⟩; replace hj := Aside0.mk hj)
  rw [hj.out]
  go_ret
  exact ⟨rfl, hb⟩
end Go.Proofs.Ytbkaedmabdgdhaa.Hd
namespace Go.Proofs.Ytbkaedmabdgdhaa.Hd
open Go.RowKit Go.Proofs.YtbkaedmabdgdhaaW.PrintWords Go.Proofs.YtbkaedmabdgdhaaW.PrintLast Go.Proofs.YtbkaedmabdgdhaaW.PrintMore
set_option linter.unusedVariables false
set_option linter.unusedSimpArgs false
def tileB (t : S_Tile) : Bool := decide (0 ≤ t.f0) && decide (t.f0 ≤ t.f1) && decide (t.f1 ≤ 9)
theorem clo_hand (w0 : World) : TGives 72 #[] (fun t => !tileB t) w0 := by
  intro W x _
  obtain ⟨x0, x1⟩ := x
  simp only []
  have e0 : (!tileB ⟨x0, x1⟩) = !(decide (0 ≤ x0) && decide (x0 ≤ x1) && decide (x1 ≤ 9)) := rfl
  rw [e0]
  clear e0
  by_cases c1 : 0 ≤ x0
  · have d1 : decide (0 ≤ x0) = true := decide_eq_true c1
    by_cases c2 : x0 ≤ x1
    · have d2 : decide (x0 ≤ x1) = true := decide_eq_true c2
      rw [d1, d2]
      go_enter Try.func72, Try.ntmps72
      go_wp2
      go_ret
      exact ⟨by simp, ((Below.refl _ _).alloc (Nat.le_refl _) _).alloc (by simp) _⟩
    · have d2 : decide (x0 ≤ x1) = false := decide_eq_false c2
      rw [d1, d2]
      go_enter Try.func72, Try.ntmps72
      go_wp2
      go_ret
      exact ⟨by simp, ((Below.refl _ _).alloc (Nat.le_refl _) _).alloc (by simp) _⟩
  · have d1 : decide (0 ≤ x0) = false := decide_eq_false c1
    rw [d1]
    go_enter Try.func72, Try.ntmps72
    go_wp2
    go_ret
    exact ⟨by simp, ((Below.refl _ _).alloc (Nat.le_refl _) _).alloc (by simp) _⟩
def impl_IsHand.f (k : Nat) (l0 : List (S_Tile)) : Option Bool := if (l0.length : Int) ≤ 55 then (if l0.all tileB = true then impl_areDifferent_impl_Tile.f k l0 else some false) else some false
set_option maxHeartbeats 1000000 in
theorem impl_IsHand.calls (k : Nat) (A0 : Option Addr) (c0 : Nat) (l0 : List (S_Tile)) (r : Bool) (w : World) (hr0 : Kd.C k50 w A0 l0.length l0) (hc0 : l0.length ≤ c0) (h : impl_IsHand.f k l0 = some r) :
    Calls Try.prog 44 #[.slice A0 l0.length c0] w fun e w' => e = .returned (.bool r) ∧ Below w.heap.size w w' := by
  unfold impl_IsHand.f at h
  have hcf := contFuncT 72 #[] (fun t => !tileB t) (enters_of Try.func72 (by kernel_rfl) rfl) A0 c0 l0 w hr0 (clo_hand w)
  have HR : Aside0 (∀ W, Below w.heap.size w W → Kd.C k50 W A0 l0.length l0) := ⟨fun W hb => Kd.C_below hr0 hb⟩
  clear hr0
  by_cases h1 : (l0.length : Int) ≤ 55
  · rw [if_pos h1] at h
    by_cases h2 : l0.all tileB = true
    · rw [if_pos h2] at h
      have e2 : (l0.any fun t => !tileB t) = false := by rw [← List.not_all_eq_any_not, h2]; rfl
      rw [e2] at hcf
      have H := Aside0.mk h
      clear h h2 e2
      go_enter Try.func44, Try.ntmps44
      go_wp2_with (first | (go_at_call 71; refine hcf.mono ?_; rintro e w1 ⟨rfl, hb⟩; replace hb := Aside0.mk hb) | (go_at_call 74; refine (impl_areDifferent_impl_Tile.calls k A0 c0 l0 r _ (HR.out _ hb.out) hc0 H.out).mono ?_; rintro e w2 ⟨rfl, hb2⟩; replace hb2 := Aside0.mk hb2))
      go_ret
      exact ⟨by first | rfl | simp, hb.out.trans (hb2.out.mono hb.out.size)⟩
    · rw [if_neg h2] at h
      have e2 : (l0.any fun t => !tileB t) = true := by rw [← List.not_all_eq_any_not, Bool.eq_false_iff.2 h2]; rfl
      rw [e2] at hcf
      obtain rfl := Option.some.inj h
      clear h h2 e2
      go_enter Try.func44, Try.ntmps44
      go_wp2_with (go_at_call 71; refine hcf.mono ?_; rintro e w1 ⟨rfl, hb⟩; replace hb := Aside0.mk hb)
      go_ret
      exact ⟨by first | rfl | simp, hb.out⟩
  · rw [if_neg h1] at h
    obtain rfl := Option.some.inj h
    clear h hcf
    go_enter Try.func44, Try.ntmps44
    go_wp2
    go_ret
    exact ⟨by first | rfl | simp, Below.refl _ _⟩
end Go.Proofs.Ytbkaedmabdgdhaa.Hd
namespace Go.Proofs.Ytbkaedmabdgdhaa.Pure
open Go.RowKit Go.Proofs.Ytbkaedmabdgdhaa.Hd Go.Proofs.YtbkaedmabdgdhaaW.PrintWords Go.Proofs.YtbkaedmabdgdhaaW.PrintLast
set_option linter.unusedVariables false
set_option linter.unusedSimpArgs false
theorem isHand_ev (l : List S_Tile) : Ev (fun k => impl_IsHand.f k l) (handB l) := by
  unfold impl_IsHand.f handB
  by_cases h : l.length ≤ 55
  · rw [decide_eq_true h, Bool.true_and]
    refine Ev.pos (by omega) ?_
    by_cases g : l.all tileB = true
    · have g2 : l.all goodT = true := g
      rw [g2, Bool.true_and]
      exact Ev.pos g (areDif_ev l (by omega))
    · have g2 : l.all goodT = false := Bool.eq_false_iff.2 g
      rw [g2, Bool.false_and]
      exact Ev.neg g (Ev.ret rfl)
  · rw [decide_eq_false h, Bool.false_and]
    exact Ev.neg (by omega) (Ev.ret rfl)
end Go.Proofs.Ytbkaedmabdgdhaa.Pure
namespace Go.Proofs.Ytbkaedmabdgdhaa.Pure
open Go.RowKit Go.Proofs.Ytbkaedmabdgdhaa.Hd Go.Proofs.YtbkaedmabdgdhaaW.PrintWords Go.Proofs.YtbkaedmabdgdhaaW.PrintLast
set_option linter.unusedVariables false
set_option linter.unusedSimpArgs false
theorem take_push (l : List (List Int)) (i : Nat) (hi : i < l.length) : l.take i ++ [rd_i64s l (i : Int)] = l.take (i + 1) := by
  rw [rdR_at hi, List.take_succ_eq_append_getElem hi]
end Go.Proofs.Ytbkaedmabdgdhaa.Pure
namespace Go.Proofs.Ytbkaedmabdgdhaa.Hd
open Go.RowKit Go.Proofs.Ytbkaedmabdgdhaa.Pure Go.Proofs.YtbkaedmabdgdhaaW.PrintWords Go.Proofs.YtbkaedmabdgdhaaW.PrintLast Go.Proofs.YtbkaedmabdgdhaaW.PrintMore
set_option linter.unusedVariables false
set_option linter.unusedSimpArgs false
theorem hdrs_at {W : World} {g wd R i : Nat} {A : Option Addr} {l : List Int} (hH : hdrK.C W A (hdrsL g wd R).length (hdrsL g wd R)) (hL : Kd.C (Kd.int .i64) W (some ⟨g, 0, none⟩) l.length l) (hN : R * wd = l.length) (hi : i < R) :
  W.cell? (adr A (i : Int) 1) = some (.slice (some ⟨g, i * wd, none⟩) (rd_i64s (chunksL R wd l) (i : Int)).length wd) ∧ Kd.C (Kd.int .i64) W (some ⟨g, i * wd, none⟩) (rd_i64s (chunksL R wd l) (i : Int)).length (rd_i64s (chunksL R wd l) (i : Int)) ∧ (rd_i64s (chunksL R wd l) (i : Int)).length ≤ wd := by
 have e : rd_i64s (chunksL R wd l) (i : Int) = (l.take ((i + 1) * wd)).drop (i * wd) := by rw [rdR_at (by rw [chunksL_len]; omega)]; simp [chunksL]
 have hcl := chunk_len hN hi
 rw [e]
 refine ⟨?_, chunk_C (N := R * wd) hL hN hi, by omega⟩
 obtain ⟨h1, h2, h3⟩ := hH
 obtain ⟨ad, e2, hc⟩ := h3 (by rw [hdrsL_len]; omega)
 have hh : (hdrsL g wd R)[i]? = some (some ⟨g, i * wd, none⟩, wd, wd) := by
  unfold hdrsL
  rw [List.getElem?_map, List.getElem?_range hi]; rfl
 obtain ⟨c, hs, hr, hcell⟩ := hc i _ hh
 have hr2 : c = [.slice (some ⟨g, i * wd, none⟩) wd wd] := hr
 subst hr2
 have hc0 := hcell 0 _ rfl
 have e3 : adr A (i : Int) 1 = ad.add (i * 1 + 0) := by rw [e2]; simp [adr]
 rw [e3, hcl]; exact hc0
def impl_magic.f (l0 : List S_Tile) (a1 : Int) : Option (List (List Int) × Int × Bool) := if okMg l0 a1 then (if (stMg l0 a1).2 ≤ 1000000000 then some (if (stMg l0 a1).2 = 0 then ([], 0, true) else (chunksL a1.toNat (wdM l0 a1) (stMg l0 a1).1, ((stMg l0 a1).2 : Int), true)) else none) else some ([], 0, false)
set_option maxRecDepth 100000 in
set_option maxHeartbeats 40000000 in
theorem impl_magic.calls (A0 : Option Addr) (c0 : Nat) (l0 : List S_Tile) (a1 : Int) (r0 : List (List Int)) (r1 : Int) (r2 : Bool) (w : World) (hr0 : Kd.C k50 w A0 l0.length l0) (hc0 : l0.length ≤ c0) (h : impl_magic.f l0 a1 = some (r0, r1, r2)) :
  Calls Try.prog 30 #[.slice A0 l0.length c0, .int .i64 a1] w fun e w' => ∃ v0_ : Value, e = .returned (.tuple #[v0_, .int .i64 r1, .bool r2]) ∧ Kd.S (Kd.slice 3 (Kd.int .i64)) 39 w' w.heap.size (fun _ => True) v0_ r0 ∧ Below w.heap.size w w' := by
 unfold impl_magic.f at h
 obtain ⟨cs, hcs⟩ : ∃ cs, cs = [old w w.heap.size] := ⟨_, rfl⟩
 have hp : Hp w cs w := by rw [hcs]; exact Hp.old_start w
 have hc2 : ∀ W, Hp w cs W → Below w.heap.size w W := fun W h => by rw [hcs] at h; exact h.since 0 _ rfl
 have hC0 : ∀ W, Hp w cs W → Kd.C k50 W A0 l0.length l0 := fun W h => Kd.C_below hr0 (hc2 W h)
 clear hcs
 refine sx_enter (N := 64) (l := [.slice A0 l0.length c0, .int .i64 a1]) Try.func30 rfl rfl rfl ?_
 refine wp_seq ?_
 refine sx_region ?_
 refine sx_box 3 hp #[.int .i64 a1] 3 (by rfl) (fun W => by kernel_rfl) ?_
 intro g_1 W_2 hp
 refine sx_rd 4 (.slice none 0 0) (by rfl) (by kernel_rfl) ?_
 refine sx_rd 5 (.int .i64 0) (by rfl) (by kernel_rfl) ?_
 refine sx_rd 6 (.bool false) (by rfl) (by kernel_rfl) ?_
 refine sx_nil ?_
 refine ex_then_n ?_
 refine sx_cut (fun a_ W => ∃ (r_ : List (Nat × Value)) , a_ = fr 64 ([(0, .slice A0 l0.length c0), (3, .pointer (some ⟨g_1, 0, none⟩))] ++ r_) ∧ Hp w (blk g_1 #[.int .i64 a1] 3 :: cs) W ∧ (okMg l0 a1)) ?_ ?_
 ·
  refine wp_seq ?_
  rcases Bool.eq_false_or_eq_true (!(handB l0)) with c_3 | c_3
  ·
   refine sx_region ?_
   refine sx_rd 13 (.slice A0 l0.length c0) (by rfl) (by kernel_rfl) ?_
   obtain ⟨k_4, hk_k_4⟩ := Ev.rounds (isHand_ev l0)
   refine sx_call 14 (by rfl) (by kernel_rfl) ((impl_IsHand.calls k_4 A0 c0 l0 _ _ (hC0 _ hp.tail) hc0 hk_k_4).mono ?_)
   rintro _ W_5 ⟨rfl, hb⟩
   refine ⟨.bool false, congrArg (fun b => Ending.returned (.bool b)) (not_eq c_3), ?_⟩
   replace hp := hp.below hb
   clear hb
   refine sx_rd 15 (.bool true) (by rfl) (by kernel_rfl) ?_
   refine sx_rd 16 (.bool true) (by rfl) (by kernel_rfl) ?_
   refine sx_skip 17 (by rfl) (by rfl) (by rfl) ?_
   refine sx_skip 18 (by rfl) (by rfl) (by rfl) ?_
   refine sx_skip 19 (by rfl) (by rfl) (by rfl) ?_
   refine sx_rd 20 (.bool true) (by rfl) (by kernel_rfl) ?_
   refine sx_rd 21 (.bool true) (by rfl) (by kernel_rfl) ?_
   refine sx_skip 22 (by rfl) (by rfl) (by rfl) ?_
   refine sx_skip 23 (by rfl) (by rfl) (by rfl) ?_
   refine sx_skip 24 (by rfl) (by rfl) (by rfl) ?_
   refine sx_rd 25 (.bool true) (by rfl) (by kernel_rfl) ?_
   refine sx_rd 26 (.bool true) (by rfl) (by kernel_rfl) ?_
   refine sx_skip 27 (by rfl) (by rfl) (by rfl) ?_
   refine sx_skip 28 (by rfl) (by rfl) (by rfl) ?_
   refine sx_skip 29 (by rfl) (by rfl) (by rfl) ?_
   refine sx_skip 30 (by rfl) (by rfl) (by rfl) ?_
   refine sx_skip 31 (by rfl) (by rfl) (by rfl) ?_
   refine sx_skip 32 (by rfl) (by rfl) (by rfl) ?_
   refine sx_skip 33 (by rfl) (by rfl) (by rfl) ?_
   refine sx_skip 34 (by rfl) (by rfl) (by rfl) ?_
   refine sx_skip 35 (by rfl) (by rfl) (by rfl) ?_
   refine sx_skip 36 (by rfl) (by rfl) (by rfl) ?_
   refine sx_skip 37 (by rfl) (by rfl) (by rfl) ?_
   refine sx_rd 38 (.bool true) (by rfl) (by kernel_rfl) ?_
   refine sx_nil ?_
   refine ex_then_n ?_
   refine sx_then true (by rfl) rfl ?_
   refine wp_seq ?_
   refine sx_region ?_
   refine sx_rd 4 (.slice none 0 0) (by rfl) (by kernel_rfl) ?_
   refine sx_rd 5 (.int .i64 0) (by rfl) (by kernel_rfl) ?_
   refine sx_rd 6 (.bool false) (by rfl) (by kernel_rfl) ?_
   refine sx_nil ?_
   refine ex_then_n ?_
   refine wp_ret ?_
   refine ex_then_r ?_
   refine sx_end (.tuple #[.slice none 0 0, .int .i64 0, .bool false]) (res3 4 5 6 (by rfl)) ?_
   have hok : ¬ okMg l0 a1 := fun q => by
    obtain ⟨q1, q2, q3, q4, q5⟩ := q
    first | omega | (have z : handB l0 = false := (not_eq c_3); rw [q1] at z; cases z)
   rw [if_neg hok] at h
   simp only [Option.some.injEq, Prod.mk.injEq] at h; obtain ⟨rfl, rfl, rfl⟩ := h
   exact ⟨_, rfl, Kd.S_nil _ _ _ _ _, hc2 _ (hp.tail)⟩
  ·
   rcases Bool.eq_false_or_eq_true (!(inB 1 3 a1)) with c_6 | c_6
   ·
    refine sx_region ?_
    refine sx_rd 13 (.slice A0 l0.length c0) (by rfl) (by kernel_rfl) ?_
    obtain ⟨k_7, hk_k_7⟩ := Ev.rounds (isHand_ev l0)
    refine sx_call 14 (by rfl) (by kernel_rfl) ((impl_IsHand.calls k_7 A0 c0 l0 _ _ (hC0 _ hp.tail) hc0 hk_k_7).mono ?_)
    rintro _ W_8 ⟨rfl, hb⟩
    refine ⟨.bool true, congrArg (fun b => Ending.returned (.bool b)) (not_eq c_3), ?_⟩
    replace hp := hp.below hb
    clear hb
    refine sx_rd 15 (.bool false) (by rfl) (by kernel_rfl) ?_
    refine sx_rd 16 (.bool false) (by rfl) (by kernel_rfl) ?_
    refine sx_want (by rfl) ?_
    refine sx_rd 17 (.int .i64 a1) (by rfl) (ld1 (t := 3) (p := (.tmp 3)) (by rfl) (by rfl) (by kernel_rfl) (hp.cell 0 (by rfl) 0 _ (by rfl))) ?_
    refine sx_want (by rfl) ?_
    refine sx_call 18 (by rfl) (by kernel_rfl) ((impl_within.calls a1 1 3 _ _ (within_eq a1 1 3)).mono ?_)
    rintro _ W_9 ⟨rfl, hb⟩
    refine ⟨.bool false, congrArg (fun b => Ending.returned (.bool b)) (not_eq c_6), ?_⟩
    replace hp := hp.below hb.below
    clear hb
    refine sx_want (by rfl) ?_
    refine sx_rd 19 (.bool true) (by rfl) (by kernel_rfl) ?_
    refine sx_rd 20 (.bool true) (by rfl) (by kernel_rfl) ?_
    refine sx_rd 21 (.bool true) (by rfl) (by kernel_rfl) ?_
    refine sx_skip 22 (by rfl) (by rfl) (by rfl) ?_
    refine sx_skip 23 (by rfl) (by rfl) (by rfl) ?_
    refine sx_skip 24 (by rfl) (by rfl) (by rfl) ?_
    refine sx_rd 25 (.bool true) (by rfl) (by kernel_rfl) ?_
    refine sx_rd 26 (.bool true) (by rfl) (by kernel_rfl) ?_
    refine sx_skip 27 (by rfl) (by rfl) (by rfl) ?_
    refine sx_skip 28 (by rfl) (by rfl) (by rfl) ?_
    refine sx_skip 29 (by rfl) (by rfl) (by rfl) ?_
    refine sx_skip 30 (by rfl) (by rfl) (by rfl) ?_
    refine sx_skip 31 (by rfl) (by rfl) (by rfl) ?_
    refine sx_skip 32 (by rfl) (by rfl) (by rfl) ?_
    refine sx_skip 33 (by rfl) (by rfl) (by rfl) ?_
    refine sx_skip 34 (by rfl) (by rfl) (by rfl) ?_
    refine sx_skip 35 (by rfl) (by rfl) (by rfl) ?_
    refine sx_skip 36 (by rfl) (by rfl) (by rfl) ?_
    refine sx_skip 37 (by rfl) (by rfl) (by rfl) ?_
    refine sx_rd 38 (.bool true) (by rfl) (by kernel_rfl) ?_
    refine sx_nil ?_
    refine ex_then_n ?_
    refine sx_then true (by rfl) rfl ?_
    refine wp_seq ?_
    refine sx_region ?_
    refine sx_rd 4 (.slice none 0 0) (by rfl) (by kernel_rfl) ?_
    refine sx_rd 5 (.int .i64 0) (by rfl) (by kernel_rfl) ?_
    refine sx_rd 6 (.bool false) (by rfl) (by kernel_rfl) ?_
    refine sx_nil ?_
    refine ex_then_n ?_
    refine wp_ret ?_
    refine ex_then_r ?_
    refine sx_end (.tuple #[.slice none 0 0, .int .i64 0, .bool false]) (res3 4 5 6 (by rfl)) ?_
    have hok : ¬ okMg l0 a1 := fun q => by
     obtain ⟨q1, q2, q3, q4, q5⟩ := q
     first | omega | (have z : handB l0 = false := (not_eq c_3); rw [q1] at z; cases z) | (have z : inB 1 3 a1 = false := (not_eq c_6); rw [inB_iff.2 ⟨q2, q3⟩] at z; cases z)
    rw [if_neg hok] at h
    simp only [Option.some.injEq, Prod.mk.injEq] at h; obtain ⟨rfl, rfl, rfl⟩ := h
    exact ⟨_, rfl, Kd.S_nil _ _ _ _ _, hc2 _ (hp.tail)⟩
   ·
    have hib := inB_iff.1 (show inB 1 3 a1 = true from (not_eq c_6))
    rcases Bool.eq_false_or_eq_true (decide ((l0.length : Int) > 6)) with c_10 | c_10
    ·
     have c_10p := of_decide_eq_true c_10
     refine sx_region ?_
     refine sx_rd 13 (.slice A0 l0.length c0) (by rfl) (by kernel_rfl) ?_
     obtain ⟨k_11, hk_k_11⟩ := Ev.rounds (isHand_ev l0)
     refine sx_call 14 (by rfl) (by kernel_rfl) ((impl_IsHand.calls k_11 A0 c0 l0 _ _ (hC0 _ hp.tail) hc0 hk_k_11).mono ?_)
     rintro _ W_12 ⟨rfl, hb⟩
     refine ⟨.bool true, congrArg (fun b => Ending.returned (.bool b)) (not_eq c_3), ?_⟩
     replace hp := hp.below hb
     clear hb
     refine sx_rd 15 (.bool false) (by rfl) (by kernel_rfl) ?_
     refine sx_rd 16 (.bool false) (by rfl) (by kernel_rfl) ?_
     refine sx_want (by rfl) ?_
     refine sx_rd 17 (.int .i64 a1) (by rfl) (ld1 (t := 3) (p := (.tmp 3)) (by rfl) (by rfl) (by kernel_rfl) (hp.cell 0 (by rfl) 0 _ (by rfl))) ?_
     refine sx_want (by rfl) ?_
     refine sx_call 18 (by rfl) (by kernel_rfl) ((impl_within.calls a1 1 3 _ _ (within_eq a1 1 3)).mono ?_)
     rintro _ W_13 ⟨rfl, hb⟩
     refine ⟨.bool true, congrArg (fun b => Ending.returned (.bool b)) (not_eq c_6), ?_⟩
     replace hp := hp.below hb.below
     clear hb
     refine sx_want (by rfl) ?_
     refine sx_rd 19 (.bool false) (by rfl) (by kernel_rfl) ?_
     refine sx_rd 20 (.bool false) (by rfl) (by kernel_rfl) ?_
     refine sx_rd 21 (.bool false) (by rfl) (by kernel_rfl) ?_
     refine sx_want (by rfl) ?_
     refine sx_rd 22 (.slice A0 l0.length c0) (by rfl) (by kernel_rfl) ?_
     refine sx_want (by rfl) ?_
     refine sx_rd 23 (.int .i64 (l0.length : Int)) (by rfl) (by kernel_rfl) ?_
     refine sx_want (by rfl) ?_
     refine sx_rd 24 (.bool true) (by rfl) (bv c_10 (by kernel_rfl)) ?_
     refine sx_rd 25 (.bool true) (by rfl) (by kernel_rfl) ?_
     refine sx_rd 26 (.bool true) (by rfl) (by kernel_rfl) ?_
     refine sx_skip 27 (by rfl) (by rfl) (by rfl) ?_
     refine sx_skip 28 (by rfl) (by rfl) (by rfl) ?_
     refine sx_skip 29 (by rfl) (by rfl) (by rfl) ?_
     refine sx_skip 30 (by rfl) (by rfl) (by rfl) ?_
     refine sx_skip 31 (by rfl) (by rfl) (by rfl) ?_
     refine sx_skip 32 (by rfl) (by rfl) (by rfl) ?_
     refine sx_skip 33 (by rfl) (by rfl) (by rfl) ?_
     refine sx_skip 34 (by rfl) (by rfl) (by rfl) ?_
     refine sx_skip 35 (by rfl) (by rfl) (by rfl) ?_
     refine sx_skip 36 (by rfl) (by rfl) (by rfl) ?_
     refine sx_skip 37 (by rfl) (by rfl) (by rfl) ?_
     refine sx_rd 38 (.bool true) (by rfl) (by kernel_rfl) ?_
     refine sx_nil ?_
     refine ex_then_n ?_
     refine sx_then true (by rfl) rfl ?_
     refine wp_seq ?_
     refine sx_region ?_
     refine sx_rd 4 (.slice none 0 0) (by rfl) (by kernel_rfl) ?_
     refine sx_rd 5 (.int .i64 0) (by rfl) (by kernel_rfl) ?_
     refine sx_rd 6 (.bool false) (by rfl) (by kernel_rfl) ?_
     refine sx_nil ?_
     refine ex_then_n ?_
     refine wp_ret ?_
     refine ex_then_r ?_
     refine sx_end (.tuple #[.slice none 0 0, .int .i64 0, .bool false]) (res3 4 5 6 (by rfl)) ?_
     have hok : ¬ okMg l0 a1 := fun q => by
      obtain ⟨q1, q2, q3, q4, q5⟩ := q
      first | omega | (have z : handB l0 = false := (not_eq c_3); rw [q1] at z; cases z) | (have z : inB 1 3 a1 = false := (not_eq c_6); rw [inB_iff.2 ⟨q2, q3⟩] at z; cases z)
     rw [if_neg hok] at h
     simp only [Option.some.injEq, Prod.mk.injEq] at h; obtain ⟨rfl, rfl, rfl⟩ := h
     exact ⟨_, rfl, Kd.S_nil _ _ _ _ _, hc2 _ (hp.tail)⟩
    ·
     have c_10p := of_decide_eq_false c_10
     rcases Bool.eq_false_or_eq_true ((l0.length : Int) != a1) with c_14 | c_14
     ·
      have c_14p := ne_of_bne_ c_14
      refine sx_region ?_
      refine sx_rd 13 (.slice A0 l0.length c0) (by rfl) (by kernel_rfl) ?_
      obtain ⟨k_15, hk_k_15⟩ := Ev.rounds (isHand_ev l0)
      refine sx_call 14 (by rfl) (by kernel_rfl) ((impl_IsHand.calls k_15 A0 c0 l0 _ _ (hC0 _ hp.tail) hc0 hk_k_15).mono ?_)
      rintro _ W_16 ⟨rfl, hb⟩
      refine ⟨.bool true, congrArg (fun b => Ending.returned (.bool b)) (not_eq c_3), ?_⟩
      replace hp := hp.below hb
      clear hb
      refine sx_rd 15 (.bool false) (by rfl) (by kernel_rfl) ?_
      refine sx_rd 16 (.bool false) (by rfl) (by kernel_rfl) ?_
      refine sx_want (by rfl) ?_
      refine sx_rd 17 (.int .i64 a1) (by rfl) (ld1 (t := 3) (p := (.tmp 3)) (by rfl) (by rfl) (by kernel_rfl) (hp.cell 0 (by rfl) 0 _ (by rfl))) ?_
      refine sx_want (by rfl) ?_
      refine sx_call 18 (by rfl) (by kernel_rfl) ((impl_within.calls a1 1 3 _ _ (within_eq a1 1 3)).mono ?_)
      rintro _ W_17 ⟨rfl, hb⟩
      refine ⟨.bool true, congrArg (fun b => Ending.returned (.bool b)) (not_eq c_6), ?_⟩
      replace hp := hp.below hb.below
      clear hb
      refine sx_want (by rfl) ?_
      refine sx_rd 19 (.bool false) (by rfl) (by kernel_rfl) ?_
      refine sx_rd 20 (.bool false) (by rfl) (by kernel_rfl) ?_
      refine sx_rd 21 (.bool false) (by rfl) (by kernel_rfl) ?_
      refine sx_want (by rfl) ?_
      refine sx_rd 22 (.slice A0 l0.length c0) (by rfl) (by kernel_rfl) ?_
      refine sx_want (by rfl) ?_
      refine sx_rd 23 (.int .i64 (l0.length : Int)) (by rfl) (by kernel_rfl) ?_
      refine sx_want (by rfl) ?_
      refine sx_rd 24 (.bool false) (by rfl) (bv c_10 (by kernel_rfl)) ?_
      refine sx_rd 25 (.bool false) (by rfl) (by kernel_rfl) ?_
      refine sx_rd 26 (.bool false) (by rfl) (by kernel_rfl) ?_
      refine sx_want (by rfl) ?_
      refine sx_rd 27 (.slice A0 l0.length c0) (by rfl) (by kernel_rfl) ?_
      refine sx_want (by rfl) ?_
      refine sx_rd 28 (.int .i64 (l0.length : Int)) (by rfl) (by kernel_rfl) ?_
      refine sx_want (by rfl) ?_
      refine sx_rd 29 (.int .i64 a1) (by rfl) (ld1 (t := 3) (p := (.tmp 3)) (by rfl) (by rfl) (by kernel_rfl) (hp.cell 0 (by rfl) 0 _ (by rfl))) ?_
      refine sx_want (by rfl) ?_
      refine sx_rd 30 (.bool true) (by rfl) (bv c_14 (by kernel_rfl)) ?_
      refine sx_want (by rfl) ?_
      refine sx_rd 31 (.bool true) (by rfl) (by kernel_rfl) ?_
      refine sx_want (by rfl) ?_
      refine sx_rd 32 (.slice A0 l0.length c0) (by rfl) (by kernel_rfl) ?_
      refine sx_want (by rfl) ?_
      refine sx_rd 33 (.int .i64 (l0.length : Int)) (by rfl) (by kernel_rfl) ?_
      refine sx_want (by rfl) ?_
      refine sx_rd 34 (.int .i64 a1) (by rfl) (ld1 (t := 3) (p := (.tmp 3)) (by rfl) (by rfl) (by kernel_rfl) (hp.cell 0 (by rfl) 0 _ (by rfl))) ?_
      refine sx_want (by rfl) ?_
      refine sx_rd 35 (.int .i64 (2 * a1)) (by rfl) (wr_ok (by omega) (by kernel_rfl)) ?_
      refine sx_want (by rfl) ?_
      refine sx_rd 36 (.bool ((l0.length : Int) != (2 * a1))) (by rfl) (by kernel_rfl) ?_
      refine sx_want (by rfl) ?_
      refine sx_rd 37 (.bool ((l0.length : Int) != (2 * a1))) (by rfl) (by kernel_rfl) ?_
      refine sx_rd 38 (.bool ((l0.length : Int) != (2 * a1))) (by rfl) (by kernel_rfl) ?_
      refine sx_nil ?_
      refine ex_then_n ?_
      refine sx_cond ((l0.length : Int) != (2 * a1)) (by rfl) (fun c_18 => ?_) (fun c_18 => ?_)
      ·
       have c_18p := ne_of_bne_ c_18
       refine wp_seq ?_
       refine sx_region ?_
       refine sx_rd 4 (.slice none 0 0) (by rfl) (by kernel_rfl) ?_
       refine sx_rd 5 (.int .i64 0) (by rfl) (by kernel_rfl) ?_
       refine sx_rd 6 (.bool false) (by rfl) (by kernel_rfl) ?_
       refine sx_nil ?_
       refine ex_then_n ?_
       refine wp_ret ?_
       refine ex_then_r ?_
       refine sx_end (.tuple #[.slice none 0 0, .int .i64 0, .bool false]) (res3 4 5 6 (by rfl)) ?_
       have hok : ¬ okMg l0 a1 := fun q => by
        obtain ⟨q1, q2, q3, q4, q5⟩ := q
        first | omega | (have z : handB l0 = false := (not_eq c_3); rw [q1] at z; cases z) | (have z : inB 1 3 a1 = false := (not_eq c_6); rw [inB_iff.2 ⟨q2, q3⟩] at z; cases z)
       rw [if_neg hok] at h
       simp only [Option.some.injEq, Prod.mk.injEq] at h; obtain ⟨rfl, rfl, rfl⟩ := h
       exact ⟨_, rfl, Kd.S_nil _ _ _ _ _, hc2 _ (hp.tail)⟩
      ·
       have c_18p := eq_of_bne_ c_18
       refine wp_skip ?_
       refine ex_then_n ?_
       have hi3 := inB_iff.1 (not_eq c_6)
       have hok : okMg l0 a1 := ⟨(not_eq c_3), by omega, by omega, by omega, by omega⟩
       exact ⟨_, fr_front [(0, .slice A0 l0.length c0), (3, .pointer (some ⟨g_1, 0, none⟩))] ⟨rfl, rfl, trivial⟩, (hp.take [0] 1 (by decide) (by simp)), hok⟩
     ·
      have c_14p := eq_of_bne_ c_14
      refine sx_region ?_
      refine sx_rd 13 (.slice A0 l0.length c0) (by rfl) (by kernel_rfl) ?_
      obtain ⟨k_19, hk_k_19⟩ := Ev.rounds (isHand_ev l0)
      refine sx_call 14 (by rfl) (by kernel_rfl) ((impl_IsHand.calls k_19 A0 c0 l0 _ _ (hC0 _ hp.tail) hc0 hk_k_19).mono ?_)
      rintro _ W_20 ⟨rfl, hb⟩
      refine ⟨.bool true, congrArg (fun b => Ending.returned (.bool b)) (not_eq c_3), ?_⟩
      replace hp := hp.below hb
      clear hb
      refine sx_rd 15 (.bool false) (by rfl) (by kernel_rfl) ?_
      refine sx_rd 16 (.bool false) (by rfl) (by kernel_rfl) ?_
      refine sx_want (by rfl) ?_
      refine sx_rd 17 (.int .i64 a1) (by rfl) (ld1 (t := 3) (p := (.tmp 3)) (by rfl) (by rfl) (by kernel_rfl) (hp.cell 0 (by rfl) 0 _ (by rfl))) ?_
      refine sx_want (by rfl) ?_
      refine sx_call 18 (by rfl) (by kernel_rfl) ((impl_within.calls a1 1 3 _ _ (within_eq a1 1 3)).mono ?_)
      rintro _ W_21 ⟨rfl, hb⟩
      refine ⟨.bool true, congrArg (fun b => Ending.returned (.bool b)) (not_eq c_6), ?_⟩
      replace hp := hp.below hb.below
      clear hb
      refine sx_want (by rfl) ?_
      refine sx_rd 19 (.bool false) (by rfl) (by kernel_rfl) ?_
      refine sx_rd 20 (.bool false) (by rfl) (by kernel_rfl) ?_
      refine sx_rd 21 (.bool false) (by rfl) (by kernel_rfl) ?_
      refine sx_want (by rfl) ?_
      refine sx_rd 22 (.slice A0 l0.length c0) (by rfl) (by kernel_rfl) ?_
      refine sx_want (by rfl) ?_
      refine sx_rd 23 (.int .i64 (l0.length : Int)) (by rfl) (by kernel_rfl) ?_
      refine sx_want (by rfl) ?_
      refine sx_rd 24 (.bool false) (by rfl) (bv c_10 (by kernel_rfl)) ?_
      refine sx_rd 25 (.bool false) (by rfl) (by kernel_rfl) ?_
      refine sx_rd 26 (.bool false) (by rfl) (by kernel_rfl) ?_
      refine sx_want (by rfl) ?_
      refine sx_rd 27 (.slice A0 l0.length c0) (by rfl) (by kernel_rfl) ?_
      refine sx_want (by rfl) ?_
      refine sx_rd 28 (.int .i64 (l0.length : Int)) (by rfl) (by kernel_rfl) ?_
      refine sx_want (by rfl) ?_
      refine sx_rd 29 (.int .i64 a1) (by rfl) (ld1 (t := 3) (p := (.tmp 3)) (by rfl) (by rfl) (by kernel_rfl) (hp.cell 0 (by rfl) 0 _ (by rfl))) ?_
      refine sx_want (by rfl) ?_
      refine sx_rd 30 (.bool false) (by rfl) (bv c_14 (by kernel_rfl)) ?_
      refine sx_want (by rfl) ?_
      refine sx_rd 31 (.bool false) (by rfl) (by kernel_rfl) ?_
      refine sx_skip 32 (by rfl) (by rfl) (by rfl) ?_
      refine sx_skip 33 (by rfl) (by rfl) (by rfl) ?_
      refine sx_skip 34 (by rfl) (by rfl) (by rfl) ?_
      refine sx_skip 35 (by rfl) (by rfl) (by rfl) ?_
      refine sx_skip 36 (by rfl) (by rfl) (by rfl) ?_
      refine sx_want (by rfl) ?_
      refine sx_rd 37 (.bool false) (by rfl) (by kernel_rfl) ?_
      refine sx_rd 38 (.bool false) (by rfl) (by kernel_rfl) ?_
      refine sx_nil ?_
      refine ex_then_n ?_
      refine sx_else false (by rfl) rfl ?_
      refine wp_skip ?_
      refine ex_then_n ?_
      have hi3 := inB_iff.1 (not_eq c_6)
      have hok : okMg l0 a1 := ⟨(not_eq c_3), by omega, by omega, by omega, by omega⟩
      exact ⟨_, fr_front [(0, .slice A0 l0.length c0), (3, .pointer (some ⟨g_1, 0, none⟩))] ⟨rfl, rfl, trivial⟩, (hp.take [0] 1 (by decide) (by simp)), hok⟩
 ·
  rintro _ W_22 ⟨r_, rfl, hp, hok⟩
  obtain ⟨R, wd, rfl, hwd, hR, hR3, hw, hw4, hRm, hn1, hn6⟩ := okMg_at hok
  rw [if_pos hok] at h
  unfold stMg at h
  rw [hwd, Int.toNat_natCast] at h
  by_cases hbd : ((walkL (stepM R wd) l0.length l0.length [] l0 ([], 0))).2 ≤ 1000000000
  case neg => rw [if_neg hbd] at h; cases h
  rw [if_pos hbd] at h
  refine wp_seq ?_
  refine sx_region ?_
  refine sx_box 7 hp #[.slice none 0 0] 39 (by rfl) (fun W => by kernel_rfl) ?_
  intro g_23 W_24 hp
  refine sx_box 8 hp #[.int .i64 0] 3 (by rfl) (fun W => by kernel_rfl) ?_
  intro g_25 W_26 hp
  refine sx_store (t := 39) (p := (.tmp 7)) (x := (.const (Go.Value.slice none 0 0))) (by rfl) (by rfl) 1 (by rfl) 0 [.slice none 0 0] (by rfl) (by rfl) (by kernel_rfl) (by simp [Value.oneCell']) (by show 1 ≤ 1; omega) #[.slice none 0 0] (by rfl) hp ?_
  intro W_27 hp; simp only [List.set_cons_succ, List.set_cons_zero] at hp
  refine sx_store (t := 3) (p := (.tmp 8)) (x := (.const (Go.Value.int Go.IntKind.i64 0))) (by rfl) (by rfl) 0 (by rfl) 0 [.int .i64 0] (by rfl) (by rfl) (by kernel_rfl) (by simp [Value.oneCell']) (by show 1 ≤ 1; omega) #[.int .i64 0] (by rfl) hp ?_
  intro W_28 hp; simp only [List.set_cons_succ, List.set_cons_zero] at hp
  refine sx_nil ?_
  refine ex_then_n ?_
  refine wp_seq ?_
  refine sx_region ?_
  refine sx_rd 39 (.func (.func 46) #[] #[.pointer (some ⟨g_1, 0, none⟩)]) (by rfl) (by kernel_rfl) ?_
  refine sx_box 9 hp #[.nilFunc] 67 (by rfl) (fun W => by kernel_rfl) ?_
  intro g_29 W_30 hp
  refine sx_store (t := 67) (p := (.tmp 9)) (x := (.tmp 39)) (by rfl) (by rfl) 0 (by rfl) 0 [.func (.func 46) #[] #[.pointer (some ⟨g_1, 0, none⟩)]] (by rfl) (by rfl) (by kernel_rfl) (by simp [Value.oneCell']) (by show 1 ≤ 1; omega) #[.func (.func 46) #[] #[.pointer (some ⟨g_1, 0, none⟩)]] (by rfl) hp ?_
  intro W_31 hp; simp only [List.set_cons_succ, List.set_cons_zero] at hp
  refine sx_nil ?_
  refine ex_then_n ?_
  refine wp_seq ?_
  refine sx_region ?_
  refine sx_rd 40 (.slice A0 l0.length c0) (by rfl) (by kernel_rfl) ?_
  refine sx_rd 41 (.slice A0 l0.length c0) (by rfl) (by kernel_rfl) ?_
  refine sx_rd 42 (.int .i64 (l0.length : Int)) (by rfl) (by kernel_rfl) ?_
  refine sx_rd 43 (.func (.func 50) #[] #[.pointer (some ⟨g_29, 0, none⟩), .pointer (some ⟨g_25, 0, none⟩), .pointer (some ⟨g_23, 0, none⟩)]) (by rfl) (by kernel_rfl) ?_
  have hp := hp.nilrow (Kd.int .i64) 3 w.heap.size
  refine sx_call 44 (by rfl) (by kernel_rfl) ((laidM_sx g_25 g_23 g_29 g_1 R wd hw hw4 hR hR3 w _ (cs) l0 A0 c0 hRm (by omega) hc0 (fun W h => hC0 W h) ([], 0) (fun q => (q rfl).elim) none 0 _ (fun _ => ⟨rfl, rfl⟩) hbd (hp.take [2, 3, 0, 1, 4] 5 (by decide) (by simp))).mono ?_)
  rintro _ W_32 ⟨A2, c2, F2, rfl, hn2, hp⟩
  refine ⟨_, rfl, ?_⟩
  refine sx_nil ?_
  refine ex_then_n ?_
  refine wp_seq ?_
  refine wp_seq ?_
  refine sx_region ?_
  refine sx_rd 45 (.int .i64 ((walkL (stepM R wd) l0.length l0.length [] l0 ([], 0)).2 : Int)) (by rfl) (ld1 (t := 3) (p := (.tmp 8)) (by rfl) (by rfl) (by kernel_rfl) (hp.cell 0 (by rfl) 0 _ (by rfl))) ?_
  refine sx_rd 46 (.bool (((walkL (stepM R wd) l0.length l0.length [] l0 ([], 0)).2 : Int) == 0)) (by rfl) (by kernel_rfl) ?_
  refine sx_nil ?_
  refine ex_then_n ?_
  refine sx_cond (((walkL (stepM R wd) l0.length l0.length [] l0 ([], 0)).2 : Int) == 0) (by rfl) (fun c_33 => ?_) (fun c_33 => ?_)
  ·
   have c_33p := eq_of_beq_ c_33
   refine wp_seq ?_
   refine sx_region ?_
   refine sx_rd 4 (.slice none 0 0) (by rfl) (by kernel_rfl) ?_
   refine sx_rd 5 (.int .i64 0) (by rfl) (by kernel_rfl) ?_
   refine sx_rd 6 (.bool true) (by rfl) (by kernel_rfl) ?_
   refine sx_nil ?_
   refine ex_then_n ?_
   refine wp_ret ?_
   refine ex_then_r ?_
   refine sx_end (.tuple #[.slice none 0 0, .int .i64 0, .bool true]) (res3 4 5 6 (by rfl)) ?_
   rw [if_pos (by omega)] at h
   simp only [Option.some.injEq, Prod.mk.injEq] at h; obtain ⟨rfl, rfl, rfl⟩ := h
   exact ⟨_, rfl, Kd.S_nil _ _ _ _ _, hc2 _ (hp.tail.tail.tail.tail.tail)⟩
  ·
   have c_33p := ne_of_beq_ c_33
   refine wp_skip ?_
   refine ex_then_n ?_
   refine wp_seq ?_
   refine sx_region ?_
   refine sx_lit 47 (by rfl) (Kd.tag (fun _ => 0) (Kd.slice 3 (Kd.int .i64))) w.heap.size 39 [] [] (fun W => by kernel_rfl) (Reps.none _ _) (by simp) hp.size hp ?_
   intro g_34 F_35 W_36 hp hz; clear hz; replace hp := hp.litS0
   refine sx_rd 10 (.slice (some ⟨g_34, 0, none⟩) (([] : List (List Int)).length) (([] : List (List Int)).length)) (by rfl) (by kernel_rfl) ?_
   refine sx_nil ?_
   refine ex_then_n ?_
   refine wp_seq ?_
   refine wp_seq ?_
   refine sx_region ?_
   refine sx_rd 48 (.func (.func 46) #[] #[.pointer (some ⟨g_1, 0, none⟩)]) (by rfl) (ld1 (t := 67) (p := (.tmp 9)) (by rfl) (by rfl) (by kernel_rfl) (hp.cell 4 (by rfl) 0 _ (by rfl))) ?_
   refine sx_rd 49 (.slice A2 ((walkL (stepM R wd) l0.length l0.length [] l0 ([], 0)).1.length) c2) (by rfl) (ld1 (t := 39) (p := (.tmp 7)) (by rfl) (by rfl) (by kernel_rfl) (hp.cell 2 (by rfl) 0 _ (by rfl))) ?_
   have hbne := walkM_ne (R := R) (wd := wd) (m := l0.length) (n := l0.length) (l := []) (H := l0) (by omega) (by omega)
   have hbl := walkM_len (R := R) (wd := wd) (m := l0.length) (n := l0.length) (l := []) (H := l0) (s := ([], 0)) (fun q => (q rfl).elim) hbne
   obtain ⟨gl, rfl⟩ := row_form (hp.at_ 3 _ (by rfl)) (List.length_pos_iff.2 hbne)
   refine sx_call 50 (by rfl) (by kernel_rfl) ((split_sx g_1 gl w _ (rowS (Kd.slice 3 (Kd.int .i64)) 39 w.heap.size (.slice (some ⟨g_34, 0, none⟩) (([] : List (List Int)).length) (([] : List (List Int)).length)) ([] : List (List Int)) F_35 :: blk g_25 #[.int .i64 ((walkL (stepM R wd) l0.length l0.length [] l0 ([], 0)).2 : Int)] 3 :: blk g_23 #[.slice (some ⟨gl, 0, none⟩) ((walkL (stepM R wd) l0.length l0.length [] l0 ([], 0)).1.length) c2] 39 :: blk g_29 #[.func (.func 46) #[] #[.pointer (some ⟨g_1, 0, none⟩)]] 67 :: cs) (walkL (stepM R wd) l0.length l0.length [] l0 ([], 0)).1 c2 F2 R wd hw (by omega) hR (by omega) (by omega) (hp.take [3, 5, 0, 1, 2, 4] 6 (by decide) (by simp))).mono ?_)
   rintro _ W_37 ⟨AK, cK, FK, rfl, hp⟩
   refine ⟨_, rfl, ?_⟩
   have hN : R * wd = (walkL (stepM R wd) l0.length l0.length [] l0 ([], 0)).1.length := by omega
   have hchl := chunksL_len R wd (walkL (stepM R wd) l0.length l0.length [] l0 ([], 0)).1
   refine sx_rd 51 (.int .i64 ((chunksL R wd (walkL (stepM R wd) l0.length l0.length [] l0 ([], 0)).1).length : Int)) (by rfl) (by kernel_rfl) ?_
   refine sx_rd 52 (.int .i64 0) (by rfl) (by kernel_rfl) ?_
   refine sx_nil ?_
   refine ex_then_n ?_
   refine wp_block ?_
   have e0_38 : ([] : List (List Int)) = ((chunksL R wd (walkL (stepM R wd) l0.length l0.length [] l0 ([], 0)).1).take 0) := rfl
   have hp : Hp w (row hdrK 39 w.heap.size (.slice AK ((hdrsL gl wd R).length) cK) (hdrsL gl wd R) FK :: row (Kd.int .i64) 3 w.heap.size (.slice (some ⟨gl, 0, none⟩) ((walkL (stepM R wd) l0.length l0.length [] l0 ([], 0)).1.length) c2) ((walkL (stepM R wd) l0.length l0.length [] l0 ([], 0)).1) F2 :: blk g_1 #[.int .i64 (R : Int)] 3 :: rowS (Kd.slice 3 (Kd.int .i64)) 39 w.heap.size (.slice (some ⟨g_34, 0, none⟩) (([] : List (List Int)).length) (([] : List (List Int)).length)) ((chunksL R wd (walkL (stepM R wd) l0.length l0.length [] l0 ([], 0)).1).take 0) F_35 :: blk g_25 #[.int .i64 ((walkL (stepM R wd) l0.length l0.length [] l0 ([], 0)).2 : Int)] 3 :: blk g_23 #[.slice (some ⟨gl, 0, none⟩) ((walkL (stepM R wd) l0.length l0.length [] l0 ([], 0)).1.length) c2] 39 :: blk g_29 #[.func (.func 46) #[] #[.pointer (some ⟨g_1, 0, none⟩)]] 67 :: cs) W_37 := by rw [← e0_38]; exact hp
   refine wp_loop_ghost (fun n_ a_ W => ∃ (r_ : List (Nat × Value)) (i : Nat) (Ai10 : Option Addr) (ni10 ci10 : Nat) (Fi10 : Nat → Prop), n_ = (chunksL R wd (walkL (stepM R wd) l0.length l0.length [] l0 ([], 0)).1).length - i ∧ a_ = fr 64 ([(8, .pointer (some ⟨g_25, 0, none⟩)), (10, .slice Ai10 ni10 ci10), (50, .slice AK ((chunksL R wd (walkL (stepM R wd) l0.length l0.length [] l0 ([], 0)).1).length) cK), (51, .int .i64 ((chunksL R wd (walkL (stepM R wd) l0.length l0.length [] l0 ([], 0)).1).length : Int)), (52, .int .i64 (i : Int))] ++ r_) ∧ Hp w (rowS (Kd.slice 3 (Kd.int .i64)) 39 w.heap.size (.slice Ai10 ni10 ci10) ((chunksL R wd (walkL (stepM R wd) l0.length l0.length [] l0 ([], 0)).1).take i) Fi10 :: row hdrK 39 w.heap.size (.slice AK ((hdrsL gl wd R).length) cK) (hdrsL gl wd R) FK :: row (Kd.int .i64) 3 w.heap.size (.slice (some ⟨gl, 0, none⟩) ((walkL (stepM R wd) l0.length l0.length [] l0 ([], 0)).1.length) c2) ((walkL (stepM R wd) l0.length l0.length [] l0 ([], 0)).1) F2 :: blk g_1 #[.int .i64 (R : Int)] 3 :: blk g_25 #[.int .i64 ((walkL (stepM R wd) l0.length l0.length [] l0 ([], 0)).2 : Int)] 3 :: blk g_23 #[.slice (some ⟨gl, 0, none⟩) ((walkL (stepM R wd) l0.length l0.length [] l0 ([], 0)).1.length) c2] 39 :: blk g_29 #[.func (.func 46) #[] #[.pointer (some ⟨g_1, 0, none⟩)]] 67 :: cs) W ∧ (i ≤ (chunksL R wd (walkL (stepM R wd) l0.length l0.length [] l0 ([], 0)).1).length)) _ ⟨_, 0, _, _, _, _, rfl, fr_front [(8, .pointer (some ⟨g_25, 0, none⟩)), (10, .slice (some ⟨g_34, 0, none⟩) (([] : List (List Int)).length) (([] : List (List Int)).length)), (50, .slice AK ((chunksL R wd (walkL (stepM R wd) l0.length l0.length [] l0 ([], 0)).1).length) cK), (51, .int .i64 ((chunksL R wd (walkL (stepM R wd) l0.length l0.length [] l0 ([], 0)).1).length : Int)), (52, .int .i64 0)] ⟨rfl, rfl, rfl, rfl, rfl, trivial⟩, (hp.take [3, 0, 1, 2, 4, 5, 6] 7 (by decide) (by simp)), Nat.zero_le _⟩ ?_
   rintro _ _ W_39 ⟨r_, i, Ai10, ni10, ci10, Fi10, rfl, rfl, hp, hi⟩
   obtain ⟨rfl, hcci10⟩ := rowS_len (hp.at_ 0 _ (by rfl))
   have hol : ((chunksL R wd (walkL (stepM R wd) l0.length l0.length [] l0 ([], 0)).1).take i).length ≤ i := by rw [List.length_take]; omega
   refine wp_seq ?_
   refine sx_region ?_
   refine sx_rd 53 (.bool (decide ((i : Int) < ((chunksL R wd (walkL (stepM R wd) l0.length l0.length [] l0 ([], 0)).1).length : Int)))) (by rfl) (by kernel_rfl) ?_
   refine sx_nil ?_
   refine ex_then_n ?_
   refine wp_seq ?_
   refine sx_cond (decide ((i : Int) < ((chunksL R wd (walkL (stepM R wd) l0.length l0.length [] l0 ([], 0)).1).length : Int))) (by rfl) (fun c_40 => ?_) (fun c_40 => ?_)
   ·
    have c_40p := of_decide_eq_true c_40
    have hkC : Kd.C (Kd.slice 3 (Kd.int .i64)) W_39 AK (chunksL R wd (walkL (stepM R wd) l0.length l0.length [] l0 ([], 0)).1).length (chunksL R wd (walkL (stepM R wd) l0.length l0.length [] l0 ([], 0)).1) := hdrs_C (row_C (hp.at_ 1 _ (by rfl))) (row_C (hp.at_ 2 _ (by rfl))) hN
    obtain ⟨hHc, hHC, hHl⟩ : W_39.cell? (adr AK (i : Int) 1) = some (.slice (some ⟨gl, i * wd, none⟩) (rd_i64s (chunksL R wd (walkL (stepM R wd) l0.length l0.length [] l0 ([], 0)).1) (i : Int)).length wd) ∧ Kd.C (Kd.int .i64) W_39 (some ⟨gl, i * wd, none⟩) (rd_i64s (chunksL R wd (walkL (stepM R wd) l0.length l0.length [] l0 ([], 0)).1) (i : Int)).length (rd_i64s (chunksL R wd (walkL (stepM R wd) l0.length l0.length [] l0 ([], 0)).1) (i : Int)) ∧ (rd_i64s (chunksL R wd (walkL (stepM R wd) l0.length l0.length [] l0 ([], 0)).1) (i : Int)).length ≤ wd := hdrs_at (row_C (hp.at_ 1 _ (by rfl))) (row_C (hp.at_ 2 _ (by rfl))) hN (i := i) (by omega)
    refine wp_skip ?_
    refine ex_then_n ?_
    refine wp_seq ?_
    refine wp_block ?_
    refine wp_seq ?_
    refine sx_region ?_
    refine sx_rd 54 (.pointer (some (adr AK (i : Int) 1))) (by rfl) (ix_run (d := (Kd.slice 3 (Kd.int .i64))) hkC (t := 30) (by rfl) (by rfl) (by rfl) Try.underlying30 (by kernel_rfl) (by omega) (by omega)) ?_
    refine sx_rd 55 (.slice (some ⟨gl, i * wd, none⟩) ((rd_i64s (chunksL R wd (walkL (stepM R wd) l0.length l0.length [] l0 ([], 0)).1) (i : Int)).length) wd) (by rfl) (ld1 (t := 39) (p := (.tmp 54)) (by rfl) (by rfl) (by kernel_rfl) hHc) ?_
    refine sx_rd 12 (.slice (some ⟨gl, i * wd, none⟩) ((rd_i64s (chunksL R wd (walkL (stepM R wd) l0.length l0.length [] l0 ([], 0)).1) (i : Int)).length) wd) (by rfl) (by kernel_rfl) ?_
    refine sx_nil ?_
    refine ex_then_n ?_
    refine sx_region ?_
    refine sx_rd 56 (.slice Ai10 (((chunksL R wd (walkL (stepM R wd) l0.length l0.length [] l0 ([], 0)).1).take i).length) ci10) (by rfl) (by kernel_rfl) ?_
    refine sx_rd 57 (.slice (some ⟨gl, i * wd, none⟩) ((rd_i64s (chunksL R wd (walkL (stepM R wd) l0.length l0.length [] l0 ([], 0)).1) (i : Int)).length) wd) (by rfl) (by kernel_rfl) ?_
    refine sx_call 58 (by rfl) (by kernel_rfl) ((slices_Clone_int_int.calls (some ⟨gl, i * wd, none⟩) wd (rd_i64s (chunksL R wd (walkL (stepM R wd) l0.length l0.length [] l0 ([], 0)).1) (i : Int)) _ _ hHC hHl (cloneI_eq (rd_i64s (chunksL R wd (walkL (stepM R wd) l0.length l0.length [] l0 ([], 0)).1) (i : Int)) (by omega))).mono ?_)
    rintro _ W_46 ⟨v_42, rfl, hR_41, hb⟩
    refine ⟨_, rfl, ?_⟩
    obtain ⟨A_43, c_44, rfl, hcc_c_44, _⟩ := Kd.R_reads hR_41
    obtain ⟨F_45, hp⟩ : ∃ F, Hp w (row (Kd.int .i64) 3 w.heap.size (.slice A_43 (rd_i64s (chunksL R wd (walkL (stepM R wd) l0.length l0.length [] l0 ([], 0)).1) (i : Int)).length c_44) (rd_i64s (chunksL R wd (walkL (stepM R wd) l0.length l0.length [] l0 ([], 0)).1) (i : Int)) F :: rowS (Kd.slice 3 (Kd.int .i64)) 39 w.heap.size (.slice Ai10 (((chunksL R wd (walkL (stepM R wd) l0.length l0.length [] l0 ([], 0)).1).take i).length) ci10) ((chunksL R wd (walkL (stepM R wd) l0.length l0.length [] l0 ([], 0)).1).take i) Fi10 :: row hdrK 39 w.heap.size (.slice AK ((hdrsL gl wd R).length) cK) (hdrsL gl wd R) FK :: row (Kd.int .i64) 3 w.heap.size (.slice (some ⟨gl, 0, none⟩) ((walkL (stepM R wd) l0.length l0.length [] l0 ([], 0)).1.length) c2) ((walkL (stepM R wd) l0.length l0.length [] l0 ([], 0)).1) F2 :: blk g_1 #[.int .i64 (R : Int)] 3 :: blk g_25 #[.int .i64 ((walkL (stepM R wd) l0.length l0.length [] l0 ([], 0)).2 : Int)] 3 :: blk g_23 #[.slice (some ⟨gl, 0, none⟩) ((walkL (stepM R wd) l0.length l0.length [] l0 ([], 0)).1.length) c2] 39 :: blk g_29 #[.func (.func 46) #[] #[.pointer (some ⟨g_1, 0, none⟩)]] 67 :: cs) _ := ⟨_, Hp.made hp hb hR_41⟩
    have hp := (hp.take [1, 0, 2, 3, 4, 5, 6, 7] 8 (by decide) (by simp))
    refine sx_pushS 59 60 (by rfl) (by rfl) (fun W => by kernel_rfl) (t := 30) (.slice none 0 0) 24 (by rfl) Try.underlying30 (by kernel_rfl) rfl (by decide) (by rfl) (by rfl) hp.size (by omega) hp ?_
    intro A_47 c_48 F_49 W_50 hp
    refine sx_rd 10 (.slice A_47 ((((chunksL R wd (walkL (stepM R wd) l0.length l0.length [] l0 ([], 0)).1).take i) ++ [(rd_i64s (chunksL R wd (walkL (stepM R wd) l0.length l0.length [] l0 ([], 0)).1) (i : Int))]).length) c_48) (by rfl) (by kernel_rfl) ?_
    refine sx_nil ?_
    refine ex_blk_n ?_
    refine ex_then_n ?_
    refine sx_region ?_
    refine sx_rd 61 (.int .i64 ((i : Int) + 1)) (by rfl) (wr_ok (by omega) (by kernel_rfl)) ?_
    refine sx_rd 52 (.int .i64 ((i : Int) + 1)) (by rfl) (by kernel_rfl) ?_
    refine sx_nil ?_
    refine ex_then_n ?_
    have hq_51 : (((chunksL R wd (walkL (stepM R wd) l0.length l0.length [] l0 ([], 0)).1).take i) ++ [(rd_i64s (chunksL R wd (walkL (stepM R wd) l0.length l0.length [] l0 ([], 0)).1) (i : Int))]) = ((chunksL R wd (walkL (stepM R wd) l0.length l0.length [] l0 ([], 0)).1).take (i + 1)) := take_push (chunksL R wd (walkL (stepM R wd) l0.length l0.length [] l0 ([], 0)).1) i (by omega)
    rw [hq_51] at hp
    exact ⟨_, (by omega), _, (i + 1), _, _, _, _, rfl, fr_front [(8, .pointer (some ⟨g_25, 0, none⟩)), (10, .slice A_47 (((chunksL R wd (walkL (stepM R wd) l0.length l0.length [] l0 ([], 0)).1).take (i + 1)).length) c_48), (50, .slice AK ((chunksL R wd (walkL (stepM R wd) l0.length l0.length [] l0 ([], 0)).1).length) cK), (51, .int .i64 ((chunksL R wd (walkL (stepM R wd) l0.length l0.length [] l0 ([], 0)).1).length : Int)), (52, .int .i64 ((i + 1 : Nat) : Int))] ⟨rfl, congrArg (fun z : List (List Int) => Value.slice A_47 z.length c_48) hq_51, rfl, rfl, rfl, trivial⟩, (hp.take [0, 1, 2, 3, 4, 5, 6] 7 (by decide) (by simp)), (by omega)⟩
   ·
    have c_40p := of_decide_eq_false c_40
    have hq : ((chunksL R wd (walkL (stepM R wd) l0.length l0.length [] l0 ([], 0)).1).take i) = (chunksL R wd (walkL (stepM R wd) l0.length l0.length [] l0 ([], 0)).1) := List.take_of_length_le (by omega)
    rw [hq] at hp
    rw [hq]
    refine wp_exit ?_
    refine ex_then_e (ex_then_e (ex_blk_here ?_))
    refine ex_then_n ?_
    refine wp_seq ?_
    refine sx_drawT [0, 2] (.rd 1 (.rd 3 (.rd 4 (.fin)))) 5 (C := Hp w (rowS (Kd.slice 3 (Kd.int .i64)) 39 w.heap.size (.slice Ai10 ((chunksL R wd (walkL (stepM R wd) l0.length l0.length [] l0 ([], 0)).1).length) ci10) (chunksL R wd (walkL (stepM R wd) l0.length l0.length [] l0 ([], 0)).1) Fi10 :: row hdrK 39 w.heap.size (.slice AK ((hdrsL gl wd R).length) cK) (hdrsL gl wd R) FK :: row (Kd.int .i64) 3 w.heap.size (.slice (some ⟨gl, 0, none⟩) ((walkL (stepM R wd) l0.length l0.length [] l0 ([], 0)).1.length) c2) ((walkL (stepM R wd) l0.length l0.length [] l0 ([], 0)).1) F2 :: blk g_1 #[.int .i64 (R : Int)] 3 :: blk g_25 #[.int .i64 ((walkL (stepM R wd) l0.length l0.length [] l0 ([], 0)).2 : Int)] 3 :: blk g_23 #[.slice (some ⟨gl, 0, none⟩) ((walkL (stepM R wd) l0.length l0.length [] l0 ([], 0)).1.length) c2] 39 :: blk g_29 #[.func (.func 46) #[] #[.pointer (some ⟨g_1, 0, none⟩)]] 67 :: cs)) (by kernel_rfl) (by kernel_rfl) (fun d _ _ _ _ h => by cases d <;> exact h) (fun W h => h.drew) hp ?_
    refine preI_read rfl ?_
    refine sxq_val 62 (.slice Ai10 ((chunksL R wd (walkL (stepM R wd) l0.length l0.length [] l0 ([], 0)).1).length) ci10) (by rfl) (fun W _ => (by kernel_rfl)) ?_
    refine sxq_nil ?_
    refine preI_read rfl ?_
    refine sxq_val 4 (.slice Ai10 ((chunksL R wd (walkL (stepM R wd) l0.length l0.length [] l0 ([], 0)).1).length) ci10) (by rfl) (fun W _ => (by kernel_rfl)) ?_
    refine sxq_nil ?_
    refine preI_nil ?_
    intro W_52 hp
    refine treeI_rd rfl ?_
    refine sxq_val 63 (.int .i64 ((walkL (stepM R wd) l0.length l0.length [] l0 ([], 0)).2 : Int)) (by rfl) (fun W hp => (ld1 (t := 3) (p := (.tmp 8)) (by rfl) (by rfl) (by kernel_rfl) (hp.cell 4 (by rfl) 0 _ (by rfl)))) ?_
    refine sxq_nil ?_
    refine treeI_rd rfl ?_
    refine sxq_val 5 (.int .i64 ((walkL (stepM R wd) l0.length l0.length [] l0 ([], 0)).2 : Int)) (by rfl) (fun W hp => (by kernel_rfl)) ?_
    refine sxq_nil ?_
    refine treeI_rd rfl ?_
    refine sxq_val 6 (.bool true) (by rfl) (fun W hp => (by kernel_rfl)) ?_
    refine sxq_nil ?_
    refine treeI_fin ?_
    refine sx_nil ?_
    refine ex_then_n ?_
    refine wp_ret ?_
    refine sx_end (.tuple #[.slice Ai10 ((chunksL R wd (walkL (stepM R wd) l0.length l0.length [] l0 ([], 0)).1).length) ci10, .int .i64 ((walkL (stepM R wd) l0.length l0.length [] l0 ([], 0)).2 : Int), .bool true]) (res3 4 5 6 (by rfl)) ?_
    rw [if_neg (by omega)] at h
    simp only [Option.some.injEq, Prod.mk.injEq] at h; obtain ⟨rfl, rfl, rfl⟩ := h
    exact ⟨_, rfl, Kd.S_mono (rowS_S (hp.at_ 0 _ (by rfl))) (fun _ _ => trivial), hc2 _ (hp.tail.tail.tail.tail.tail.tail.tail)⟩
end Go.Proofs.Ytbkaedmabdgdhaa.Hd
