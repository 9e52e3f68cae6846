/- spec.CanPlay, spec.PlaysFor, by hand. -/
import Derived.Test.YtlphnpinpflaaaaMLyFor
import Derived.Test.YtlphnpinpflaaaaPTile
import Derived.Test.YtlphnpinpflaaaaG0
namespace Go.Proofs.Ytlphnpinpflaaaa.Hd
open Go.RowKit Go.Proofs.Ytlphnpinpflaaaa.Pure Go.Proofs.YtlphnpinpflaaaaW.PrintWords Go.Proofs.YtlphnpinpflaaaaW.PrintLast Go.Proofs.YtlphnpinpflaaaaW.PrintMore
set_option linter.unusedVariables false
set_option linter.unusedSimpArgs false
theorem tiHand_c (l : List S_Tile) (A : Option Addr) (c : Nat) (hc : l.length ≤ c) (w : World) (h : Kd.C k51 w A l.length l) :
    Calls Try.prog 85 #[.slice A l.length c] w fun e w' => e = .returned (.bool (handB l)) ∧ Below w.heap.size w w' := by
  obtain ⟨k, hk⟩ := (tiHand_ev l).rounds
  exact spec_tiHand.calls k A c l _ w h hc hk
set_option maxRecDepth 100000 in
set_option maxHeartbeats 40000000 in
theorem lyAsked_none (w0 W : World) (cs : List Chunk) (plays : List S_Play) (A : Option Addr) (c : Nat) (hl : plays.length ≤ 8388608) (hand : List S_Tile) (AH : Option Addr) (cH : Nat) (hcH : hand.length ≤ cH) (hC : ∀ W, Hp w0 cs W → Kd.C k53 W A plays.length plays) (hH : ∀ W, Hp w0 cs W → Kd.C k51 W AH hand.length hand) (hp : Hp w0 cs W) (hf : lyReadF plays = none) :
    Calls Try.prog 61 #[.slice A plays.length c, .slice AH hand.length cH] W fun e W' => ∃ g, e = .returned (.tuple #[.pointer (some ⟨g, 0, none⟩), .bool false]) ∧ Hp w0 cs W' := by
  refine sx_enter (N := 19) (l := [.slice A plays.length c, .slice AH hand.length cH]) Try.func61 rfl rfl rfl ?_
  refine wp_seq ?_
  refine sx_region ?_
  refine sx_rd 4 (.pointer none) (by rfl) (by kernel_rfl) ?_
  refine sx_rd 5 (.bool false) (by rfl) (by kernel_rfl) ?_
  refine sx_nil ?_
  refine ex_then_n ?_
  refine wp_seq ?_
  refine sx_region ?_
  refine sx_rd 9 (.slice A plays.length c) (by rfl) (by kernel_rfl) ?_
  refine sx_call 10 (by rfl) (by kernel_rfl) ((lyRead_none w0 _ cs plays A c hl hC hp hf).mono ?_)
  rintro _ W_1 ⟨g, rfl, hp⟩
  refine ⟨_, rfl, ?_⟩
  refine sx_rd 8 (.tuple #[.pointer (some ⟨g, 0, none⟩), .bool false]) (by rfl) (by kernel_rfl) ?_
  refine sx_rd 11 (.pointer (some ⟨g, 0, none⟩)) (by rfl) (by kernel_rfl) ?_
  refine sx_rd 12 (.bool false) (by rfl) (by kernel_rfl) ?_
  refine sx_rd 6 (.pointer (some ⟨g, 0, none⟩)) (by rfl) (by kernel_rfl) ?_
  refine sx_rd 7 (.bool false) (by rfl) (by kernel_rfl) ?_
  refine sx_nil ?_
  refine ex_then_n ?_
  refine wp_seq ?_
  refine sx_region ?_
  refine sx_rd 13 (.pointer (some ⟨g, 0, none⟩)) (by rfl) (by kernel_rfl) ?_
  refine sx_rd 14 (.bool false) (by rfl) (by kernel_rfl) ?_
  refine sx_rd 15 (.bool false) (by rfl) (by kernel_rfl) ?_
  refine sx_skip 16 (by rfl) (by rfl) (by rfl) ?_
  refine sx_skip 17 (by rfl) (by rfl) (by rfl) ?_
  refine sx_rd 18 (.bool false) (by rfl) (by kernel_rfl) ?_
  refine sx_rd 4 (.pointer (some ⟨g, 0, none⟩)) (by rfl) (by kernel_rfl) ?_
  refine sx_rd 5 (.bool false) (by rfl) (by kernel_rfl) ?_
  refine sx_nil ?_
  refine ex_then_n ?_
  refine wp_ret ?_
  refine sx_end (.tuple #[.pointer (some ⟨g, 0, none⟩), .bool false]) (res2 4 5 (by rfl)) ?_
  exact ⟨g, rfl, hp⟩
set_option maxRecDepth 100000 in
set_option maxHeartbeats 40000000 in
theorem lyAsked_some (w0 W : World) (cs : List Chunk) (plays : List S_Play) (A : Option Addr) (c : Nat) (hl : plays.length ≤ 8388608) (hand : List S_Tile) (AH : Option Addr) (cH : Nat) (hcH : hand.length ≤ cH) (hC : ∀ W, Hp w0 cs W → Kd.C k53 W A plays.length plays) (hH : ∀ W, Hp w0 cs W → Kd.C k51 W AH hand.length hand) (hp : Hp w0 cs W) (s : LySt) (hf : lyReadF plays = some s) :
    Calls Try.prog 61 #[.slice A plays.length c, .slice AH hand.length cH] W fun e W' => ∃ g A1 c1 A2 c2 F1 F2, e = .returned (.tuple #[.pointer (some ⟨g, 0, none⟩), .bool (handB hand)]) ∧ Hp w0 (blk g #[.slice A1 s.ar.length c1, .slice A2 s.ti.length c2, .int .i64 s.sp, .int .i64 s.wt, .bool s.fi, .bool s.l0, .bool s.l1] 83 :: row k85 85 w0.heap.size (.slice A1 s.ar.length c1) s.ar F1 :: row k51 51 w0.heap.size (.slice A2 s.ti.length c2) s.ti F2 :: cs) W' := by
  refine sx_enter (N := 19) (l := [.slice A plays.length c, .slice AH hand.length cH]) Try.func61 rfl rfl rfl ?_
  refine wp_seq ?_
  refine sx_region ?_
  refine sx_rd 4 (.pointer none) (by rfl) (by kernel_rfl) ?_
  refine sx_rd 5 (.bool false) (by rfl) (by kernel_rfl) ?_
  refine sx_nil ?_
  refine ex_then_n ?_
  refine wp_seq ?_
  refine sx_region ?_
  refine sx_rd 9 (.slice A plays.length c) (by rfl) (by kernel_rfl) ?_
  refine sx_call 10 (by rfl) (by kernel_rfl) ((lyRead_some w0 _ cs plays A c hl hC hp s hf).mono ?_)
  rintro _ W_1 ⟨g, A1, c1, A2, c2, F1, F2, rfl, hp⟩
  refine ⟨_, rfl, ?_⟩
  refine sx_rd 8 (.tuple #[.pointer (some ⟨g, 0, none⟩), .bool true]) (by rfl) (by kernel_rfl) ?_
  refine sx_rd 11 (.pointer (some ⟨g, 0, none⟩)) (by rfl) (by kernel_rfl) ?_
  refine sx_rd 12 (.bool true) (by rfl) (by kernel_rfl) ?_
  refine sx_rd 6 (.pointer (some ⟨g, 0, none⟩)) (by rfl) (by kernel_rfl) ?_
  refine sx_rd 7 (.bool true) (by rfl) (by kernel_rfl) ?_
  refine sx_nil ?_
  refine ex_then_n ?_
  refine wp_seq ?_
  refine sx_region ?_
  refine sx_rd 13 (.pointer (some ⟨g, 0, none⟩)) (by rfl) (by kernel_rfl) ?_
  refine sx_rd 14 (.bool true) (by rfl) (by kernel_rfl) ?_
  refine sx_rd 15 (.bool true) (by rfl) (by kernel_rfl) ?_
  refine sx_want (by rfl) ?_
  refine sx_rd 16 (.slice AH hand.length cH) (by rfl) (by kernel_rfl) ?_
  refine sx_want (by rfl) ?_
  refine sx_call 17 (by rfl) (by kernel_rfl) ((tiHand_c hand _ _ hcH _ (hH _ hp.tail.tail.tail)).mono ?_)
  rintro _ W_2 ⟨rfl, hb⟩
  refine ⟨_, rfl, ?_⟩
  replace hp := hp.below hb
  clear hb
  refine sx_rd 18 (.bool (handB hand)) (by rfl) (by kernel_rfl) ?_
  refine sx_rd 4 (.pointer (some ⟨g, 0, none⟩)) (by rfl) (by kernel_rfl) ?_
  refine sx_rd 5 (.bool (handB hand)) (by rfl) (by kernel_rfl) ?_
  refine sx_nil ?_
  refine ex_then_n ?_
  refine wp_ret ?_
  refine sx_end (.tuple #[.pointer (some ⟨g, 0, none⟩), .bool (handB hand)]) (res2 4 5 (by rfl)) ?_
  exact ⟨g, A1, c1, A2, c2, F1, F2, rfl, hp⟩
def spec_CanPlay.f (l : List S_Play) (hand : List S_Tile) : Option (Bool × Bool) := if l.length ≤ 8388608 ∧ hand.length ≤ 1048576 then (match lyReadF l with | some s => if handB hand = true then some (decide (((lyForF s hand).length : Int) > 0), true) else some (false, false) | none => some (false, false)) else none
set_option maxRecDepth 100000 in
set_option maxHeartbeats 40000000 in
theorem spec_CanPlay.calls (A0 : Option Addr) (c0 : Nat) (l0 : List S_Play) (AN : Option Addr) (cN : Nat) (l1 : List S_Tile) (r0 r1 : Bool) (w : World) (hr0 : Kd.C k53 w A0 l0.length l0) (hc0 : l0.length ≤ c0) (hrN : Kd.C k51 w AN l1.length l1) (hcN : l1.length ≤ cN) (h : spec_CanPlay.f l0 l1 = some (r0, r1)) :
    Calls Try.prog 32 #[.slice A0 l0.length c0, .slice AN l1.length cN] w fun e w' => e = .returned (.tuple #[.bool r0, .bool r1]) ∧ Below w.heap.size w w' := by
  unfold spec_CanPlay.f at h
  by_cases hsz : l0.length ≤ 8388608 ∧ l1.length ≤ 1048576
  · rw [if_pos hsz] at h
    obtain ⟨hlen, hlen1⟩ := hsz
    obtain ⟨cs, hcs⟩ : ∃ cs, cs = [old w w.heap.size] := ⟨_, rfl⟩
    have hp : Hp w cs w := by rw [hcs]; exact Hp.old_start w
    have hc2 : ∀ W, Hp w cs W → Below w.heap.size w W := fun W h => by rw [hcs] at h; exact h.since 0 _ rfl
    have hC : ∀ W, Hp w cs W → Kd.C k53 W A0 l0.length l0 := fun W h => Kd.C_below hr0 (hc2 W h)
    have hD : ∀ W, Hp w cs W → Kd.C k51 W AN l1.length l1 := fun W h => Kd.C_below hrN (hc2 W h)
    clear hcs
    cases hf : lyReadF l0 with
    | none =>
      rw [hf] at h; dsimp only at h
      refine sx_enter (N := 21) (l := [.slice A0 l0.length c0, .slice AN l1.length cN]) Try.func32 rfl rfl rfl ?_
      refine wp_seq ?_
      refine sx_region ?_
      refine sx_rd 4 (.bool false) (by rfl) (by kernel_rfl) ?_
      refine sx_rd 5 (.bool false) (by rfl) (by kernel_rfl) ?_
      refine sx_nil ?_
      refine ex_then_n ?_
      refine wp_seq ?_
      refine sx_region ?_
      refine sx_rd 9 (.slice A0 l0.length c0) (by rfl) (by kernel_rfl) ?_
      refine sx_rd 10 (.slice AN l1.length cN) (by rfl) (by kernel_rfl) ?_
      refine sx_call 11 (by rfl) (by kernel_rfl) ((lyAsked_none w _ cs l0 A0 c0 hlen l1 AN cN hcN hC hD hp hf).mono ?_)
      rintro _ W_1 ⟨g, rfl, hp⟩
      refine ⟨_, rfl, ?_⟩
      refine sx_rd 8 (.tuple #[.pointer (some ⟨g, 0, none⟩), .bool false]) (by rfl) (by kernel_rfl) ?_
      refine sx_rd 12 (.pointer (some ⟨g, 0, none⟩)) (by rfl) (by kernel_rfl) ?_
      refine sx_rd 13 (.bool false) (by rfl) (by kernel_rfl) ?_
      refine sx_rd 6 (.pointer (some ⟨g, 0, none⟩)) (by rfl) (by kernel_rfl) ?_
      refine sx_rd 7 (.bool false) (by rfl) (by kernel_rfl) ?_
      refine sx_nil ?_
      refine ex_then_n ?_
      refine wp_seq ?_
      refine wp_seq ?_
      refine sx_region ?_
      refine sx_rd 14 (.bool false) (by rfl) (by kernel_rfl) ?_
      refine sx_rd 15 (.bool true) (by rfl) (by kernel_rfl) ?_
      refine sx_nil ?_
      refine ex_then_n ?_
      refine sx_then true (by rfl) rfl ?_
      refine wp_seq ?_
      refine sx_region ?_
      refine sx_rd 4 (.bool false) (by rfl) (by kernel_rfl) ?_
      refine sx_rd 5 (.bool false) (by rfl) (by kernel_rfl) ?_
      refine sx_nil ?_
      refine ex_then_n ?_
      refine wp_ret ?_
      refine ex_then_r ?_
      refine sx_end (.tuple #[.bool false, .bool false]) (res2 4 5 (by rfl)) ?_
      have hbw := hc2 _ (hp)
      simp only [Option.some.injEq, Prod.mk.injEq] at h; obtain ⟨rfl, rfl⟩ := h
      exact ⟨rfl, hbw⟩
    | some s =>
      rw [hf] at h; dsimp only at h
      obtain ⟨hok, hl28⟩ := lyOk_read hf
      have hfold := read_fold hf
      refine sx_enter (N := 21) (l := [.slice A0 l0.length c0, .slice AN l1.length cN]) Try.func32 rfl rfl rfl ?_
      refine wp_seq ?_
      refine sx_region ?_
      refine sx_rd 4 (.bool false) (by rfl) (by kernel_rfl) ?_
      refine sx_rd 5 (.bool false) (by rfl) (by kernel_rfl) ?_
      refine sx_nil ?_
      refine ex_then_n ?_
      refine wp_seq ?_
      refine sx_region ?_
      refine sx_rd 9 (.slice A0 l0.length c0) (by rfl) (by kernel_rfl) ?_
      refine sx_rd 10 (.slice AN l1.length cN) (by rfl) (by kernel_rfl) ?_
      refine sx_call 11 (by rfl) (by kernel_rfl) ((lyAsked_some w _ cs l0 A0 c0 hlen l1 AN cN hcN hC hD hp s hf).mono ?_)
      rintro _ W_1 ⟨g, A1, c1, A2, c2, F1, F2, rfl, hp⟩
      refine ⟨_, rfl, ?_⟩
      refine sx_rd 8 (.tuple #[.pointer (some ⟨g, 0, none⟩), .bool (handB l1)]) (by rfl) (by kernel_rfl) ?_
      refine sx_rd 12 (.pointer (some ⟨g, 0, none⟩)) (by rfl) (by kernel_rfl) ?_
      refine sx_rd 13 (.bool (handB l1)) (by rfl) (by kernel_rfl) ?_
      refine sx_rd 6 (.pointer (some ⟨g, 0, none⟩)) (by rfl) (by kernel_rfl) ?_
      refine sx_rd 7 (.bool (handB l1)) (by rfl) (by kernel_rfl) ?_
      refine sx_nil ?_
      refine ex_then_n ?_
      refine wp_seq ?_
      refine wp_seq ?_
      refine sx_region ?_
      refine sx_rd 14 (.bool (handB l1)) (by rfl) (by kernel_rfl) ?_
      refine sx_rd 15 (.bool (!(handB l1))) (by rfl) (by kernel_rfl) ?_
      refine sx_nil ?_
      refine ex_then_n ?_
      refine sx_cond (!(handB l1)) (by rfl) (fun c_2 => ?_) (fun c_2 => ?_)
      ·
        refine wp_seq ?_
        refine sx_region ?_
        refine sx_rd 4 (.bool false) (by rfl) (by kernel_rfl) ?_
        refine sx_rd 5 (.bool false) (by rfl) (by kernel_rfl) ?_
        refine sx_nil ?_
        refine ex_then_n ?_
        refine wp_ret ?_
        refine ex_then_r ?_
        refine sx_end (.tuple #[.bool false, .bool false]) (res2 4 5 (by rfl)) ?_
        have hbw := hc2 _ (hp.tail.tail.tail)
        rw [if_neg (by rw [(not_eq c_2)]; simp)] at h
        simp only [Option.some.injEq, Prod.mk.injEq] at h; obtain ⟨rfl, rfl⟩ := h
        exact ⟨rfl, hbw⟩
      ·
        refine wp_skip ?_
        refine ex_then_n ?_
        refine wp_seq ?_
        refine sx_region ?_
        refine sx_rd 16 (.pointer (some ⟨g, 0, none⟩)) (by rfl) (by kernel_rfl) ?_
        refine sx_rd 17 (.slice AN l1.length cN) (by rfl) (by kernel_rfl) ?_
        refine sx_call 18 (by rfl) (by kernel_rfl) ((lyFor_sx w _ cs g s A1 c1 A2 c2 w.heap.size F1 F2 l1 AN cN hlen1 hcN (by have := hok.ti; omega) (by have := hok.ar; omega) hD hp).mono ?_)
        rintro _ W_3 ⟨AF, nF, cF, FF, hfin, rfl, hp⟩
        refine ⟨_, rfl, ?_⟩
        rw [hfin] at hp
        obtain ⟨rfl, -⟩ := row_len (hp.at_ 0 _ (by rfl))
        refine sx_rd 19 (.int .i64 ((lyForF s l1).length : Int)) (by rfl) (by kernel_rfl) ?_
        refine sx_rd 20 (.bool (decide (((lyForF s l1).length : Int) > 0))) (by rfl) (by kernel_rfl) ?_
        refine sx_rd 4 (.bool (decide (((lyForF s l1).length : Int) > 0))) (by rfl) (by kernel_rfl) ?_
        refine sx_rd 5 (.bool true) (by rfl) (by kernel_rfl) ?_
        refine sx_nil ?_
        refine ex_then_n ?_
        refine wp_ret ?_
        refine sx_end (.tuple #[.bool (decide (((lyForF s l1).length : Int) > 0)), .bool true]) (res2 4 5 (by rfl)) ?_
        have hbw := hc2 _ (hp.tail.tail.tail.tail)
        rw [if_pos (show handB l1 = true from by have q := (not_eq c_2); simpa using q)] at h
        simp only [Option.some.injEq, Prod.mk.injEq] at h; obtain ⟨rfl, rfl⟩ := h
        exact ⟨rfl, hbw⟩
  · rw [if_neg hsz] at h
    cases h
def spec_PlaysFor.f (l : List S_Play) (hand : List S_Tile) : Option (List S_Play × Bool) := if l.length ≤ 8388608 ∧ hand.length ≤ 1048576 then (match lyReadF l with | some s => if handB hand = true then some (lyForF s hand, true) else some ([], false) | none => some ([], false)) else none
set_option maxRecDepth 100000 in
set_option maxHeartbeats 40000000 in
theorem spec_PlaysFor.calls (A0 : Option Addr) (c0 : Nat) (l0 : List S_Play) (AN : Option Addr) (cN : Nat) (l1 : List S_Tile) (r0 : List S_Play) (r1 : Bool) (w : World) (hr0 : Kd.C k53 w A0 l0.length l0) (hc0 : l0.length ≤ c0) (hrN : Kd.C k51 w AN l1.length l1) (hcN : l1.length ≤ cN) (h : spec_PlaysFor.f l0 l1 = some (r0, r1)) :
    Calls Try.prog 36 #[.slice A0 l0.length c0, .slice AN l1.length cN] w fun e w' => ∃ v0 : Value, e = .returned (.tuple #[v0, .bool r1]) ∧ Kd.R k53 53 w' w.heap.size (fun _ => True) v0 r0 ∧ Below w.heap.size w w' := by
  unfold spec_PlaysFor.f at h
  by_cases hsz : l0.length ≤ 8388608 ∧ l1.length ≤ 1048576
  · rw [if_pos hsz] at h
    obtain ⟨hlen, hlen1⟩ := hsz
    obtain ⟨cs, hcs⟩ : ∃ cs, cs = [old w w.heap.size] := ⟨_, rfl⟩
    have hp : Hp w cs w := by rw [hcs]; exact Hp.old_start w
    have hc2 : ∀ W, Hp w cs W → Below w.heap.size w W := fun W h => by rw [hcs] at h; exact h.since 0 _ rfl
    have hC : ∀ W, Hp w cs W → Kd.C k53 W A0 l0.length l0 := fun W h => Kd.C_below hr0 (hc2 W h)
    have hD : ∀ W, Hp w cs W → Kd.C k51 W AN l1.length l1 := fun W h => Kd.C_below hrN (hc2 W h)
    clear hcs
    cases hf : lyReadF l0 with
    | none =>
      rw [hf] at h; dsimp only at h
      refine sx_enter (N := 19) (l := [.slice A0 l0.length c0, .slice AN l1.length cN]) Try.func36 rfl rfl rfl ?_
      refine wp_seq ?_
      refine sx_region ?_
      refine sx_rd 4 (.slice none 0 0) (by rfl) (by kernel_rfl) ?_
      refine sx_rd 5 (.bool false) (by rfl) (by kernel_rfl) ?_
      refine sx_nil ?_
      refine ex_then_n ?_
      refine wp_seq ?_
      refine sx_region ?_
      refine sx_rd 9 (.slice A0 l0.length c0) (by rfl) (by kernel_rfl) ?_
      refine sx_rd 10 (.slice AN l1.length cN) (by rfl) (by kernel_rfl) ?_
      refine sx_call 11 (by rfl) (by kernel_rfl) ((lyAsked_none w _ cs l0 A0 c0 hlen l1 AN cN hcN hC hD hp hf).mono ?_)
      rintro _ W_1 ⟨g, rfl, hp⟩
      refine ⟨_, rfl, ?_⟩
      refine sx_rd 8 (.tuple #[.pointer (some ⟨g, 0, none⟩), .bool false]) (by rfl) (by kernel_rfl) ?_
      refine sx_rd 12 (.pointer (some ⟨g, 0, none⟩)) (by rfl) (by kernel_rfl) ?_
      refine sx_rd 13 (.bool false) (by rfl) (by kernel_rfl) ?_
      refine sx_rd 6 (.pointer (some ⟨g, 0, none⟩)) (by rfl) (by kernel_rfl) ?_
      refine sx_rd 7 (.bool false) (by rfl) (by kernel_rfl) ?_
      refine sx_nil ?_
      refine ex_then_n ?_
      refine wp_seq ?_
      refine wp_seq ?_
      refine sx_region ?_
      refine sx_rd 14 (.bool false) (by rfl) (by kernel_rfl) ?_
      refine sx_rd 15 (.bool true) (by rfl) (by kernel_rfl) ?_
      refine sx_nil ?_
      refine ex_then_n ?_
      refine sx_then true (by rfl) rfl ?_
      refine wp_seq ?_
      refine sx_region ?_
      refine sx_rd 4 (.slice none 0 0) (by rfl) (by kernel_rfl) ?_
      refine sx_rd 5 (.bool false) (by rfl) (by kernel_rfl) ?_
      refine sx_nil ?_
      refine ex_then_n ?_
      refine wp_ret ?_
      refine ex_then_r ?_
      refine sx_end (.tuple #[.slice none 0 0, .bool false]) (res2 4 5 (by rfl)) ?_
      have hbw := hc2 _ (hp)
      simp only [Option.some.injEq, Prod.mk.injEq] at h; obtain ⟨rfl, rfl⟩ := h
      exact ⟨_, rfl, Kd.R_nil _ _ _ _ _, hbw⟩
    | some s =>
      rw [hf] at h; dsimp only at h
      obtain ⟨hok, hl28⟩ := lyOk_read hf
      have hfold := read_fold hf
      refine sx_enter (N := 19) (l := [.slice A0 l0.length c0, .slice AN l1.length cN]) Try.func36 rfl rfl rfl ?_
      refine wp_seq ?_
      refine sx_region ?_
      refine sx_rd 4 (.slice none 0 0) (by rfl) (by kernel_rfl) ?_
      refine sx_rd 5 (.bool false) (by rfl) (by kernel_rfl) ?_
      refine sx_nil ?_
      refine ex_then_n ?_
      refine wp_seq ?_
      refine sx_region ?_
      refine sx_rd 9 (.slice A0 l0.length c0) (by rfl) (by kernel_rfl) ?_
      refine sx_rd 10 (.slice AN l1.length cN) (by rfl) (by kernel_rfl) ?_
      refine sx_call 11 (by rfl) (by kernel_rfl) ((lyAsked_some w _ cs l0 A0 c0 hlen l1 AN cN hcN hC hD hp s hf).mono ?_)
      rintro _ W_1 ⟨g, A1, c1, A2, c2, F1, F2, rfl, hp⟩
      refine ⟨_, rfl, ?_⟩
      refine sx_rd 8 (.tuple #[.pointer (some ⟨g, 0, none⟩), .bool (handB l1)]) (by rfl) (by kernel_rfl) ?_
      refine sx_rd 12 (.pointer (some ⟨g, 0, none⟩)) (by rfl) (by kernel_rfl) ?_
      refine sx_rd 13 (.bool (handB l1)) (by rfl) (by kernel_rfl) ?_
      refine sx_rd 6 (.pointer (some ⟨g, 0, none⟩)) (by rfl) (by kernel_rfl) ?_
      refine sx_rd 7 (.bool (handB l1)) (by rfl) (by kernel_rfl) ?_
      refine sx_nil ?_
      refine ex_then_n ?_
      refine wp_seq ?_
      refine wp_seq ?_
      refine sx_region ?_
      refine sx_rd 14 (.bool (handB l1)) (by rfl) (by kernel_rfl) ?_
      refine sx_rd 15 (.bool (!(handB l1))) (by rfl) (by kernel_rfl) ?_
      refine sx_nil ?_
      refine ex_then_n ?_
      refine sx_cond (!(handB l1)) (by rfl) (fun c_2 => ?_) (fun c_2 => ?_)
      ·
        refine wp_seq ?_
        refine sx_region ?_
        refine sx_rd 4 (.slice none 0 0) (by rfl) (by kernel_rfl) ?_
        refine sx_rd 5 (.bool false) (by rfl) (by kernel_rfl) ?_
        refine sx_nil ?_
        refine ex_then_n ?_
        refine wp_ret ?_
        refine ex_then_r ?_
        refine sx_end (.tuple #[.slice none 0 0, .bool false]) (res2 4 5 (by rfl)) ?_
        have hbw := hc2 _ (hp.tail.tail.tail)
        rw [if_neg (by rw [(not_eq c_2)]; simp)] at h
        simp only [Option.some.injEq, Prod.mk.injEq] at h; obtain ⟨rfl, rfl⟩ := h
        exact ⟨_, rfl, Kd.R_nil _ _ _ _ _, hbw⟩
      ·
        refine wp_skip ?_
        refine ex_then_n ?_
        refine wp_seq ?_
        refine sx_region ?_
        refine sx_rd 16 (.pointer (some ⟨g, 0, none⟩)) (by rfl) (by kernel_rfl) ?_
        refine sx_rd 17 (.slice AN l1.length cN) (by rfl) (by kernel_rfl) ?_
        refine sx_call 18 (by rfl) (by kernel_rfl) ((lyFor_sx w _ cs g s A1 c1 A2 c2 w.heap.size F1 F2 l1 AN cN hlen1 hcN (by have := hok.ti; omega) (by have := hok.ar; omega) hD hp).mono ?_)
        rintro _ W_3 ⟨AF, nF, cF, FF, hfin, rfl, hp⟩
        refine ⟨_, rfl, ?_⟩
        rw [hfin] at hp
        obtain ⟨rfl, -⟩ := row_len (hp.at_ 0 _ (by rfl))
        refine sx_rd 4 (.slice AF ((lyForF s l1).length) cF) (by rfl) (by kernel_rfl) ?_
        refine sx_rd 5 (.bool true) (by rfl) (by kernel_rfl) ?_
        refine sx_nil ?_
        refine ex_then_n ?_
        refine wp_ret ?_
        refine sx_end (.tuple #[.slice AF ((lyForF s l1).length) cF, .bool true]) (res2 4 5 (by rfl)) ?_
        have hbw := hc2 _ (hp.tail.tail.tail.tail)
        rw [if_pos (show handB l1 = true from by have q := (not_eq c_2); simpa using q)] at h
        simp only [Option.some.injEq, Prod.mk.injEq] at h; obtain ⟨rfl, rfl⟩ := h
        exact ⟨_, rfl, Kd.R_mono (row_R (hp.at_ 0 _ (by rfl))) (fun _ _ => trivial), hbw⟩
  · rw [if_neg hsz] at h
    cases h
end Go.Proofs.Ytlphnpinpflaaaa.Hd
