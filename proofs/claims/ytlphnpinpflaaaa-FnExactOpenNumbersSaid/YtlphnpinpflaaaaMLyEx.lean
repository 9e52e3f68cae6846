/- spec's functions over spreads, by hand. -/
import Derived.Test.YtlphnpinpflaaaaMLyRead
namespace Go.Proofs.Ytlphnpinpflaaaa.Hd
open Go.RowKit Go.Proofs.Ytlphnpinpflaaaa.Pure Go.Proofs.YtlphnpinpflaaaaW.PrintWords Go.Proofs.YtlphnpinpflaaaaW.PrintLast Go.Proofs.YtlphnpinpflaaaaW.PrintMore
set_option linter.unusedVariables false
set_option linter.unusedSimpArgs false
theorem lyRead_some (w0 W : World) (cs : List Chunk) (plays : List S_Play) (A : Option Addr) (c : Nat) (hl : plays.length ≤ 8388608) (hC : ∀ W, Hp w0 cs W → Kd.C k53 W A plays.length plays) (hp : Hp w0 cs W) (s : LySt) (hf : lyReadF plays = some s) :
    Calls Try.prog 44 #[.slice A plays.length c] W fun e W' => ∃ g A1 c1 A2 c2 F1 F2, e = .returned (.tuple #[.pointer (some ⟨g, 0, none⟩), .bool true]) ∧ Hp w0 (blk g #[.slice A1 s.ar.length c1, .slice A2 s.ti.length c2, .int .i64 s.sp, .int .i64 s.wt, .bool s.fi, .bool s.l0, .bool s.l1] 83 :: row k85 85 w0.heap.size (.slice A1 s.ar.length c1) s.ar F1 :: row k51 51 w0.heap.size (.slice A2 s.ti.length c2) s.ti F2 :: cs) W' :=
  (lyRead_sx w0 W cs plays A c hl hC hp).mono (fun e W' h => by
    rcases h with ⟨g, s', A1, c1, A2, c2, F1, F2, h1, h2, h3⟩ | ⟨g, h1, _⟩
    · rw [hf] at h1
      injection h1 with h1
      subst h1
      exact ⟨g, A1, c1, A2, c2, F1, F2, h2, h3⟩
    · rw [hf] at h1; cases h1)
theorem lyRead_none (w0 W : World) (cs : List Chunk) (plays : List S_Play) (A : Option Addr) (c : Nat) (hl : plays.length ≤ 8388608) (hC : ∀ W, Hp w0 cs W → Kd.C k53 W A plays.length plays) (hp : Hp w0 cs W) (hf : lyReadF plays = none) :
    Calls Try.prog 44 #[.slice A plays.length c] W fun e W' => ∃ g, e = .returned (.tuple #[.pointer (some ⟨g, 0, none⟩), .bool false]) ∧ Hp w0 cs W' :=
  (lyRead_sx w0 W cs plays A c hl hC hp).mono (fun e W' h => by
    rcases h with ⟨g, s', A1, c1, A2, c2, F1, F2, h1, h2, h3⟩ | ⟨g, h1, h2⟩
    · rw [hf] at h1; cases h1
    · exact ⟨g, h2⟩)
def lyPointsF (s : LySt) : Int := if (lySumF s).tmod 5 = 0 then lySumF s else 0
theorem lySumF_bd (s : LySt) (hti : s.ti.length ≤ 28) (har : s.ar.length ≤ 100) (hok : (∀ a ∈ s.ar, -1 ≤ a.f0 ∧ a.f0 ≤ 9) ∧ ∀ t ∈ s.ti, 0 ≤ t.f0 ∧ t.f0 ≤ 9 ∧ 0 ≤ t.f1 ∧ t.f1 ≤ 9) : -200 ≤ lySumF s ∧ lySumF s ≤ 1800 := by
  unfold lySumF
  split
  · have := hok.2 (rd_Tile s.ti 0) (tile_mem s.ti (by omega))
    omega
  · have := armsSum_bd s.ar hok.1 s.ar.length (Nat.le_refl _)
    rw [List.take_of_length_le (Nat.le_refl _)] at this
    omega
set_option maxRecDepth 100000 in
set_option maxHeartbeats 40000000 in
theorem lyPoints_sx (w0 W : World) (cs : List Chunk) (g : Nat) (s : LySt) (A1 : Option Addr) (c1 : Nat) (A2 : Option Addr) (c2 : Nat) (b : Nat) (F1 F2 : Nat → Prop) (hti : s.ti.length ≤ 28) (har : s.ar.length ≤ 100) (hok : (∀ a ∈ s.ar, -1 ≤ a.f0 ∧ a.f0 ≤ 9) ∧ ∀ t ∈ s.ti, 0 ≤ t.f0 ∧ t.f0 ≤ 9 ∧ 0 ≤ t.f1 ∧ t.f1 ≤ 9) (hp : Hp w0 (blk g #[.slice A1 s.ar.length c1, .slice A2 s.ti.length c2, .int .i64 s.sp, .int .i64 s.wt, .bool s.fi, .bool s.l0, .bool s.l1] 83 :: row k85 85 b (.slice A1 s.ar.length c1) s.ar F1 :: row k51 51 b (.slice A2 s.ti.length c2) s.ti F2 :: cs) W) :
    Calls Try.prog 49 #[.pointer (some ⟨g, 0, none⟩)] W fun e W' => e = .returned (.int .i64 (lyPointsF s)) ∧ Hp w0 (blk g #[.slice A1 s.ar.length c1, .slice A2 s.ti.length c2, .int .i64 s.sp, .int .i64 s.wt, .bool s.fi, .bool s.l0, .bool s.l1] 83 :: row k85 85 b (.slice A1 s.ar.length c1) s.ar F1 :: row k51 51 b (.slice A2 s.ti.length c2) s.ti F2 :: cs) W' := by
  have hsb := lySumF_bd s hti har hok
  refine sx_enter (N := 10) (l := [.pointer (some ⟨g, 0, none⟩)]) Try.func49 rfl rfl rfl ?_
  refine wp_seq ?_
  refine sx_region ?_
  refine sx_rd 2 (.int .i64 0) (by rfl) (by kernel_rfl) ?_
  refine sx_nil ?_
  refine ex_then_n ?_
  refine wp_seq ?_
  refine wp_seq ?_
  refine sx_region ?_
  refine sx_rd 4 (.pointer (some ⟨g, 0, none⟩)) (by rfl) (by kernel_rfl) ?_
  refine sx_call 5 (by rfl) (by kernel_rfl) ((lySum_sx w0 _ cs g s A1 c1 A2 c2 b F1 F2 hti har hok hp).mono ?_)
  rintro _ W_1 ⟨rfl, hp⟩
  refine ⟨_, rfl, ?_⟩
  refine sx_rd 3 (.int .i64 (lySumF s)) (by rfl) (by kernel_rfl) ?_
  refine sx_nil ?_
  refine ex_then_n ?_
  refine wp_seq ?_
  refine sx_region ?_
  refine sx_rd 6 (.int .i64 (lySumF s)) (by rfl) (by kernel_rfl) ?_
  refine sx_rd 7 (.int .i64 (Int.tmod (lySumF s) 5)) (by rfl) (by kernel_rfl) ?_
  refine sx_rd 8 (.bool ((Int.tmod (lySumF s) 5) == 0)) (by rfl) (by kernel_rfl) ?_
  refine sx_nil ?_
  refine ex_then_n ?_
  refine sx_cond ((Int.tmod (lySumF s) 5) == 0) (by rfl) (fun c_2 => ?_) (fun c_2 => ?_)
  ·
    have c_2p := eq_of_beq_ c_2
    refine wp_seq ?_
    refine sx_region ?_
    refine sx_rd 9 (.int .i64 (lySumF s)) (by rfl) (by kernel_rfl) ?_
    refine sx_rd 2 (.int .i64 (lySumF s)) (by rfl) (by kernel_rfl) ?_
    refine sx_nil ?_
    refine ex_then_n ?_
    refine wp_ret ?_
    refine ex_then_r ?_
    refine sx_end (.int .i64 (lySumF s)) (res1 2 (by rfl)) ?_
    have hc : lyPointsF s = (lySumF s) := by simp only [lyPointsF]; rw [if_pos (by omega)]
    exact ⟨congrArg (fun x => Ending.returned (.int .i64 x)) hc.symm, hp⟩
  ·
    have c_2p := ne_of_beq_ c_2
    refine wp_skip ?_
    refine ex_then_n ?_
    refine wp_seq ?_
    refine sx_region ?_
    refine sx_rd 2 (.int .i64 0) (by rfl) (by kernel_rfl) ?_
    refine sx_nil ?_
    refine ex_then_n ?_
    refine wp_ret ?_
    refine sx_end (.int .i64 0) (res1 2 (by rfl)) ?_
    have hc : lyPointsF s = 0 := by simp only [lyPointsF]; rw [if_neg (by omega)]
    exact ⟨congrArg (fun x => Ending.returned (.int .i64 x)) hc.symm, hp⟩
def spec_SumOfEnds.f (l : List S_Play) : Option (Int × Bool) := if l.length ≤ 8388608 then (match lyReadF l with | some s => some (lySumF s, true) | none => some (0, false)) else none
set_option maxRecDepth 100000 in
set_option maxHeartbeats 40000000 in
theorem spec_SumOfEnds.calls (A0 : Option Addr) (c0 : Nat) (l0 : List S_Play) (r0 : Int) (r1 : Bool) (w : World) (hr0 : Kd.C k53 w A0 l0.length l0) (hc0 : l0.length ≤ c0) (h : spec_SumOfEnds.f l0 = some (r0, r1)) :
    Calls Try.prog 13 #[.slice A0 l0.length c0] w fun e w' => e = .returned (.tuple #[.int .i64 r0, .bool r1]) ∧ Below w.heap.size w w' := by
  unfold spec_SumOfEnds.f at h
  by_cases hsz : l0.length ≤ 8388608
  · rw [if_pos hsz] at h
    have hlen : l0.length ≤ 8388608 := hsz
    obtain ⟨cs, hcs⟩ : ∃ cs, cs = [old w w.heap.size] := ⟨_, rfl⟩
    have hp : Hp w cs w := by rw [hcs]; exact Hp.old_start w
    have hc2 : ∀ W, Hp w cs W → Below w.heap.size w W := fun W h => by rw [hcs] at h; exact h.since 0 _ rfl
    have hC : ∀ W, Hp w cs W → Kd.C k53 W A0 l0.length l0 := fun W h => Kd.C_below hr0 (hc2 W h)
    clear hcs
    cases hf : lyReadF l0 with
    | none =>
      rw [hf] at h; simp only [Option.some.injEq, Prod.mk.injEq] at h; obtain ⟨rfl, rfl⟩ := h
      refine sx_enter (N := 15) (l := [.slice A0 l0.length c0]) Try.func13 rfl rfl rfl ?_
      refine wp_seq ?_
      refine sx_region ?_
      refine sx_rd 2 (.int .i64 0) (by rfl) (by kernel_rfl) ?_
      refine sx_rd 3 (.bool false) (by rfl) (by kernel_rfl) ?_
      refine sx_nil ?_
      refine ex_then_n ?_
      refine wp_seq ?_
      refine sx_region ?_
      refine sx_rd 7 (.slice A0 l0.length c0) (by rfl) (by kernel_rfl) ?_
      refine sx_call 8 (by rfl) (by kernel_rfl) ((lyRead_none w _ cs l0 A0 c0 hlen hC hp hf).mono ?_)
      rintro _ W_1 ⟨g, rfl, hp⟩
      refine ⟨_, rfl, ?_⟩
      refine sx_rd 6 (.tuple #[.pointer (some ⟨g, 0, none⟩), .bool false]) (by rfl) (by kernel_rfl) ?_
      refine sx_rd 9 (.pointer (some ⟨g, 0, none⟩)) (by rfl) (by kernel_rfl) ?_
      refine sx_rd 10 (.bool false) (by rfl) (by kernel_rfl) ?_
      refine sx_rd 4 (.pointer (some ⟨g, 0, none⟩)) (by rfl) (by kernel_rfl) ?_
      refine sx_rd 5 (.bool false) (by rfl) (by kernel_rfl) ?_
      refine sx_nil ?_
      refine ex_then_n ?_
      refine wp_seq ?_
      refine wp_seq ?_
      refine sx_region ?_
      refine sx_rd 11 (.bool false) (by rfl) (by kernel_rfl) ?_
      refine sx_rd 12 (.bool true) (by rfl) (by kernel_rfl) ?_
      refine sx_nil ?_
      refine ex_then_n ?_
      refine sx_then true (by rfl) rfl ?_
      refine wp_seq ?_
      refine sx_region ?_
      refine sx_rd 2 (.int .i64 0) (by rfl) (by kernel_rfl) ?_
      refine sx_rd 3 (.bool false) (by rfl) (by kernel_rfl) ?_
      refine sx_nil ?_
      refine ex_then_n ?_
      refine wp_ret ?_
      refine ex_then_r ?_
      refine sx_end (.tuple #[.int .i64 0, .bool false]) (res2 2 3 (by rfl)) ?_
      exact ⟨rfl, hc2 _ (hp)⟩
    | some s =>
      rw [hf] at h; simp only [Option.some.injEq, Prod.mk.injEq] at h; obtain ⟨rfl, rfl⟩ := h
      obtain ⟨hok, hl28⟩ := lyOk_read hf
      refine sx_enter (N := 15) (l := [.slice A0 l0.length c0]) Try.func13 rfl rfl rfl ?_
      refine wp_seq ?_
      refine sx_region ?_
      refine sx_rd 2 (.int .i64 0) (by rfl) (by kernel_rfl) ?_
      refine sx_rd 3 (.bool false) (by rfl) (by kernel_rfl) ?_
      refine sx_nil ?_
      refine ex_then_n ?_
      refine wp_seq ?_
      refine sx_region ?_
      refine sx_rd 7 (.slice A0 l0.length c0) (by rfl) (by kernel_rfl) ?_
      refine sx_call 8 (by rfl) (by kernel_rfl) ((lyRead_some w _ cs l0 A0 c0 hlen hC hp s hf).mono ?_)
      rintro _ W_1 ⟨g, A1, c1, A2, c2, F1, F2, rfl, hp⟩
      refine ⟨_, rfl, ?_⟩
      refine sx_rd 6 (.tuple #[.pointer (some ⟨g, 0, none⟩), .bool true]) (by rfl) (by kernel_rfl) ?_
      refine sx_rd 9 (.pointer (some ⟨g, 0, none⟩)) (by rfl) (by kernel_rfl) ?_
      refine sx_rd 10 (.bool true) (by rfl) (by kernel_rfl) ?_
      refine sx_rd 4 (.pointer (some ⟨g, 0, none⟩)) (by rfl) (by kernel_rfl) ?_
      refine sx_rd 5 (.bool true) (by rfl) (by kernel_rfl) ?_
      refine sx_nil ?_
      refine ex_then_n ?_
      refine wp_seq ?_
      refine wp_seq ?_
      refine sx_region ?_
      refine sx_rd 11 (.bool true) (by rfl) (by kernel_rfl) ?_
      refine sx_rd 12 (.bool false) (by rfl) (by kernel_rfl) ?_
      refine sx_nil ?_
      refine ex_then_n ?_
      refine sx_else false (by rfl) rfl ?_
      refine wp_skip ?_
      refine ex_then_n ?_
      refine wp_seq ?_
      refine sx_region ?_
      refine sx_rd 13 (.pointer (some ⟨g, 0, none⟩)) (by rfl) (by kernel_rfl) ?_
      refine sx_call 14 (by rfl) (by kernel_rfl) ((lySum_sx w _ (cs) g s A1 c1 A2 c2 w.heap.size F1 F2 (by have := hok.ti; omega) (by have := hok.ar; omega) ⟨hok.ends, hok.tiles⟩ (hp.take [0, 1, 2] 3 (by decide) (by simp))).mono ?_)
      rintro _ W_2 ⟨rfl, hp⟩
      refine ⟨_, rfl, ?_⟩
      refine sx_rd 2 (.int .i64 (lySumF s)) (by rfl) (by kernel_rfl) ?_
      refine sx_rd 3 (.bool true) (by rfl) (by kernel_rfl) ?_
      refine sx_nil ?_
      refine ex_then_n ?_
      refine wp_ret ?_
      refine sx_end (.tuple #[.int .i64 (lySumF s), .bool true]) (res2 2 3 (by rfl)) ?_
      exact ⟨rfl, hc2 _ (hp.tail.tail.tail)⟩
  · rw [if_neg hsz] at h
    cases h
def spec_FivesOf.f (l : List S_Play) : Option (Int × Bool) := if l.length ≤ 8388608 then (match lyReadF l with | some s => some (lyPointsF s, true) | none => some (0, false)) else none
set_option maxRecDepth 100000 in
set_option maxHeartbeats 40000000 in
theorem spec_FivesOf.calls (A0 : Option Addr) (c0 : Nat) (l0 : List S_Play) (r0 : Int) (r1 : Bool) (w : World) (hr0 : Kd.C k53 w A0 l0.length l0) (hc0 : l0.length ≤ c0) (h : spec_FivesOf.f l0 = some (r0, r1)) :
    Calls Try.prog 17 #[.slice A0 l0.length c0] w fun e w' => e = .returned (.tuple #[.int .i64 r0, .bool r1]) ∧ Below w.heap.size w w' := by
  unfold spec_FivesOf.f at h
  by_cases hsz : l0.length ≤ 8388608
  · rw [if_pos hsz] at h
    have hlen : l0.length ≤ 8388608 := hsz
    obtain ⟨cs, hcs⟩ : ∃ cs, cs = [old w w.heap.size] := ⟨_, rfl⟩
    have hp : Hp w cs w := by rw [hcs]; exact Hp.old_start w
    have hc2 : ∀ W, Hp w cs W → Below w.heap.size w W := fun W h => by rw [hcs] at h; exact h.since 0 _ rfl
    have hC : ∀ W, Hp w cs W → Kd.C k53 W A0 l0.length l0 := fun W h => Kd.C_below hr0 (hc2 W h)
    clear hcs
    cases hf : lyReadF l0 with
    | none =>
      rw [hf] at h; simp only [Option.some.injEq, Prod.mk.injEq] at h; obtain ⟨rfl, rfl⟩ := h
      refine sx_enter (N := 15) (l := [.slice A0 l0.length c0]) Try.func17 rfl rfl rfl ?_
      refine wp_seq ?_
      refine sx_region ?_
      refine sx_rd 2 (.int .i64 0) (by rfl) (by kernel_rfl) ?_
      refine sx_rd 3 (.bool false) (by rfl) (by kernel_rfl) ?_
      refine sx_nil ?_
      refine ex_then_n ?_
      refine wp_seq ?_
      refine sx_region ?_
      refine sx_rd 7 (.slice A0 l0.length c0) (by rfl) (by kernel_rfl) ?_
      refine sx_call 8 (by rfl) (by kernel_rfl) ((lyRead_none w _ cs l0 A0 c0 hlen hC hp hf).mono ?_)
      rintro _ W_1 ⟨g, rfl, hp⟩
      refine ⟨_, rfl, ?_⟩
      refine sx_rd 6 (.tuple #[.pointer (some ⟨g, 0, none⟩), .bool false]) (by rfl) (by kernel_rfl) ?_
      refine sx_rd 9 (.pointer (some ⟨g, 0, none⟩)) (by rfl) (by kernel_rfl) ?_
      refine sx_rd 10 (.bool false) (by rfl) (by kernel_rfl) ?_
      refine sx_rd 4 (.pointer (some ⟨g, 0, none⟩)) (by rfl) (by kernel_rfl) ?_
      refine sx_rd 5 (.bool false) (by rfl) (by kernel_rfl) ?_
      refine sx_nil ?_
      refine ex_then_n ?_
      refine wp_seq ?_
      refine wp_seq ?_
      refine sx_region ?_
      refine sx_rd 11 (.bool false) (by rfl) (by kernel_rfl) ?_
      refine sx_rd 12 (.bool true) (by rfl) (by kernel_rfl) ?_
      refine sx_nil ?_
      refine ex_then_n ?_
      refine sx_then true (by rfl) rfl ?_
      refine wp_seq ?_
      refine sx_region ?_
      refine sx_rd 2 (.int .i64 0) (by rfl) (by kernel_rfl) ?_
      refine sx_rd 3 (.bool false) (by rfl) (by kernel_rfl) ?_
      refine sx_nil ?_
      refine ex_then_n ?_
      refine wp_ret ?_
      refine ex_then_r ?_
      refine sx_end (.tuple #[.int .i64 0, .bool false]) (res2 2 3 (by rfl)) ?_
      exact ⟨rfl, hc2 _ (hp)⟩
    | some s =>
      rw [hf] at h; simp only [Option.some.injEq, Prod.mk.injEq] at h; obtain ⟨rfl, rfl⟩ := h
      obtain ⟨hok, hl28⟩ := lyOk_read hf
      refine sx_enter (N := 15) (l := [.slice A0 l0.length c0]) Try.func17 rfl rfl rfl ?_
      refine wp_seq ?_
      refine sx_region ?_
      refine sx_rd 2 (.int .i64 0) (by rfl) (by kernel_rfl) ?_
      refine sx_rd 3 (.bool false) (by rfl) (by kernel_rfl) ?_
      refine sx_nil ?_
      refine ex_then_n ?_
      refine wp_seq ?_
      refine sx_region ?_
      refine sx_rd 7 (.slice A0 l0.length c0) (by rfl) (by kernel_rfl) ?_
      refine sx_call 8 (by rfl) (by kernel_rfl) ((lyRead_some w _ cs l0 A0 c0 hlen hC hp s hf).mono ?_)
      rintro _ W_1 ⟨g, A1, c1, A2, c2, F1, F2, rfl, hp⟩
      refine ⟨_, rfl, ?_⟩
      refine sx_rd 6 (.tuple #[.pointer (some ⟨g, 0, none⟩), .bool true]) (by rfl) (by kernel_rfl) ?_
      refine sx_rd 9 (.pointer (some ⟨g, 0, none⟩)) (by rfl) (by kernel_rfl) ?_
      refine sx_rd 10 (.bool true) (by rfl) (by kernel_rfl) ?_
      refine sx_rd 4 (.pointer (some ⟨g, 0, none⟩)) (by rfl) (by kernel_rfl) ?_
      refine sx_rd 5 (.bool true) (by rfl) (by kernel_rfl) ?_
      refine sx_nil ?_
      refine ex_then_n ?_
      refine wp_seq ?_
      refine wp_seq ?_
      refine sx_region ?_
      refine sx_rd 11 (.bool true) (by rfl) (by kernel_rfl) ?_
      refine sx_rd 12 (.bool false) (by rfl) (by kernel_rfl) ?_
      refine sx_nil ?_
      refine ex_then_n ?_
      refine sx_else false (by rfl) rfl ?_
      refine wp_skip ?_
      refine ex_then_n ?_
      refine wp_seq ?_
      refine sx_region ?_
      refine sx_rd 13 (.pointer (some ⟨g, 0, none⟩)) (by rfl) (by kernel_rfl) ?_
      refine sx_call 14 (by rfl) (by kernel_rfl) ((lyPoints_sx w _ (cs) g s A1 c1 A2 c2 w.heap.size F1 F2 (by have := hok.ti; omega) (by have := hok.ar; omega) ⟨hok.ends, hok.tiles⟩ (hp.take [0, 1, 2] 3 (by decide) (by simp))).mono ?_)
      rintro _ W_2 ⟨rfl, hp⟩
      refine ⟨_, rfl, ?_⟩
      refine sx_rd 2 (.int .i64 (lyPointsF s)) (by rfl) (by kernel_rfl) ?_
      refine sx_rd 3 (.bool true) (by rfl) (by kernel_rfl) ?_
      refine sx_nil ?_
      refine ex_then_n ?_
      refine wp_ret ?_
      refine sx_end (.tuple #[.int .i64 (lyPointsF s), .bool true]) (res2 2 3 (by rfl)) ?_
      exact ⟨rfl, hc2 _ (hp.tail.tail.tail)⟩
  · rw [if_neg hsz] at h
    cases h
end Go.Proofs.Ytlphnpinpflaaaa.Hd
