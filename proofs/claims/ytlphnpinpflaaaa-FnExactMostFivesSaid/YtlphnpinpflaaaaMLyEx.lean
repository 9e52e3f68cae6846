/- spec's functions over spreads, by hand. -/
import Derived.Test.YtlphnpinpflaaaaMLyRead
namespace Go.Proofs.Ytlphnpinpflaaaa.Hd
open Go.RowKit Go.Proofs.Ytlphnpinpflaaaa.Pure Go.Proofs.YtlphnpinpflaaaaW.PrintWords Go.Proofs.YtlphnpinpflaaaaW.PrintLast Go.Proofs.YtlphnpinpflaaaaW.PrintMore
set_option linter.unusedVariables false
set_option linter.unusedSimpArgs false
theorem lyRead_some (w0 W : World) (cs : List Chunk) (plays : List S_Play) (A : Option Addr) (c : Nat) (hl : plays.length ≤ 8388608) (hC : ∀ W, Hp w0 cs W → Kd.C k53 W A plays.length plays) (hp : Hp w0 cs W) (s : LySt) (hf : lyReadF plays = some s) :
    Calls Try.prog 44 #[.slice A plays.length c] W fun e W' => ∃ g A1 c1 A2 c2 F1 F2, e = .returned (.tuple #[.pointer (some ⟨g, 0, none⟩), .bool true]) ∧ Hp w0 (blk g #[.slice A1 s.ar.length c1, .slice A2 s.ti.length c2, .int .i64 s.sp, .int .i64 s.wt, .bool s.fi, .bool s.l0, .bool s.l1] 83 :: row k85 85 w0.heap.size (.slice A1 s.ar.length c1) s.ar F1 :: row k51 51 w0.heap.size (.slice A2 s.ti.length c2) s.ti F2 :: cs) W' :=
  (lyRead_sx w0 W cs plays A c hl hC hp).mono (fun e W' h => by
    rcases h with ⟨g, s', A1, c1, A2, c2, F1, F2, h1, h2, h3⟩ | ⟨g, h1, _⟩
    · rw [hf] at h1
      injection h1 with h1
      subst h1
      exact ⟨g, A1, c1, A2, c2, F1, F2, h2, h3⟩
    · rw [hf] at h1; cases h1)
theorem lyRead_none (w0 W : World) (cs : List Chunk) (plays : List S_Play) (A : Option Addr) (c : Nat) (hl : plays.length ≤ 8388608) (hC : ∀ W, Hp w0 cs W → Kd.C k53 W A plays.length plays) (hp : Hp w0 cs W) (hf : lyReadF plays = none) :
    Calls Try.prog 44 #[.slice A plays.length c] W fun e W' => ∃ g, e = .returned (.tuple #[.pointer (some ⟨g, 0, none⟩), .bool false]) ∧ Hp w0 cs W' :=
  (lyRead_sx w0 W cs plays A c hl hC hp).mono (fun e W' h => by
    rcases h with ⟨g, s', A1, c1, A2, c2, F1, F2, h1, h2, h3⟩ | ⟨g, h1, h2⟩
    · rw [hf] at h1; cases h1
    · exact ⟨g, h2⟩)
def lyPointsF (s : LySt) : Int := if (lySumF s).tmod 5 = 0 then lySumF s else 0
theorem lySumF_bd (s : LySt) (hti : s.ti.length ≤ 28) (har : s.ar.length ≤ 100) (hok : (∀ a ∈ s.ar, -1 ≤ a.f0 ∧ a.f0 ≤ 9) ∧ ∀ t ∈ s.ti, 0 ≤ t.f0 ∧ t.f0 ≤ 9 ∧ 0 ≤ t.f1 ∧ t.f1 ≤ 9) : -200 ≤ lySumF s ∧ lySumF s ≤ 1800 := by
  unfold lySumF
  split
  · have := hok.2 (rd_Tile s.ti 0) (tile_mem s.ti (by omega))
    omega
  · have := armsSum_bd s.ar hok.1 s.ar.length (Nat.le_refl _)
    rw [List.take_of_length_le (Nat.le_refl _)] at this
    omega
set_option maxRecDepth 100000 in
set_option maxHeartbeats 40000000 in
theorem lyPoints_sx (w0 W : World) (cs : List Chunk) (g : Nat) (s : LySt) (A1 : Option Addr) (c1 : Nat) (A2 : Option Addr) (c2 : Nat) (b : Nat) (F1 F2 : Nat → Prop) (hti : s.ti.length ≤ 28) (har : s.ar.length ≤ 100) (hok : (∀ a ∈ s.ar, -1 ≤ a.f0 ∧ a.f0 ≤ 9) ∧ ∀ t ∈ s.ti, 0 ≤ t.f0 ∧ t.f0 ≤ 9 ∧ 0 ≤ t.f1 ∧ t.f1 ≤ 9) (hp : Hp w0 (blk g #[.slice A1 s.ar.length c1, .slice A2 s.ti.length c2, .int .i64 s.sp, .int .i64 s.wt, .bool s.fi, .bool s.l0, .bool s.l1] 83 :: row k85 85 b (.slice A1 s.ar.length c1) s.ar F1 :: row k51 51 b (.slice A2 s.ti.length c2) s.ti F2 :: cs) W) :
    Calls Try.prog 49 #[.pointer (some ⟨g, 0, none⟩)] W fun e W' => e = .returned (.int .i64 (lyPointsF s)) ∧ Hp w0 (blk g #[.slice A1 s.ar.length c1, .slice A2 s.ti.length c2, .int .i64 s.sp, .int .i64 s.wt, .bool s.fi, .bool s.l0, .bool s.l1] 83 :: row k85 85 b (.slice A1 s.ar.length c1) s.ar F1 :: row k51 51 b (.slice A2 s.ti.length c2) s.ti F2 :: cs) W' := by
  have hsb := lySumF_bd s hti har hok
  refine sx_enter (N := 10) (l := [.pointer (some ⟨g, 0, none⟩)]) Try.func49 rfl rfl rfl ?_
  refine wp_seq ?_
  refine sx_region ?_
  refine sx_rd 2 (.int .i64 0) (by rfl) (by kernel_rfl) ?_
  refine sx_nil ?_
  refine ex_then_n ?_
  refine wp_seq ?_
  refine wp_seq ?_
  refine sx_region ?_
  refine sx_rd 4 (.pointer (some ⟨g, 0, none⟩)) (by rfl) (by kernel_rfl) ?_
  refine sx_call 5 (by rfl) (by kernel_rfl) ((lySum_sx w0 _ cs g s A1 c1 A2 c2 b F1 F2 hti har hok hp).mono ?_)
  rintro _ W_1 ⟨rfl, hp⟩
  refine ⟨_, rfl, ?_⟩
  refine sx_rd 3 (.int .i64 (lySumF s)) (by rfl) (by kernel_rfl) ?_
  refine sx_nil ?_
  refine ex_then_n ?_
  refine wp_seq ?_
  refine sx_region ?_
  refine sx_rd 6 (.int .i64 (lySumF s)) (by rfl) (by kernel_rfl) ?_
  refine sx_rd 7 (.int .i64 (Int.tmod (lySumF s) 5)) (by rfl) (by kernel_rfl) ?_
  refine sx_rd 8 (.bool ((Int.tmod (lySumF s) 5) == 0)) (by rfl) (by kernel_rfl) ?_
  refine sx_nil ?_
  refine ex_then_n ?_
  refine sx_cond ((Int.tmod (lySumF s) 5) == 0) (by rfl) (fun c_2 => ?_) (fun c_2 => ?_)
  ·
    have c_2p := eq_of_beq_ c_2
    refine wp_seq ?_
    refine sx_region ?_
    refine sx_rd 9 (.int .i64 (lySumF s)) (by rfl) (by kernel_rfl) ?_
    refine sx_rd 2 (.int .i64 (lySumF s)) (by rfl) (by kernel_rfl) ?_
    refine sx_nil ?_
    refine ex_then_n ?_
    refine wp_ret ?_
    refine ex_then_r ?_
    refine sx_end (.int .i64 (lySumF s)) (res1 2 (by rfl)) ?_
    have hc : lyPointsF s = (lySumF s) := by simp only [lyPointsF]; rw [if_pos (by omega)]
    exact ⟨congrArg (fun x => Ending.returned (.int .i64 x)) hc.symm, hp⟩
  ·
    have c_2p := ne_of_beq_ c_2
    refine wp_skip ?_
    refine ex_then_n ?_
    refine wp_seq ?_
    refine sx_region ?_
    refine sx_rd 2 (.int .i64 0) (by rfl) (by kernel_rfl) ?_
    refine sx_nil ?_
    refine ex_then_n ?_
    refine wp_ret ?_
    refine sx_end (.int .i64 0) (res1 2 (by rfl)) ?_
    have hc : lyPointsF s = 0 := by simp only [lyPointsF]; rw [if_neg (by omega)]
    exact ⟨congrArg (fun x => Ending.returned (.int .i64 x)) hc.symm, hp⟩
end Go.Proofs.Ytlphnpinpflaaaa.Hd
