/- spec's spreads, by hand: sums, points, a spread that is read. -/
import Derived.Test.YtlphnpinpflaaaaMLyAdd2
import Derived.Test.YtlphnpinpflaaaaMLyNew
namespace Go.Proofs.Ytlphnpinpflaaaa.Hd
open Go.RowKit Go.Proofs.Ytlphnpinpflaaaa.Pure Go.Proofs.YtlphnpinpflaaaaW.PrintWords Go.Proofs.YtlphnpinpflaaaaW.PrintLast Go.Proofs.YtlphnpinpflaaaaW.PrintMore
set_option linter.unusedVariables false
set_option linter.unusedSimpArgs false
theorem tile_mem (l : List S_Tile) (h : 0 < l.length) : rd_Tile l 0 ∈ l := by unfold rd_Tile; simp [h]
def armVal (a : S_Arm) : Int := if a.f2 = true then 0 else if a.f1 = true then 2 * a.f0 else a.f0
def armsSum (l : List S_Arm) : Int := (l.map armVal).sum
def lySumF (s : LySt) : Int := if s.ti.length = 1 then (rd_Tile s.ti 0).f0 + (rd_Tile s.ti 0).f1 else armsSum s.ar
theorem armsSum_next (l : List S_Arm) (i : Nat) (h : i < l.length) : armsSum (l.take (i + 1)) = armsSum (l.take i) + armVal (rd_Arm l (i : Int)) := by
  unfold armsSum rd_Arm
  rw [List.take_succ_eq_append_getElem h, List.map_append, List.sum_append]
  simp [h]
theorem armsSum_bd (l : List S_Arm) (hok : ∀ a ∈ l, -1 ≤ a.f0 ∧ a.f0 ≤ 9) : ∀ (i : Nat), i ≤ l.length → -2 * (i : Int) ≤ armsSum (l.take i) ∧ armsSum (l.take i) ≤ 18 * (i : Int) := by
  intro i
  induction i with
  | zero => intro _; simp [armsSum]
  | succ i ih =>
    intro h
    have h1 := ih (by omega)
    have h2 : rd_Arm l (i : Int) ∈ l := by unfold rd_Arm; simp [show i < l.length by omega]
    have h3 := hok _ h2
    rw [armsSum_next l i (by omega)]
    have h4 : -2 ≤ armVal (rd_Arm l (i : Int)) ∧ armVal (rd_Arm l (i : Int)) ≤ 18 := by
      unfold armVal
      split
      · omega
      · split <;> omega
    omega
theorem arm_bd (s : LySt) (hok : (∀ a ∈ s.ar, -1 ≤ a.f0 ∧ a.f0 ≤ 9) ∧ ∀ t ∈ s.ti, 0 ≤ t.f0 ∧ t.f0 ≤ 9 ∧ 0 ≤ t.f1 ∧ t.f1 ≤ 9) (i : Nat) (h : i < s.ar.length) : -1 ≤ (rd_Arm s.ar (i : Int)).f0 ∧ (rd_Arm s.ar (i : Int)).f0 ≤ 9 :=
  hok.1 _ (by unfold rd_Arm; simp [h])
set_option maxRecDepth 100000 in
set_option maxHeartbeats 40000000 in
theorem lySum_sx (w0 W : World) (cs : List Chunk) (g : Nat) (s : LySt) (A1 : Option Addr) (c1 : Nat) (A2 : Option Addr) (c2 : Nat) (b : Nat) (F1 F2 : Nat → Prop) (hti : s.ti.length ≤ 28) (har : s.ar.length ≤ 100) (hok : (∀ a ∈ s.ar, -1 ≤ a.f0 ∧ a.f0 ≤ 9) ∧ ∀ t ∈ s.ti, 0 ≤ t.f0 ∧ t.f0 ≤ 9 ∧ 0 ≤ t.f1 ∧ t.f1 ≤ 9) (hp : Hp w0 (blk g #[.slice A1 s.ar.length c1, .slice A2 s.ti.length c2, .int .i64 s.sp, .int .i64 s.wt, .bool s.fi, .bool s.l0, .bool s.l1] 83 :: row k85 85 b (.slice A1 s.ar.length c1) s.ar F1 :: row k51 51 b (.slice A2 s.ti.length c2) s.ti F2 :: cs) W) :
    Calls Try.prog 45 #[.pointer (some ⟨g, 0, none⟩)] W fun e W' => e = .returned (.int .i64 (lySumF s)) ∧ Hp w0 (blk g #[.slice A1 s.ar.length c1, .slice A2 s.ti.length c2, .int .i64 s.sp, .int .i64 s.wt, .bool s.fi, .bool s.l0, .bool s.l1] 83 :: row k85 85 b (.slice A1 s.ar.length c1) s.ar F1 :: row k51 51 b (.slice A2 s.ti.length c2) s.ti F2 :: cs) W' := by
  refine sx_enter (N := 53) (l := [.pointer (some ⟨g, 0, none⟩)]) Try.func45 rfl rfl rfl ?_
  refine wp_seq ?_
  refine sx_region ?_
  refine sx_rd 2 (.int .i64 0) (by rfl) (by kernel_rfl) ?_
  refine sx_nil ?_
  refine ex_then_n ?_
  refine wp_seq ?_
  refine wp_seq ?_
  refine sx_region ?_
  refine sx_rd 6 (.pointer (some ⟨g, 0, none⟩)) (by rfl) (by kernel_rfl) ?_
  refine sx_rd 7 (.pointer (some ⟨g, 0, none⟩)) (by rfl) (by kernel_rfl) ?_
  refine sx_rd 8 (.pointer (some ⟨g, 1, none⟩)) (by rfl) (by kernel_rfl) ?_
  refine sx_rd 9 (.slice A2 s.ti.length c2) (by rfl) (ld1 (t := 44) (p := (.tmp 8)) (by rfl) (by rfl) (by kernel_rfl) (hp.cell 0 (by rfl) 1 _ (by rfl))) ?_
  refine sx_rd 10 (.int .i64 (s.ti.length : Int)) (by rfl) (by kernel_rfl) ?_
  refine sx_rd 11 (.bool ((s.ti.length : Int) == 1)) (by rfl) (by kernel_rfl) ?_
  refine sx_nil ?_
  refine ex_then_n ?_
  refine sx_cond ((s.ti.length : Int) == 1) (by rfl) (fun c_1 => ?_) (fun c_1 => ?_)
  ·
    have c_1p := eq_of_beq_ c_1
    have htb := hok.2 (rd_Tile s.ti 0) (tile_mem s.ti (by omega))
    refine wp_seq ?_
    refine sx_draw [0, 1, 2, 7, 8, 9] [(true, 3), (true, 4), (true, 5), (true, 6), (true, 10), (true, 11), (true, 12), (true, 13), (true, 14), (true, 15)] 16 (C := Hp w0 (blk g #[.slice A1 s.ar.length c1, .slice A2 s.ti.length c2, .int .i64 s.sp, .int .i64 s.wt, .bool s.fi, .bool s.l0, .bool s.l1] 83 :: row k85 85 b (.slice A1 s.ar.length c1) s.ar F1 :: row k51 51 b (.slice A2 s.ti.length c2) s.ti F2 :: cs)) (by kernel_rfl) (by kernel_rfl) (fun d _ _ _ _ h => by cases d <;> exact h) (fun W h => h.drew) hp ?_
    refine preI_read rfl ?_
    refine sxq_val 12 (.pointer (some ⟨g, 0, none⟩)) (by rfl) (fun W _ => (by kernel_rfl)) ?_
    refine sxq_nil ?_
    refine preI_read rfl ?_
    refine sxq_val 13 (.pointer (some ⟨g, 0, none⟩)) (by rfl) (fun W _ => (by kernel_rfl)) ?_
    refine sxq_nil ?_
    refine preI_read rfl ?_
    refine sxq_val 14 (.pointer (some ⟨g, 1, none⟩)) (by rfl) (fun W _ => (by kernel_rfl)) ?_
    refine sxq_nil ?_
    refine preI_read rfl ?_
    refine sxq_val 19 (.pointer (some ⟨g, 0, none⟩)) (by rfl) (fun W _ => (by kernel_rfl)) ?_
    refine sxq_nil ?_
    refine preI_read rfl ?_
    refine sxq_val 20 (.pointer (some ⟨g, 0, none⟩)) (by rfl) (fun W _ => (by kernel_rfl)) ?_
    refine sxq_nil ?_
    refine preI_read rfl ?_
    refine sxq_val 21 (.pointer (some ⟨g, 1, none⟩)) (by rfl) (fun W _ => (by kernel_rfl)) ?_
    refine sxq_nil ?_
    refine preI_nil ?_
    intro W_2 hp
    refine stepsI_read rfl ?_
    refine sxq_val 15 (.slice A2 s.ti.length c2) (by rfl) (fun W hp => (ld1 (t := 44) (p := (.tmp 14)) (by rfl) (by rfl) (by kernel_rfl) (hp.cell 0 (by rfl) 1 _ (by rfl)))) ?_
    refine sxq_nil ?_
    refine stepsI_read rfl ?_
    refine sxq_val 16 (.pointer (some (adr A2 0 2))) (by rfl) (fun W hp => (ix_run (d := k51) (row_C (hp.at_ 2 _ (by rfl))) (t := 44) (by rfl) (by rfl) (by rfl) Try.underlying44 (by kernel_rfl) (by omega) (by omega))) ?_
    refine sxq_nil ?_
    refine stepsI_read rfl ?_
    refine sxq_val 17 (.pointer (some (adr A2 0 2))) (by rfl) (fun W hp => (by kernel_rfl)) ?_
    refine sxq_nil ?_
    refine stepsI_read rfl ?_
    refine sxq_val 18 (.int .i64 ((rd_Tile s.ti 0).f0)) (by rfl) (fun W hp => (ld1 (t := 3) (p := (.tmp 17)) (by rfl) (by rfl) (by kernel_rfl) (el_cell (d := k51) (row_C (hp.at_ 2 _ (by rfl))) z51 0 (by omega) (by omega) (cells := [.int .i64 ((rd_Tile s.ti 0).f0), .int .i64 ((rd_Tile s.ti 0).f1)]) (fun cs h => k51_open h) 0 _ (by rfl)))) ?_
    refine sxq_nil ?_
    refine stepsI_read rfl ?_
    refine sxq_val 22 (.slice A2 s.ti.length c2) (by rfl) (fun W hp => (ld1 (t := 44) (p := (.tmp 21)) (by rfl) (by rfl) (by kernel_rfl) (hp.cell 0 (by rfl) 1 _ (by rfl)))) ?_
    refine sxq_nil ?_
    refine stepsI_read rfl ?_
    refine sxq_val 23 (.pointer (some (adr A2 0 2))) (by rfl) (fun W hp => (ix_run (d := k51) (row_C (hp.at_ 2 _ (by rfl))) (t := 44) (by rfl) (by rfl) (by rfl) Try.underlying44 (by kernel_rfl) (by omega) (by omega))) ?_
    refine sxq_nil ?_
    refine stepsI_read rfl ?_
    refine sxq_val 24 (.pointer (some ((adr A2 0 2).add 1))) (by rfl) (fun W hp => (by kernel_rfl)) ?_
    refine sxq_nil ?_
    refine stepsI_read rfl ?_
    refine sxq_val 25 (.int .i64 ((rd_Tile s.ti 0).f1)) (by rfl) (fun W hp => (ld1 (t := 3) (p := (.tmp 24)) (by rfl) (by rfl) (by kernel_rfl) (el_cell (d := k51) (row_C (hp.at_ 2 _ (by rfl))) z51 0 (by omega) (by omega) (cells := [.int .i64 ((rd_Tile s.ti 0).f0), .int .i64 ((rd_Tile s.ti 0).f1)]) (fun cs h => k51_open h) 1 _ (by rfl)))) ?_
    refine sxq_nil ?_
    refine stepsI_read rfl ?_
    refine sxq_val 26 (.int .i64 ((rd_Tile s.ti 0).f0 + (rd_Tile s.ti 0).f1)) (by rfl) (fun W hp => (wr_ok (by omega) (by kernel_rfl))) ?_
    refine sxq_nil ?_
    refine stepsI_read rfl ?_
    refine sxq_val 2 (.int .i64 ((rd_Tile s.ti 0).f0 + (rd_Tile s.ti 0).f1)) (by rfl) (fun W hp => (by kernel_rfl)) ?_
    refine sxq_nil ?_
    refine stepsI_nil ?_
    refine sx_nil ?_
    refine ex_then_n ?_
    refine wp_ret ?_
    refine ex_then_r ?_
    refine sx_end (.int .i64 ((rd_Tile s.ti 0).f0 + (rd_Tile s.ti 0).f1)) (res1 2 (by rfl)) ?_
    have hc : lySumF s = ((rd_Tile s.ti 0).f0 + (rd_Tile s.ti 0).f1) := by simp only [lySumF]; rw [if_pos (by omega)]
    exact ⟨congrArg (fun x => Ending.returned (.int .i64 x)) hc.symm, (hp.take [0, 1, 2] 3 (by decide) (by simp))⟩
  ·
    have c_1p := ne_of_beq_ c_1
    refine wp_skip ?_
    refine ex_then_n ?_
    refine wp_seq ?_
    refine sx_region ?_
    refine sx_rd 3 (.int .i64 0) (by rfl) (by kernel_rfl) ?_
    refine sx_nil ?_
    refine ex_then_n ?_
    refine wp_seq ?_
    refine wp_seq ?_
    refine sx_region ?_
    refine sx_rd 27 (.pointer (some ⟨g, 0, none⟩)) (by rfl) (by kernel_rfl) ?_
    refine sx_rd 28 (.pointer (some ⟨g, 0, none⟩)) (by rfl) (by kernel_rfl) ?_
    refine sx_rd 29 (.pointer (some ⟨g, 0, none⟩)) (by rfl) (by kernel_rfl) ?_
    refine sx_rd 30 (.slice A1 s.ar.length c1) (by rfl) (ld1 (t := 67) (p := (.tmp 29)) (by rfl) (by rfl) (by kernel_rfl) (hp.cell 0 (by rfl) 0 _ (by rfl))) ?_
    refine sx_rd 31 (.int .i64 (s.ar.length : Int)) (by rfl) (by kernel_rfl) ?_
    refine sx_rd 32 (.int .i64 0) (by rfl) (by kernel_rfl) ?_
    refine sx_nil ?_
    refine ex_then_n ?_
    refine wp_block ?_
    refine wp_loop_ghost (fun n a W => ∃ (r : List (Nat × Value)) (i : Nat), n = s.ar.length - i ∧ a = fr 53 ([(3, .int .i64 (armsSum (s.ar.take i))), (30, .slice A1 s.ar.length c1), (31, .int .i64 (s.ar.length : Int)), (32, .int .i64 (i : Int))] ++ r) ∧ Hp w0 (blk g #[.slice A1 s.ar.length c1, .slice A2 s.ti.length c2, .int .i64 s.sp, .int .i64 s.wt, .bool s.fi, .bool s.l0, .bool s.l1] 83 :: row k85 85 b (.slice A1 s.ar.length c1) s.ar F1 :: row k51 51 b (.slice A2 s.ti.length c2) s.ti F2 :: cs) W ∧ (i ≤ s.ar.length)) _ ⟨_, 0, rfl, fr_front [(3, .int .i64 0), (30, .slice A1 s.ar.length c1), (31, .int .i64 (s.ar.length : Int)), (32, .int .i64 0)] ⟨rfl, rfl, rfl, rfl, trivial⟩, (hp.take [0, 1, 2] 3 (by decide) (by simp)), Nat.zero_le _⟩ ?_
    rintro _ _ W_3 ⟨r, i, rfl, rfl, hp, hi⟩
    have hbd := armsSum_bd s.ar hok.1 i hi
    refine wp_seq ?_
    refine sx_region ?_
    refine sx_rd 33 (.bool (decide ((i : Int) < (s.ar.length : Int)))) (by rfl) (by kernel_rfl) ?_
    refine sx_nil ?_
    refine ex_then_n ?_
    refine wp_seq ?_
    refine sx_cond (decide ((i : Int) < (s.ar.length : Int))) (by rfl) (fun c_4 => ?_) (fun c_4 => ?_)
    ·
      have c_4p := of_decide_eq_true c_4
      have hba := arm_bd s hok i (by omega)
      refine wp_skip ?_
      refine ex_then_n ?_
      refine wp_seq ?_
      refine wp_block ?_
      refine wp_seq ?_
      refine sx_region ?_
      refine sx_rd 34 (.pointer (some (adr A1 (i : Int) 3))) (by rfl) (ix_run (d := k85) (row_C (hp.at_ 1 _ (by rfl))) (t := 67) (by rfl) (by rfl) (by rfl) Try.underlying67 (by kernel_rfl) (by omega) (by omega)) ?_
      refine sx_rd 35 (.agg #[.int .i64 ((rd_Arm s.ar (i : Int)).f0), .bool ((rd_Arm s.ar (i : Int)).f1), .bool ((rd_Arm s.ar (i : Int)).f2)]) (by rfl) (el_run (d := k85) (row_C (hp.at_ 1 _ (by rfl))) z85 (i : Int) (by omega) (by omega) (cells := [.int .i64 ((rd_Arm s.ar (i : Int)).f0), .bool ((rd_Arm s.ar (i : Int)).f1), .bool ((rd_Arm s.ar (i : Int)).f2)]) (fun cs h => k85_open h) 0 [.int .i64 ((rd_Arm s.ar (i : Int)).f0), .bool ((rd_Arm s.ar (i : Int)).f1), .bool ((rd_Arm s.ar (i : Int)).f2)] (by rfl) (t := 85) (p := (.tmp 34)) (by rfl) (by rfl) (by kernel_rfl) (by kernel_rfl)) ?_
      refine sx_box 5 hp #[.int .i64 0, .bool false, .bool false] 85 (by rfl) (fun W => by kernel_rfl) ?_
      intro g_5 W_6 hp
      refine sx_store (t := 85) (p := (.tmp 5)) (x := (.tmp 35)) (by rfl) (by rfl) 0 (by rfl) 0 [.int .i64 ((rd_Arm s.ar (i : Int)).f0), .bool ((rd_Arm s.ar (i : Int)).f1), .bool ((rd_Arm s.ar (i : Int)).f2)] (by rfl) (by rfl) (by kernel_rfl) (by simp [Value.oneCell']) (by show 3 ≤ 3; omega) #[.int .i64 ((rd_Arm s.ar (i : Int)).f0), .bool ((rd_Arm s.ar (i : Int)).f1), .bool ((rd_Arm s.ar (i : Int)).f2)] (by rfl) hp ?_
      intro W_7 hp; simp only [List.set_cons_succ, List.set_cons_zero] at hp
      refine sx_nil ?_
      refine ex_then_n ?_
      refine wp_block ?_
      refine wp_seq ?_
      refine sx_region ?_
      refine sx_rd 41 (.pointer (some ⟨g_5, 2, none⟩)) (by rfl) (by kernel_rfl) ?_
      refine sx_rd 42 (.bool ((rd_Arm s.ar (i : Int)).f2)) (by rfl) (ld1 (t := 4) (p := (.tmp 41)) (by rfl) (by rfl) (by kernel_rfl) (hp.cell 0 (by rfl) 2 _ (by rfl))) ?_
      refine sx_rd 40 (.bool ((rd_Arm s.ar (i : Int)).f2)) (by rfl) (by kernel_rfl) ?_
      refine sx_nil ?_
      refine ex_then_n ?_
      refine sx_cond ((rd_Arm s.ar (i : Int)).f2) (by rfl) (fun c_8 => ?_) (fun c_8 => ?_)
      ·
        refine wp_skip ?_
        refine ex_blk_n ?_
        refine ex_blk_n ?_
        refine ex_then_n ?_
        refine sx_region ?_
        refine sx_rd 51 (.int .i64 ((i : Int) + 1)) (by rfl) (wr_ok (by omega) (by kernel_rfl)) ?_
        refine sx_rd 32 (.int .i64 ((i : Int) + 1)) (by rfl) (by kernel_rfl) ?_
        refine sx_nil ?_
        refine ex_then_n ?_
        have hnx : (armsSum (s.ar.take i)) = armsSum (s.ar.take (i + 1)) := by rw [armsSum_next s.ar i (by omega)]; revert c_1 c_4 c_8; simp +contextual [armVal]
        exact ⟨_, (show s.ar.length - (i + 1) < s.ar.length - i by omega), _, i + 1, rfl, fr_front [(3, .int .i64 (armsSum (s.ar.take (i + 1)))), (30, .slice A1 s.ar.length c1), (31, .int .i64 (s.ar.length : Int)), (32, .int .i64 ((i + 1 : Nat) : Int))] ⟨congrArg (Value.int .i64) hnx, rfl, rfl, rfl, trivial⟩, (hp.take [1, 2, 3] 4 (by decide) (by simp)), (by omega)⟩
      ·
        refine wp_seq ?_
        refine sx_region ?_
        refine sx_rd 44 (.pointer (some ⟨g_5, 1, none⟩)) (by rfl) (by kernel_rfl) ?_
        refine sx_rd 45 (.bool ((rd_Arm s.ar (i : Int)).f1)) (by rfl) (ld1 (t := 4) (p := (.tmp 44)) (by rfl) (by rfl) (by kernel_rfl) (hp.cell 0 (by rfl) 1 _ (by rfl))) ?_
        refine sx_rd 43 (.bool ((rd_Arm s.ar (i : Int)).f1)) (by rfl) (by kernel_rfl) ?_
        refine sx_nil ?_
        refine ex_then_n ?_
        refine sx_cond ((rd_Arm s.ar (i : Int)).f1) (by rfl) (fun c_9 => ?_) (fun c_9 => ?_)
        ·
          refine sx_region ?_
          refine sx_rd 46 (.int .i64 (armsSum (s.ar.take i))) (by rfl) (by kernel_rfl) ?_
          refine sx_rd 47 (.pointer (some ⟨g_5, 0, none⟩)) (by rfl) (by kernel_rfl) ?_
          refine sx_rd 48 (.int .i64 ((rd_Arm s.ar (i : Int)).f0)) (by rfl) (ld1 (t := 3) (p := (.tmp 47)) (by rfl) (by rfl) (by kernel_rfl) (hp.cell 0 (by rfl) 0 _ (by rfl))) ?_
          refine sx_rd 49 (.int .i64 (2 * (rd_Arm s.ar (i : Int)).f0)) (by rfl) (wr_ok (by omega) (by kernel_rfl)) ?_
          refine sx_rd 50 (.int .i64 ((armsSum (s.ar.take i)) + (2 * (rd_Arm s.ar (i : Int)).f0))) (by rfl) (wr_ok (by omega) (by kernel_rfl)) ?_
          refine sx_rd 3 (.int .i64 ((armsSum (s.ar.take i)) + (2 * (rd_Arm s.ar (i : Int)).f0))) (by rfl) (by kernel_rfl) ?_
          refine sx_nil ?_
          refine ex_blk_n ?_
          refine ex_blk_n ?_
          refine ex_then_n ?_
          refine sx_region ?_
          refine sx_rd 51 (.int .i64 ((i : Int) + 1)) (by rfl) (wr_ok (by omega) (by kernel_rfl)) ?_
          refine sx_rd 32 (.int .i64 ((i : Int) + 1)) (by rfl) (by kernel_rfl) ?_
          refine sx_nil ?_
          refine ex_then_n ?_
          have hnx : ((armsSum (s.ar.take i)) + (2 * (rd_Arm s.ar (i : Int)).f0)) = armsSum (s.ar.take (i + 1)) := by rw [armsSum_next s.ar i (by omega)]; revert c_1 c_4 c_8 c_9; simp +contextual [armVal]
          exact ⟨_, (show s.ar.length - (i + 1) < s.ar.length - i by omega), _, i + 1, rfl, fr_front [(3, .int .i64 (armsSum (s.ar.take (i + 1)))), (30, .slice A1 s.ar.length c1), (31, .int .i64 (s.ar.length : Int)), (32, .int .i64 ((i + 1 : Nat) : Int))] ⟨congrArg (Value.int .i64) hnx, rfl, rfl, rfl, trivial⟩, (hp.take [1, 2, 3] 4 (by decide) (by simp)), (by omega)⟩
        ·
          refine sx_region ?_
          refine sx_rd 36 (.int .i64 (armsSum (s.ar.take i))) (by rfl) (by kernel_rfl) ?_
          refine sx_rd 37 (.pointer (some ⟨g_5, 0, none⟩)) (by rfl) (by kernel_rfl) ?_
          refine sx_rd 38 (.int .i64 ((rd_Arm s.ar (i : Int)).f0)) (by rfl) (ld1 (t := 3) (p := (.tmp 37)) (by rfl) (by rfl) (by kernel_rfl) (hp.cell 0 (by rfl) 0 _ (by rfl))) ?_
          refine sx_rd 39 (.int .i64 ((armsSum (s.ar.take i)) + (rd_Arm s.ar (i : Int)).f0)) (by rfl) (wr_ok (by omega) (by kernel_rfl)) ?_
          refine sx_rd 3 (.int .i64 ((armsSum (s.ar.take i)) + (rd_Arm s.ar (i : Int)).f0)) (by rfl) (by kernel_rfl) ?_
          refine sx_nil ?_
          refine ex_blk_n ?_
          refine ex_blk_n ?_
          refine ex_then_n ?_
          refine sx_region ?_
          refine sx_rd 51 (.int .i64 ((i : Int) + 1)) (by rfl) (wr_ok (by omega) (by kernel_rfl)) ?_
          refine sx_rd 32 (.int .i64 ((i : Int) + 1)) (by rfl) (by kernel_rfl) ?_
          refine sx_nil ?_
          refine ex_then_n ?_
          have hnx : ((armsSum (s.ar.take i)) + (rd_Arm s.ar (i : Int)).f0) = armsSum (s.ar.take (i + 1)) := by rw [armsSum_next s.ar i (by omega)]; revert c_1 c_4 c_8 c_9; simp +contextual [armVal]
          exact ⟨_, (show s.ar.length - (i + 1) < s.ar.length - i by omega), _, i + 1, rfl, fr_front [(3, .int .i64 (armsSum (s.ar.take (i + 1)))), (30, .slice A1 s.ar.length c1), (31, .int .i64 (s.ar.length : Int)), (32, .int .i64 ((i + 1 : Nat) : Int))] ⟨congrArg (Value.int .i64) hnx, rfl, rfl, rfl, trivial⟩, (hp.take [1, 2, 3] 4 (by decide) (by simp)), (by omega)⟩
    ·
      have c_4p := of_decide_eq_false c_4
      refine wp_exit ?_
      refine ex_then_e (ex_then_e (ex_blk_here ?_))
      refine ex_then_n ?_
      refine wp_seq ?_
      refine sx_region ?_
      refine sx_rd 52 (.int .i64 (armsSum (s.ar.take i))) (by rfl) (by kernel_rfl) ?_
      refine sx_rd 2 (.int .i64 (armsSum (s.ar.take i))) (by rfl) (by kernel_rfl) ?_
      refine sx_nil ?_
      refine ex_then_n ?_
      refine wp_ret ?_
      refine sx_end (.int .i64 (armsSum (s.ar.take i))) (res1 2 (by rfl)) ?_
      have hc : lySumF s = (armsSum (s.ar.take i)) := by simp only [lySumF]; rw [if_neg (by omega)]; rw [List.take_of_length_le (by omega)]
      exact ⟨congrArg (fun x => Ending.returned (.int .i64 x)) hc.symm, (hp.take [0, 1, 2] 3 (by decide) (by simp))⟩
end Go.Proofs.Ytlphnpinpflaaaa.Hd
