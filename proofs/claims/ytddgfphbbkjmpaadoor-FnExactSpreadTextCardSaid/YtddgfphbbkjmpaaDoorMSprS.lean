/- spec.SpreadText, by hand. -/
import Derived.Test.YtddgfphbbkjmpaaDoorMLyRead
import Derived.Test.YtddgfphbbkjmpaaDoorPSprT
import Derived.Test.YtddgfphbbkjmpaaDoorMSx4
namespace Go.Proofs.YtddgfphbbkjmpaaDoor.Hd
open Go.RowKit Go.Proofs.YtddgfphbbkjmpaaDoor.Pure Go.Proofs.YtddgfphbbkjmpaaDoorW.PrintWords Go.Proofs.YtddgfphbbkjmpaaDoorW.PrintLast Go.Proofs.YtddgfphbbkjmpaaDoorW.PrintMore
set_option linter.unusedVariables false
set_option linter.unusedSimpArgs false
theorem lyRead_some (w0 W : World) (cs : List Chunk) (plays : List S_Play) (A : Option Addr) (c : Nat) (hl : plays.length ≤ 8388608) (hC : ∀ W, Hp w0 cs W → Kd.C k36 W A plays.length plays) (hp : Hp w0 cs W) (s : LySt) (hf : lyReadF plays = some s) :
    Calls Tryd.prog 9 #[.slice A plays.length c] W fun e W' => ∃ g A1 c1 A2 c2 F1 F2, e = .returned (.tuple #[.pointer (some ⟨g, 0, none⟩), .bool true]) ∧ Hp w0 (blk g #[.slice A1 s.ar.length c1, .slice A2 s.ti.length c2, .int .i64 s.sp, .int .i64 s.wt, .bool s.fi, .bool s.l0, .bool s.l1] 68 :: row k72 72 w0.heap.size (.slice A1 s.ar.length c1) s.ar F1 :: row k34 34 w0.heap.size (.slice A2 s.ti.length c2) s.ti F2 :: cs) W' :=
  (lyRead_sx w0 W cs plays A c hl hC hp).mono (fun e W' h => by
    rcases h with ⟨g, s', A1, c1, A2, c2, F1, F2, h1, h2, h3⟩ | ⟨g, h1, _⟩
    · rw [hf] at h1
      injection h1 with h1
      subst h1
      exact ⟨g, A1, c1, A2, c2, F1, F2, h2, h3⟩
    · rw [hf] at h1; cases h1)
theorem lyRead_none (w0 W : World) (cs : List Chunk) (plays : List S_Play) (A : Option Addr) (c : Nat) (hl : plays.length ≤ 8388608) (hC : ∀ W, Hp w0 cs W → Kd.C k36 W A plays.length plays) (hp : Hp w0 cs W) (hf : lyReadF plays = none) :
    Calls Tryd.prog 9 #[.slice A plays.length c] W fun e W' => ∃ g, e = .returned (.tuple #[.pointer (some ⟨g, 0, none⟩), .bool false]) ∧ Hp w0 cs W' :=
  (lyRead_sx w0 W cs plays A c hl hC hp).mono (fun e W' h => by
    rcases h with ⟨g, s', A1, c1, A2, c2, F1, F2, h1, h2, h3⟩ | ⟨g, h1, h2⟩
    · rw [hf] at h1; cases h1
    · exact ⟨g, h2⟩)
def spec_SpreadText.f (l : List S_Play) : Option (ByteArray × Bool) := if l.length ≤ 8388608 then some (resSpreadText l) else none
set_option maxRecDepth 100000 in
set_option maxHeartbeats 40000000 in
theorem spec_SpreadText.calls (A0 : Option Addr) (c0 : Nat) (l0 : List S_Play) (r0 : ByteArray) (r1 : Bool) (w : World) (hr0 : Kd.C k36 w A0 l0.length l0) (hc0 : l0.length ≤ c0) (h : spec_SpreadText.f l0 = some (r0, r1)) :
    Calls Tryd.prog 5 #[.slice A0 l0.length c0] w fun e w' => e = .returned (.tuple #[.string r0, .bool r1]) ∧ Below w.heap.size w w' := by
  unfold spec_SpreadText.f at h
  by_cases hsz : l0.length ≤ 8388608
  · rw [if_pos hsz] at h
    have hlen : l0.length ≤ 8388608 := hsz
    obtain ⟨cs, hcs⟩ : ∃ cs, cs = [old w w.heap.size] := ⟨_, rfl⟩
    have hp : Hp w cs w := by rw [hcs]; exact Hp.old_start w
    have hc2 : ∀ W, Hp w cs W → Below w.heap.size w W := fun W h => by rw [hcs] at h; exact h.since 0 _ rfl
    have hC0 : ∀ W, Hp w cs W → Kd.C k36 W A0 l0.length l0 := fun W h => Kd.C_below hr0 (hc2 W h)
    clear hcs
    have hC := hC0
    cases hf : lyReadF l0 with
    | none =>
      refine sx_enter (N := 48) (l := [.slice A0 l0.length c0]) Tryd.func5 rfl rfl rfl ?_
      refine wp_seq ?_
      refine sx_region ?_
      refine sx_rd 2 (.string (⟨#[]⟩ : ByteArray)) (by rfl) (by kernel_rfl) ?_
      refine sx_rd 3 (.bool false) (by rfl) (by kernel_rfl) ?_
      refine sx_nil ?_
      refine ex_then_n ?_
      refine wp_seq ?_
      refine wp_seq ?_
      refine sx_region ?_
      refine sx_rd 10 (.slice A0 l0.length c0) (by rfl) (by kernel_rfl) ?_
      refine sx_call 11 (by rfl) (by kernel_rfl) ((lyRead_none w _ cs l0 A0 c0 hlen hC hp hf).mono ?_)
      rintro _ W_1 ⟨g, rfl, hp⟩
      refine ⟨_, rfl, ?_⟩
      refine sx_rd 9 (.tuple #[.pointer (some ⟨g, 0, none⟩), .bool false]) (by rfl) (by kernel_rfl) ?_
      refine sx_rd 12 (.pointer (some ⟨g, 0, none⟩)) (by rfl) (by kernel_rfl) ?_
      refine sx_rd 13 (.bool false) (by rfl) (by kernel_rfl) ?_
      refine sx_rd 4 (.pointer (some ⟨g, 0, none⟩)) (by rfl) (by kernel_rfl) ?_
      refine sx_rd 5 (.bool false) (by rfl) (by kernel_rfl) ?_
      refine sx_nil ?_
      refine ex_then_n ?_
      refine wp_seq ?_
      refine sx_region ?_
      refine sx_rd 14 (.bool false) (by rfl) (by kernel_rfl) ?_
      refine sx_rd 15 (.bool true) (by rfl) (by kernel_rfl) ?_
      refine sx_nil ?_
      refine ex_then_n ?_
      refine sx_then true (by rfl) rfl ?_
      refine wp_seq ?_
      refine sx_region ?_
      refine sx_rd 2 (.string (⟨#[]⟩ : ByteArray)) (by rfl) (by kernel_rfl) ?_
      refine sx_rd 3 (.bool false) (by rfl) (by kernel_rfl) ?_
      refine sx_nil ?_
      refine ex_then_n ?_
      refine wp_ret ?_
      refine ex_then_r ?_
      refine sx_end (.tuple #[.string (⟨#[]⟩ : ByteArray), .bool false]) (res2 2 3 (by rfl)) ?_
      rw [show resSpreadText l0 = (⟨#[]⟩, false) from by unfold resSpreadText; rw [hf]; rfl] at h
      simp only [Option.some.injEq, Prod.mk.injEq] at h; obtain ⟨rfl, rfl⟩ := h
      exact ⟨rfl, hc2 _ (hp)⟩
    | some s =>
      obtain ⟨hok, hl28⟩ := lyOk_read hf
      refine sx_enter (N := 48) (l := [.slice A0 l0.length c0]) Tryd.func5 rfl rfl rfl ?_
      refine wp_seq ?_
      refine sx_region ?_
      refine sx_rd 2 (.string (⟨#[]⟩ : ByteArray)) (by rfl) (by kernel_rfl) ?_
      refine sx_rd 3 (.bool false) (by rfl) (by kernel_rfl) ?_
      refine sx_nil ?_
      refine ex_then_n ?_
      refine wp_seq ?_
      refine wp_seq ?_
      refine sx_region ?_
      refine sx_rd 10 (.slice A0 l0.length c0) (by rfl) (by kernel_rfl) ?_
      refine sx_call 11 (by rfl) (by kernel_rfl) ((lyRead_some w _ cs l0 A0 c0 hlen hC hp s hf).mono ?_)
      rintro _ W_1 ⟨g, A1, c1, A2, c2, F1, F2, rfl, hp⟩
      refine ⟨_, rfl, ?_⟩
      refine sx_rd 9 (.tuple #[.pointer (some ⟨g, 0, none⟩), .bool true]) (by rfl) (by kernel_rfl) ?_
      refine sx_rd 12 (.pointer (some ⟨g, 0, none⟩)) (by rfl) (by kernel_rfl) ?_
      refine sx_rd 13 (.bool true) (by rfl) (by kernel_rfl) ?_
      refine sx_rd 4 (.pointer (some ⟨g, 0, none⟩)) (by rfl) (by kernel_rfl) ?_
      refine sx_rd 5 (.bool true) (by rfl) (by kernel_rfl) ?_
      refine sx_nil ?_
      refine ex_then_n ?_
      refine wp_seq ?_
      refine sx_region ?_
      refine sx_rd 14 (.bool true) (by rfl) (by kernel_rfl) ?_
      refine sx_rd 15 (.bool false) (by rfl) (by kernel_rfl) ?_
      refine sx_nil ?_
      refine ex_then_n ?_
      refine sx_else false (by rfl) rfl ?_
      refine wp_skip ?_
      refine ex_then_n ?_
      refine wp_seq ?_
      refine wp_seq ?_
      refine sx_region ?_
      refine sx_rd 16 (.slice A0 l0.length c0) (by rfl) (by kernel_rfl) ?_
      refine sx_rd 17 (.int .i64 (l0.length : Int)) (by rfl) (by kernel_rfl) ?_
      refine sx_rd 18 (.bool ((l0.length : Int) == 0)) (by rfl) (by kernel_rfl) ?_
      refine sx_nil ?_
      refine ex_then_n ?_
      refine sx_cond ((l0.length : Int) == 0) (by rfl) (fun c_2 => ?_) (fun c_2 => ?_)
      ·
        have c_2p := eq_of_beq_ c_2
        refine wp_seq ?_
        refine sx_region ?_
        refine sx_rd 2 (.string (⟨#[45]⟩ : ByteArray)) (by rfl) (by kernel_rfl) ?_
        refine sx_rd 3 (.bool true) (by rfl) (by kernel_rfl) ?_
        refine sx_nil ?_
        refine ex_then_n ?_
        refine wp_ret ?_
        refine ex_then_r ?_
        refine sx_end (.tuple #[.string (⟨#[45]⟩ : ByteArray), .bool true]) (res2 2 3 (by rfl)) ?_
        rw [show resSpreadText l0 = (⟨#[45]⟩, true) from by unfold resSpreadText; rw [hf, if_pos (show (some s).isSome = true from rfl), if_pos (by first | omega | simp_all)]] at h
        simp only [Option.some.injEq, Prod.mk.injEq] at h; obtain ⟨rfl, rfl⟩ := h
        exact ⟨rfl, hc2 _ (hp.tail.tail.tail)⟩
      ·
        have c_2p := ne_of_beq_ c_2
        refine wp_skip ?_
        refine ex_then_n ?_
        refine wp_seq ?_
        refine sx_region ?_
        refine sx_rd 6 (.string (⟨#[]⟩ : ByteArray)) (by rfl) (by kernel_rfl) ?_
        refine sx_nil ?_
        refine ex_then_n ?_
        refine wp_seq ?_
        refine wp_seq ?_
        refine sx_region ?_
        refine sx_rd 19 (.slice A0 l0.length c0) (by rfl) (by kernel_rfl) ?_
        refine sx_rd 20 (.int .i64 (l0.length : Int)) (by rfl) (by kernel_rfl) ?_
        refine sx_rd 21 (.int .i64 0) (by rfl) (by kernel_rfl) ?_
        refine sx_nil ?_
        refine ex_then_n ?_
        refine wp_block ?_
        refine wp_loop_ghost (fun n_ a_ W => ∃ (r_ : List (Nat × Value)) (i : Nat) , n_ = l0.length - i ∧ a_ = fr 48 ([(6, .string (spT l0 i)), (19, .slice A0 l0.length c0), (20, .int .i64 (l0.length : Int)), (21, .int .i64 (i : Int))] ++ r_) ∧ Hp w (blk g #[.slice A1 s.ar.length c1, .slice A2 s.ti.length c2, .int .i64 s.sp, .int .i64 s.wt, .bool s.fi, .bool s.l0, .bool s.l1] 68 :: row k72 72 w.heap.size (.slice A1 s.ar.length c1) s.ar F1 :: row k34 34 w.heap.size (.slice A2 s.ti.length c2) s.ti F2 :: cs) W ∧ (i ≤ l0.length)) _ ⟨_, 0, rfl, fr_front [(6, .string (spT l0 0)), (19, .slice A0 l0.length c0), (20, .int .i64 (l0.length : Int)), (21, .int .i64 0)] ⟨(by exact congrArg Value.string (show (⟨#[]⟩ : ByteArray) = (spT l0 0) from rfl)), rfl, rfl, rfl, trivial⟩, (hp.take [0, 1, 2] 3 (by decide) (by simp)), Nat.zero_le _⟩ ?_
        rintro _ _ W_3 ⟨r_, i, rfl, rfl, hp, hi⟩
        have hsp := spT_sz hf i (by omega)
        have hz1 : (⟨#[44]⟩ : ByteArray).size = 1 := rfl
        have hz2 : (⟨#[64]⟩ : ByteArray).size = 1 := rfl
        refine wp_seq ?_
        refine sx_region ?_
        refine sx_rd 22 (.bool (decide ((i : Int) < (l0.length : Int)))) (by rfl) (by kernel_rfl) ?_
        refine sx_nil ?_
        refine ex_then_n ?_
        refine wp_seq ?_
        refine sx_cond (decide ((i : Int) < (l0.length : Int))) (by rfl) (fun c_4 => ?_) (fun c_4 => ?_)
        ·
          have c_4p := of_decide_eq_true c_4
          obtain ⟨⟨p1, p2⟩, ⟨p3, p4⟩, p5, p6⟩ := play_at hf i (by omega)
          have hn1 := numD_sz (x := (rd_Play l0 (i : Int)).f0.f0) (by omega)
          have hn2 := numD_sz (x := (rd_Play l0 (i : Int)).f0.f1) (by omega)
          have hn3 := numD_sz (x := (rd_Play l0 (i : Int)).f1) (by omega)
          refine wp_skip ?_
          refine ex_then_n ?_
          refine wp_seq ?_
          refine wp_block ?_
          refine wp_seq ?_
          refine sx_region ?_
          refine sx_rd 23 (.int .i64 (i : Int)) (by rfl) (by kernel_rfl) ?_
          refine sx_rd 24 (.pointer (some (adr A0 (i : Int) 3))) (by rfl) (ix_run (d := k36) (hC0 _ hp.tail.tail.tail) (t := 26) (by rfl) (by rfl) (by rfl) Tryd.underlying26 (by kernel_rfl) (by omega) (by omega)) ?_
          refine sx_rd 25 (.agg #[.int .i64 ((rd_Play l0 (i : Int)).f0.f0), .int .i64 ((rd_Play l0 (i : Int)).f0.f1), .int .i64 ((rd_Play l0 (i : Int)).f1)]) (by rfl) (el_run (d := k36) (hC0 _ hp.tail.tail.tail) z36 (i : Int) (by omega) (by omega) (cells := [.int .i64 ((rd_Play l0 (i : Int)).f0.f0), .int .i64 ((rd_Play l0 (i : Int)).f0.f1), .int .i64 ((rd_Play l0 (i : Int)).f1)]) (fun cs h => k36_open h) 0 [.int .i64 ((rd_Play l0 (i : Int)).f0.f0), .int .i64 ((rd_Play l0 (i : Int)).f0.f1), .int .i64 ((rd_Play l0 (i : Int)).f1)] (by rfl) (t := 36) (p := (.tmp 24)) (by rfl) (by rfl) (by kernel_rfl) (by kernel_rfl)) ?_
          refine sx_box 8 hp #[.int .i64 0, .int .i64 0, .int .i64 0] 36 (by rfl) (fun W => by kernel_rfl) ?_
          intro g_5 W_6 hp
          refine sx_rd 7 (.int .i64 (i : Int)) (by rfl) (by kernel_rfl) ?_
          refine sx_store (t := 36) (p := (.tmp 8)) (x := (.tmp 25)) (by rfl) (by rfl) 0 (by rfl) 0 [.int .i64 ((rd_Play l0 (i : Int)).f0.f0), .int .i64 ((rd_Play l0 (i : Int)).f0.f1), .int .i64 ((rd_Play l0 (i : Int)).f1)] (by rfl) (by rfl) (by kernel_rfl) (by simp [Value.oneCell']) (by show 3 ≤ 3; omega) #[.int .i64 ((rd_Play l0 (i : Int)).f0.f0), .int .i64 ((rd_Play l0 (i : Int)).f0.f1), .int .i64 ((rd_Play l0 (i : Int)).f1)] (by rfl) hp ?_
          intro W_7 hp; simp only [List.set_cons_succ, List.set_cons_zero] at hp
          refine sx_nil ?_
          refine ex_then_n ?_
          refine wp_seq ?_
          refine wp_seq ?_
          refine sx_region ?_
          refine sx_rd 26 (.int .i64 (i : Int)) (by rfl) (by kernel_rfl) ?_
          refine sx_rd 27 (.bool (decide ((i : Int) > 0))) (by rfl) (by kernel_rfl) ?_
          refine sx_nil ?_
          refine ex_then_n ?_
          refine sx_cond (decide ((i : Int) > 0)) (by rfl) (fun c_8 => ?_) (fun c_8 => ?_)
          ·
            have c_8p := of_decide_eq_true c_8
            refine sx_region ?_
            refine sx_rd 28 (.string (spT l0 i)) (by rfl) (by kernel_rfl) ?_
            refine sx_rd 29 (.string ((spT l0 i) ++ (⟨#[44]⟩ : ByteArray))) (by rfl) (sadd_run (by rfl) (by rfl) (by rfl) (by first | omega | (simp only [ByteArray.size_append]; omega))) ?_
            refine sx_rd 6 (.string ((spT l0 i) ++ (⟨#[44]⟩ : ByteArray))) (by rfl) (by kernel_rfl) ?_
            refine sx_nil ?_
            refine ex_then_n ?_
            refine sx_drawT [0, 1, 2, 5, 6, 11] (.rd 3 (.rd 7 (.rd 12 (.alt 4 (.alt 8 (.rd 9 (.rd 10 (.alt 13 (.rd 14 (.rd 15 (.rd 16 (.fin)))) .non))) .non) .non)))) 17 (C := Hp w (blk g_5 #[.int .i64 ((rd_Play l0 (i : Int)).f0.f0), .int .i64 ((rd_Play l0 (i : Int)).f0.f1), .int .i64 ((rd_Play l0 (i : Int)).f1)] 36 :: blk g #[.slice A1 s.ar.length c1, .slice A2 s.ti.length c2, .int .i64 s.sp, .int .i64 s.wt, .bool s.fi, .bool s.l0, .bool s.l1] 68 :: row k72 72 w.heap.size (.slice A1 s.ar.length c1) s.ar F1 :: row k34 34 w.heap.size (.slice A2 s.ti.length c2) s.ti F2 :: cs)) (by kernel_rfl) (by kernel_rfl) (fun d _ _ _ _ h => by cases d <;> exact h) (fun W h => h.drew) hp ?_
            refine preI_read rfl ?_
            refine sxq_val 30 (.string ((spT l0 i) ++ (⟨#[44]⟩ : ByteArray))) (by rfl) (fun W _ => (by kernel_rfl)) ?_
            refine sxq_nil ?_
            refine preI_read rfl ?_
            refine sxq_val 31 (.pointer (some ⟨g_5, 0, none⟩)) (by rfl) (fun W _ => (by kernel_rfl)) ?_
            refine sxq_nil ?_
            refine preI_read rfl ?_
            refine sxq_val 32 (.pointer (some ⟨g_5, 0, none⟩)) (by rfl) (fun W _ => (by kernel_rfl)) ?_
            refine sxq_nil ?_
            refine preI_read rfl ?_
            refine sxq_val 35 (.pointer (some ⟨g_5, 0, none⟩)) (by rfl) (fun W _ => (by kernel_rfl)) ?_
            refine sxq_nil ?_
            refine preI_read rfl ?_
            refine sxq_val 36 (.pointer (some ⟨g_5, 1, none⟩)) (by rfl) (fun W _ => (by kernel_rfl)) ?_
            refine sxq_nil ?_
            refine preI_read rfl ?_
            refine sxq_val 41 (.pointer (some ⟨g_5, 2, none⟩)) (by rfl) (fun W _ => (by kernel_rfl)) ?_
            refine sxq_nil ?_
            refine preI_nil ?_
            intro W_9 hp
            refine treeI_rd rfl ?_
            refine sxq_val 33 (.int .i64 ((rd_Play l0 (i : Int)).f0.f0)) (by rfl) (fun W hp => (ld1 (t := 3) (p := (.tmp 32)) (by rfl) (by rfl) (by kernel_rfl) (hp.cell 0 (by rfl) 0 _ (by rfl)))) ?_
            refine sxq_nil ?_
            refine treeI_rd rfl ?_
            refine sxq_val 37 (.int .i64 ((rd_Play l0 (i : Int)).f0.f1)) (by rfl) (fun W hp => (ld1 (t := 3) (p := (.tmp 36)) (by rfl) (by rfl) (by kernel_rfl) (hp.cell 0 (by rfl) 1 _ (by rfl)))) ?_
            refine sxq_nil ?_
            refine treeI_rd rfl ?_
            refine sxq_val 42 (.int .i64 ((rd_Play l0 (i : Int)).f1)) (by rfl) (fun W hp => (ld1 (t := 3) (p := (.tmp 41)) (by rfl) (by rfl) (by kernel_rfl) (hp.cell 0 (by rfl) 2 _ (by rfl)))) ?_
            refine sxq_nil ?_
            refine treeI_ev rfl ?_
            obtain ⟨k_10, hk_k_10⟩ := Ev.rounds (num_ev (x := (rd_Play l0 (i : Int)).f0.f0) (by omega))
            refine sx_call 34 (by rfl) (by kernel_rfl) ((spec_l1Num.calls k_10 ((rd_Play l0 (i : Int)).f0.f0) _ _ hk_k_10).mono ?_)
            rintro _ W_11 ⟨rfl, hb⟩
            refine ⟨_, rfl, ?_⟩
            replace hp := hp.below hb
            clear hb
            refine step_fin hp ?_
            refine treeI_ev rfl ?_
            obtain ⟨k_12, hk_k_12⟩ := Ev.rounds (num_ev (x := (rd_Play l0 (i : Int)).f0.f1) (by omega))
            refine sx_call 38 (by rfl) (by kernel_rfl) ((spec_l1Num.calls k_12 ((rd_Play l0 (i : Int)).f0.f1) _ _ hk_k_12).mono ?_)
            rintro _ W_13 ⟨rfl, hb⟩
            refine ⟨_, rfl, ?_⟩
            replace hp := hp.below hb
            clear hb
            refine step_fin hp ?_
            refine treeI_rd rfl ?_
            refine sxq_val 39 (.string ((numD ((rd_Play l0 (i : Int)).f0.f0)) ++ (numD ((rd_Play l0 (i : Int)).f0.f1)))) (by rfl) (fun W hp => (sadd_run (by rfl) (by rfl) (by rfl) (by first | omega | (simp only [ByteArray.size_append]; omega)))) ?_
            refine sxq_nil ?_
            refine treeI_rd rfl ?_
            refine sxq_val 40 (.string (((numD ((rd_Play l0 (i : Int)).f0.f0)) ++ (numD ((rd_Play l0 (i : Int)).f0.f1))) ++ (⟨#[64]⟩ : ByteArray))) (by rfl) (fun W hp => (sadd_run (by rfl) (by rfl) (by rfl) (by first | omega | (simp only [ByteArray.size_append]; omega)))) ?_
            refine sxq_nil ?_
            refine treeI_ev rfl ?_
            obtain ⟨k_14, hk_k_14⟩ := Ev.rounds (num_ev (x := (rd_Play l0 (i : Int)).f1) (by omega))
            refine sx_call 43 (by rfl) (by kernel_rfl) ((spec_l1Num.calls k_14 ((rd_Play l0 (i : Int)).f1) _ _ hk_k_14).mono ?_)
            rintro _ W_15 ⟨rfl, hb⟩
            refine ⟨_, rfl, ?_⟩
            replace hp := hp.below hb
            clear hb
            refine step_fin hp ?_
            refine treeI_rd rfl ?_
            refine sxq_val 44 (.string ((((numD ((rd_Play l0 (i : Int)).f0.f0)) ++ (numD ((rd_Play l0 (i : Int)).f0.f1))) ++ (⟨#[64]⟩ : ByteArray)) ++ (numD ((rd_Play l0 (i : Int)).f1)))) (by rfl) (fun W hp => (sadd_run (by rfl) (by rfl) (by rfl) (by first | omega | (simp only [ByteArray.size_append]; omega)))) ?_
            refine sxq_nil ?_
            refine treeI_rd rfl ?_
            refine sxq_val 45 (.string (((spT l0 i) ++ (⟨#[44]⟩ : ByteArray)) ++ ((((numD ((rd_Play l0 (i : Int)).f0.f0)) ++ (numD ((rd_Play l0 (i : Int)).f0.f1))) ++ (⟨#[64]⟩ : ByteArray)) ++ (numD ((rd_Play l0 (i : Int)).f1))))) (by rfl) (fun W hp => (sadd_run (by rfl) (by rfl) (by rfl) (by first | omega | (simp only [ByteArray.size_append]; omega)))) ?_
            refine sxq_nil ?_
            refine treeI_rd rfl ?_
            refine sxq_val 6 (.string (((spT l0 i) ++ (⟨#[44]⟩ : ByteArray)) ++ ((((numD ((rd_Play l0 (i : Int)).f0.f0)) ++ (numD ((rd_Play l0 (i : Int)).f0.f1))) ++ (⟨#[64]⟩ : ByteArray)) ++ (numD ((rd_Play l0 (i : Int)).f1))))) (by rfl) (fun W hp => (by kernel_rfl)) ?_
            refine sxq_nil ?_
            refine treeI_fin ?_
            refine sx_nil ?_
            refine ex_blk_n ?_
            refine ex_then_n ?_
            refine sx_region ?_
            refine sx_rd 46 (.int .i64 ((i : Int) + 1)) (by rfl) (wr_ok (by omega) (by kernel_rfl)) ?_
            refine sx_rd 21 (.int .i64 ((i : Int) + 1)) (by rfl) (by kernel_rfl) ?_
            refine sx_nil ?_
            refine ex_then_n ?_
            have hq_16 : (((spT l0 i) ++ (⟨#[44]⟩ : ByteArray)) ++ ((((numD ((rd_Play l0 (i : Int)).f0.f0)) ++ (numD ((rd_Play l0 (i : Int)).f0.f1))) ++ (⟨#[64]⟩ : ByteArray)) ++ (numD ((rd_Play l0 (i : Int)).f1)))) = (spT l0 (i + 1)) := by simp only [spT, partT]; rw [if_pos (by omega)]
            exact ⟨_, (by omega), _, (i + 1), rfl, fr_front [(6, .string (spT l0 (i + 1))), (19, .slice A0 l0.length c0), (20, .int .i64 (l0.length : Int)), (21, .int .i64 ((i + 1 : Nat) : Int))] ⟨congrArg Value.string hq_16, rfl, rfl, rfl, trivial⟩, (hp.take [1, 2, 3] 4 (by decide) (by simp)), (by omega)⟩
          ·
            have c_8p := of_decide_eq_false c_8
            refine wp_skip ?_
            refine ex_then_n ?_
            refine sx_drawT [0, 1, 2, 5, 6, 11] (.rd 3 (.rd 7 (.rd 12 (.alt 4 (.alt 8 (.rd 9 (.rd 10 (.alt 13 (.rd 14 (.rd 15 (.rd 16 (.fin)))) .non))) .non) .non)))) 17 (C := Hp w (blk g_5 #[.int .i64 ((rd_Play l0 (i : Int)).f0.f0), .int .i64 ((rd_Play l0 (i : Int)).f0.f1), .int .i64 ((rd_Play l0 (i : Int)).f1)] 36 :: blk g #[.slice A1 s.ar.length c1, .slice A2 s.ti.length c2, .int .i64 s.sp, .int .i64 s.wt, .bool s.fi, .bool s.l0, .bool s.l1] 68 :: row k72 72 w.heap.size (.slice A1 s.ar.length c1) s.ar F1 :: row k34 34 w.heap.size (.slice A2 s.ti.length c2) s.ti F2 :: cs)) (by kernel_rfl) (by kernel_rfl) (fun d _ _ _ _ h => by cases d <;> exact h) (fun W h => h.drew) hp ?_
            refine preI_read rfl ?_
            refine sxq_val 30 (.string (spT l0 i)) (by rfl) (fun W _ => (by kernel_rfl)) ?_
            refine sxq_nil ?_
            refine preI_read rfl ?_
            refine sxq_val 31 (.pointer (some ⟨g_5, 0, none⟩)) (by rfl) (fun W _ => (by kernel_rfl)) ?_
            refine sxq_nil ?_
            refine preI_read rfl ?_
            refine sxq_val 32 (.pointer (some ⟨g_5, 0, none⟩)) (by rfl) (fun W _ => (by kernel_rfl)) ?_
            refine sxq_nil ?_
            refine preI_read rfl ?_
            refine sxq_val 35 (.pointer (some ⟨g_5, 0, none⟩)) (by rfl) (fun W _ => (by kernel_rfl)) ?_
            refine sxq_nil ?_
            refine preI_read rfl ?_
            refine sxq_val 36 (.pointer (some ⟨g_5, 1, none⟩)) (by rfl) (fun W _ => (by kernel_rfl)) ?_
            refine sxq_nil ?_
            refine preI_read rfl ?_
            refine sxq_val 41 (.pointer (some ⟨g_5, 2, none⟩)) (by rfl) (fun W _ => (by kernel_rfl)) ?_
            refine sxq_nil ?_
            refine preI_nil ?_
            intro W_17 hp
            refine treeI_rd rfl ?_
            refine sxq_val 33 (.int .i64 ((rd_Play l0 (i : Int)).f0.f0)) (by rfl) (fun W hp => (ld1 (t := 3) (p := (.tmp 32)) (by rfl) (by rfl) (by kernel_rfl) (hp.cell 0 (by rfl) 0 _ (by rfl)))) ?_
            refine sxq_nil ?_
            refine treeI_rd rfl ?_
            refine sxq_val 37 (.int .i64 ((rd_Play l0 (i : Int)).f0.f1)) (by rfl) (fun W hp => (ld1 (t := 3) (p := (.tmp 36)) (by rfl) (by rfl) (by kernel_rfl) (hp.cell 0 (by rfl) 1 _ (by rfl)))) ?_
            refine sxq_nil ?_
            refine treeI_rd rfl ?_
            refine sxq_val 42 (.int .i64 ((rd_Play l0 (i : Int)).f1)) (by rfl) (fun W hp => (ld1 (t := 3) (p := (.tmp 41)) (by rfl) (by rfl) (by kernel_rfl) (hp.cell 0 (by rfl) 2 _ (by rfl)))) ?_
            refine sxq_nil ?_
            refine treeI_ev rfl ?_
            obtain ⟨k_18, hk_k_18⟩ := Ev.rounds (num_ev (x := (rd_Play l0 (i : Int)).f0.f0) (by omega))
            refine sx_call 34 (by rfl) (by kernel_rfl) ((spec_l1Num.calls k_18 ((rd_Play l0 (i : Int)).f0.f0) _ _ hk_k_18).mono ?_)
            rintro _ W_19 ⟨rfl, hb⟩
            refine ⟨_, rfl, ?_⟩
            replace hp := hp.below hb
            clear hb
            refine step_fin hp ?_
            refine treeI_ev rfl ?_
            obtain ⟨k_20, hk_k_20⟩ := Ev.rounds (num_ev (x := (rd_Play l0 (i : Int)).f0.f1) (by omega))
            refine sx_call 38 (by rfl) (by kernel_rfl) ((spec_l1Num.calls k_20 ((rd_Play l0 (i : Int)).f0.f1) _ _ hk_k_20).mono ?_)
            rintro _ W_21 ⟨rfl, hb⟩
            refine ⟨_, rfl, ?_⟩
            replace hp := hp.below hb
            clear hb
            refine step_fin hp ?_
            refine treeI_rd rfl ?_
            refine sxq_val 39 (.string ((numD ((rd_Play l0 (i : Int)).f0.f0)) ++ (numD ((rd_Play l0 (i : Int)).f0.f1)))) (by rfl) (fun W hp => (sadd_run (by rfl) (by rfl) (by rfl) (by first | omega | (simp only [ByteArray.size_append]; omega)))) ?_
            refine sxq_nil ?_
            refine treeI_rd rfl ?_
            refine sxq_val 40 (.string (((numD ((rd_Play l0 (i : Int)).f0.f0)) ++ (numD ((rd_Play l0 (i : Int)).f0.f1))) ++ (⟨#[64]⟩ : ByteArray))) (by rfl) (fun W hp => (sadd_run (by rfl) (by rfl) (by rfl) (by first | omega | (simp only [ByteArray.size_append]; omega)))) ?_
            refine sxq_nil ?_
            refine treeI_ev rfl ?_
            obtain ⟨k_22, hk_k_22⟩ := Ev.rounds (num_ev (x := (rd_Play l0 (i : Int)).f1) (by omega))
            refine sx_call 43 (by rfl) (by kernel_rfl) ((spec_l1Num.calls k_22 ((rd_Play l0 (i : Int)).f1) _ _ hk_k_22).mono ?_)
            rintro _ W_23 ⟨rfl, hb⟩
            refine ⟨_, rfl, ?_⟩
            replace hp := hp.below hb
            clear hb
            refine step_fin hp ?_
            refine treeI_rd rfl ?_
            refine sxq_val 44 (.string ((((numD ((rd_Play l0 (i : Int)).f0.f0)) ++ (numD ((rd_Play l0 (i : Int)).f0.f1))) ++ (⟨#[64]⟩ : ByteArray)) ++ (numD ((rd_Play l0 (i : Int)).f1)))) (by rfl) (fun W hp => (sadd_run (by rfl) (by rfl) (by rfl) (by first | omega | (simp only [ByteArray.size_append]; omega)))) ?_
            refine sxq_nil ?_
            refine treeI_rd rfl ?_
            refine sxq_val 45 (.string ((spT l0 i) ++ ((((numD ((rd_Play l0 (i : Int)).f0.f0)) ++ (numD ((rd_Play l0 (i : Int)).f0.f1))) ++ (⟨#[64]⟩ : ByteArray)) ++ (numD ((rd_Play l0 (i : Int)).f1))))) (by rfl) (fun W hp => (sadd_run (by rfl) (by rfl) (by rfl) (by first | omega | (simp only [ByteArray.size_append]; omega)))) ?_
            refine sxq_nil ?_
            refine treeI_rd rfl ?_
            refine sxq_val 6 (.string ((spT l0 i) ++ ((((numD ((rd_Play l0 (i : Int)).f0.f0)) ++ (numD ((rd_Play l0 (i : Int)).f0.f1))) ++ (⟨#[64]⟩ : ByteArray)) ++ (numD ((rd_Play l0 (i : Int)).f1))))) (by rfl) (fun W hp => (by kernel_rfl)) ?_
            refine sxq_nil ?_
            refine treeI_fin ?_
            refine sx_nil ?_
            refine ex_blk_n ?_
            refine ex_then_n ?_
            refine sx_region ?_
            refine sx_rd 46 (.int .i64 ((i : Int) + 1)) (by rfl) (wr_ok (by omega) (by kernel_rfl)) ?_
            refine sx_rd 21 (.int .i64 ((i : Int) + 1)) (by rfl) (by kernel_rfl) ?_
            refine sx_nil ?_
            refine ex_then_n ?_
            have hq_24 : ((spT l0 i) ++ ((((numD ((rd_Play l0 (i : Int)).f0.f0)) ++ (numD ((rd_Play l0 (i : Int)).f0.f1))) ++ (⟨#[64]⟩ : ByteArray)) ++ (numD ((rd_Play l0 (i : Int)).f1)))) = (spT l0 (i + 1)) := by simp only [spT, partT]; rw [if_neg (by omega)]
            exact ⟨_, (by omega), _, (i + 1), rfl, fr_front [(6, .string (spT l0 (i + 1))), (19, .slice A0 l0.length c0), (20, .int .i64 (l0.length : Int)), (21, .int .i64 ((i + 1 : Nat) : Int))] ⟨congrArg Value.string hq_24, rfl, rfl, rfl, trivial⟩, (hp.take [1, 2, 3] 4 (by decide) (by simp)), (by omega)⟩
        ·
          have c_4p := of_decide_eq_false c_4
          refine wp_exit ?_
          refine ex_then_e (ex_then_e (ex_blk_here ?_))
          refine ex_then_n ?_
          refine wp_seq ?_
          refine sx_region ?_
          refine sx_rd 47 (.string (spT l0 i)) (by rfl) (by kernel_rfl) ?_
          refine sx_rd 2 (.string (spT l0 i)) (by rfl) (by kernel_rfl) ?_
          refine sx_rd 3 (.bool true) (by rfl) (by kernel_rfl) ?_
          refine sx_nil ?_
          refine ex_then_n ?_
          refine wp_ret ?_
          refine sx_end (.tuple #[.string (spT l0 i), .bool true]) (res2 2 3 (by rfl)) ?_
          obtain rfl : i = l0.length := by omega
          rw [show resSpreadText l0 = (spT l0 l0.length, true) from by unfold resSpreadText; rw [hf, if_pos (show (some s).isSome = true from rfl), if_neg (by first | omega | simp_all)]] at h
          simp only [Option.some.injEq, Prod.mk.injEq] at h; obtain ⟨rfl, rfl⟩ := h
          exact ⟨rfl, hc2 _ (hp.tail.tail.tail)⟩
  · rw [if_neg hsz] at h
    cases h
end Go.Proofs.YtddgfphbbkjmpaaDoor.Hd
