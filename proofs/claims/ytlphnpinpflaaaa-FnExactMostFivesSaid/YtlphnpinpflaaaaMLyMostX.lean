/- spec.MostFives, by hand. -/
import Derived.Test.YtlphnpinpflaaaaMLyMost
import Derived.Test.YtlphnpinpflaaaaMLyCan
namespace Go.Proofs.Ytlphnpinpflaaaa.Hd
open Go.RowKit Go.Proofs.Ytlphnpinpflaaaa.Pure Go.Proofs.YtlphnpinpflaaaaW.PrintWords Go.Proofs.YtlphnpinpflaaaaW.PrintLast Go.Proofs.YtlphnpinpflaaaaW.PrintMore
set_option linter.unusedVariables false
set_option linter.unusedSimpArgs false
def spec_MostFives.f (l : List S_Play) (hand : List S_Tile) : Option (List S_Play × Int × Bool) := if l.length ≤ 8388608 ∧ hand.length ≤ 1048576 then (match lyReadF l with | some s => if handB hand = true ∧ hand.length ≤ 5 then some ((mostS 28 s hand).1, (mostS 28 s hand).2, true) else some ([], 0, false) | none => some ([], 0, false)) else none
set_option maxRecDepth 100000 in
set_option maxHeartbeats 40000000 in
theorem spec_MostFives.calls (A0 : Option Addr) (c0 : Nat) (l0 : List S_Play) (A1 : Option Addr) (c1 : Nat) (l1 : List S_Tile) (r0 : List S_Play) (r1 : Int) (r2 : Bool) (w : World) (hr0 : Kd.C k53 w A0 l0.length l0) (hc0 : l0.length ≤ c0) (hr1 : Kd.C k51 w A1 l1.length l1) (hc1 : l1.length ≤ c1) (h : spec_MostFives.f l0 l1 = some (r0, r1, r2)) :
    Calls Try.prog 42 #[.slice A0 l0.length c0, .slice A1 l1.length c1] w fun e w' => ∃ v0_ : Value, e = .returned (.tuple #[v0_, .int .i64 r1, .bool r2]) ∧ Kd.R k53 53 w' w.heap.size (fun _ => True) v0_ r0 ∧ Below w.heap.size w w' := by
  unfold spec_MostFives.f at h
  by_cases hsz : l0.length ≤ 8388608 ∧ l1.length ≤ 1048576
  · rw [if_pos hsz] at h
    obtain ⟨hlen, hlen1⟩ := hsz
    obtain ⟨cs, hcs⟩ : ∃ cs, cs = [old w w.heap.size] := ⟨_, rfl⟩
    have hp : Hp w cs w := by rw [hcs]; exact Hp.old_start w
    have hc2 : ∀ W, Hp w cs W → Below w.heap.size w W := fun W h => by rw [hcs] at h; exact h.since 0 _ rfl
    have hC0 : ∀ W, Hp w cs W → Kd.C k53 W A0 l0.length l0 := fun W h => Kd.C_below hr0 (hc2 W h)
    have hC1 : ∀ W, Hp w cs W → Kd.C k51 W A1 l1.length l1 := fun W h => Kd.C_below hr1 (hc2 W h)
    clear hcs
    cases hf : lyReadF l0 with
    | none =>
      rw [hf] at h; dsimp only at h
      refine sx_enter (N := 32) (l := [.slice A0 l0.length c0, .slice A1 l1.length c1]) Try.func42 rfl rfl rfl ?_
      refine wp_seq ?_
      refine sx_region ?_
      refine sx_rd 4 (.slice none 0 0) (by rfl) (by kernel_rfl) ?_
      refine sx_rd 5 (.int .i64 0) (by rfl) (by kernel_rfl) ?_
      refine sx_rd 6 (.bool false) (by rfl) (by kernel_rfl) ?_
      refine sx_nil ?_
      refine ex_then_n ?_
      refine wp_seq ?_
      refine sx_region ?_
      refine sx_rd 12 (.slice A0 l0.length c0) (by rfl) (by kernel_rfl) ?_
      refine sx_rd 13 (.slice A1 l1.length c1) (by rfl) (by kernel_rfl) ?_
      refine sx_call 14 (by rfl) (by kernel_rfl) ((lyAsked_none w _ (cs) l0 A0 c0 hlen l1 A1 c1 hc1 (fun W h => hC0 W h) (fun W h => hC1 W h) hp hf).mono ?_)
      rintro _ W_1 ⟨g, rfl, hp⟩
      refine ⟨_, rfl, ?_⟩
      refine sx_rd 11 (.tuple #[.pointer (some ⟨g, 0, none⟩), .bool false]) (by rfl) (by kernel_rfl) ?_
      refine sx_rd 15 (.pointer (some ⟨g, 0, none⟩)) (by rfl) (by kernel_rfl) ?_
      refine sx_rd 16 (.bool false) (by rfl) (by kernel_rfl) ?_
      refine sx_rd 7 (.pointer (some ⟨g, 0, none⟩)) (by rfl) (by kernel_rfl) ?_
      refine sx_rd 8 (.bool false) (by rfl) (by kernel_rfl) ?_
      refine sx_nil ?_
      refine ex_then_n ?_
      refine wp_seq ?_
      refine wp_seq ?_
      refine sx_region ?_
      refine sx_rd 17 (.bool false) (by rfl) (by kernel_rfl) ?_
      refine sx_rd 18 (.bool true) (by rfl) (by kernel_rfl) ?_
      refine sx_rd 19 (.bool true) (by rfl) (by kernel_rfl) ?_
      refine sx_skip 20 (by rfl) (by rfl) (by rfl) ?_
      refine sx_skip 21 (by rfl) (by rfl) (by rfl) ?_
      refine sx_skip 22 (by rfl) (by rfl) (by rfl) ?_
      refine sx_rd 23 (.bool true) (by rfl) (by kernel_rfl) ?_
      refine sx_nil ?_
      refine ex_then_n ?_
      refine sx_then true (by rfl) rfl ?_
      refine wp_seq ?_
      refine sx_region ?_
      refine sx_rd 4 (.slice none 0 0) (by rfl) (by kernel_rfl) ?_
      refine sx_rd 5 (.int .i64 0) (by rfl) (by kernel_rfl) ?_
      refine sx_rd 6 (.bool false) (by rfl) (by kernel_rfl) ?_
      refine sx_nil ?_
      refine ex_then_n ?_
      refine wp_ret ?_
      refine ex_then_r ?_
      refine sx_end (.tuple #[.slice none 0 0, .int .i64 0, .bool false]) (res3 4 5 6 (by rfl)) ?_
      simp only [Option.some.injEq, Prod.mk.injEq] at h; obtain ⟨rfl, rfl, rfl⟩ := h
      exact ⟨_, rfl, Kd.R_nil _ _ _ _ _, hc2 _ (hp)⟩
    | some s =>
      rw [hf] at h; dsimp only at h
      obtain ⟨hok, hl28⟩ := lyOk_read hf
      refine sx_enter (N := 32) (l := [.slice A0 l0.length c0, .slice A1 l1.length c1]) Try.func42 rfl rfl rfl ?_
      refine wp_seq ?_
      refine sx_region ?_
      refine sx_rd 4 (.slice none 0 0) (by rfl) (by kernel_rfl) ?_
      refine sx_rd 5 (.int .i64 0) (by rfl) (by kernel_rfl) ?_
      refine sx_rd 6 (.bool false) (by rfl) (by kernel_rfl) ?_
      refine sx_nil ?_
      refine ex_then_n ?_
      refine wp_seq ?_
      refine sx_region ?_
      refine sx_rd 12 (.slice A0 l0.length c0) (by rfl) (by kernel_rfl) ?_
      refine sx_rd 13 (.slice A1 l1.length c1) (by rfl) (by kernel_rfl) ?_
      refine sx_call 14 (by rfl) (by kernel_rfl) ((lyAsked_some w _ (cs) l0 A0 c0 hlen l1 A1 c1 hc1 (fun W h => hC0 W h) (fun W h => hC1 W h) hp s hf).mono ?_)
      rintro _ W_1 ⟨g, AA, cA, AB, cB, FA, FB, rfl, hp⟩
      refine ⟨_, rfl, ?_⟩
      refine sx_rd 11 (.tuple #[.pointer (some ⟨g, 0, none⟩), .bool (handB l1)]) (by rfl) (by kernel_rfl) ?_
      refine sx_rd 15 (.pointer (some ⟨g, 0, none⟩)) (by rfl) (by kernel_rfl) ?_
      refine sx_rd 16 (.bool (handB l1)) (by rfl) (by kernel_rfl) ?_
      refine sx_rd 7 (.pointer (some ⟨g, 0, none⟩)) (by rfl) (by kernel_rfl) ?_
      refine sx_rd 8 (.bool (handB l1)) (by rfl) (by kernel_rfl) ?_
      refine sx_nil ?_
      refine ex_then_n ?_
      refine wp_seq ?_
      refine wp_seq ?_
      rcases Bool.eq_false_or_eq_true (!(handB l1)) with c_2 | c_2
      ·
        refine sx_region ?_
        refine sx_rd 17 (.bool false) (by rfl) (bv (not_eq c_2) (by kernel_rfl)) ?_
        refine sx_rd 18 (.bool true) (by rfl) (by kernel_rfl) ?_
        refine sx_rd 19 (.bool true) (by rfl) (by kernel_rfl) ?_
        refine sx_skip 20 (by rfl) (by rfl) (by rfl) ?_
        refine sx_skip 21 (by rfl) (by rfl) (by rfl) ?_
        refine sx_skip 22 (by rfl) (by rfl) (by rfl) ?_
        refine sx_rd 23 (.bool true) (by rfl) (by kernel_rfl) ?_
        refine sx_nil ?_
        refine ex_then_n ?_
        refine sx_then true (by rfl) rfl ?_
        refine wp_seq ?_
        refine sx_region ?_
        refine sx_rd 4 (.slice none 0 0) (by rfl) (by kernel_rfl) ?_
        refine sx_rd 5 (.int .i64 0) (by rfl) (by kernel_rfl) ?_
        refine sx_rd 6 (.bool false) (by rfl) (by kernel_rfl) ?_
        refine sx_nil ?_
        refine ex_then_n ?_
        refine wp_ret ?_
        refine ex_then_r ?_
        refine sx_end (.tuple #[.slice none 0 0, .int .i64 0, .bool false]) (res3 4 5 6 (by rfl)) ?_
        rw [if_neg (fun q => by have q1 := q.1; rw [(not_eq c_2)] at q1; cases q1)] at h
        simp only [Option.some.injEq, Prod.mk.injEq] at h; obtain ⟨rfl, rfl, rfl⟩ := h
        exact ⟨_, rfl, Kd.R_nil _ _ _ _ _, hc2 _ (hp.tail.tail.tail)⟩
      ·
        refine sx_region ?_
        refine sx_rd 17 (.bool true) (by rfl) (bv (not_eq c_2) (by kernel_rfl)) ?_
        refine sx_rd 18 (.bool false) (by rfl) (by kernel_rfl) ?_
        refine sx_rd 19 (.bool false) (by rfl) (by kernel_rfl) ?_
        refine sx_want (by rfl) ?_
        refine sx_rd 20 (.slice A1 l1.length c1) (by rfl) (by kernel_rfl) ?_
        refine sx_want (by rfl) ?_
        refine sx_rd 21 (.int .i64 (l1.length : Int)) (by rfl) (by kernel_rfl) ?_
        refine sx_want (by rfl) ?_
        refine sx_rd 22 (.bool (decide ((l1.length : Int) > 5))) (by rfl) (by kernel_rfl) ?_
        refine sx_rd 23 (.bool (decide ((l1.length : Int) > 5))) (by rfl) (by kernel_rfl) ?_
        refine sx_nil ?_
        refine ex_then_n ?_
        refine sx_cond (decide ((l1.length : Int) > 5)) (by rfl) (fun c_3 => ?_) (fun c_3 => ?_)
        ·
          have c_3p := of_decide_eq_true c_3
          refine wp_seq ?_
          refine sx_region ?_
          refine sx_rd 4 (.slice none 0 0) (by rfl) (by kernel_rfl) ?_
          refine sx_rd 5 (.int .i64 0) (by rfl) (by kernel_rfl) ?_
          refine sx_rd 6 (.bool false) (by rfl) (by kernel_rfl) ?_
          refine sx_nil ?_
          refine ex_then_n ?_
          refine wp_ret ?_
          refine ex_then_r ?_
          refine sx_end (.tuple #[.slice none 0 0, .int .i64 0, .bool false]) (res3 4 5 6 (by rfl)) ?_
          rw [if_neg (fun q => by have := q.2; omega)] at h
          simp only [Option.some.injEq, Prod.mk.injEq] at h; obtain ⟨rfl, rfl, rfl⟩ := h
          exact ⟨_, rfl, Kd.R_nil _ _ _ _ _, hc2 _ (hp.tail.tail.tail)⟩
        ·
          have c_3p := of_decide_eq_false c_3
          refine wp_skip ?_
          refine ex_then_n ?_
          refine wp_seq ?_
          refine sx_region ?_
          refine sx_rd 25 (.pointer (some ⟨g, 0, none⟩)) (by rfl) (by kernel_rfl) ?_
          refine sx_rd 26 (.slice A1 l1.length c1) (by rfl) (by kernel_rfl) ?_
          refine sx_call 27 (by rfl) (by kernel_rfl) ((lyMost_sx 28 w _ (cs) g s AA cA AB cB FA FB l0.length hok hl28 (by omega) (by omega) l1 A1 c1 hlen1 hc1 (fun W h => hC1 W h) (hp.take [0, 1, 2] 3 (by decide) (by simp))).mono ?_)
          rintro _ W_4 ⟨AR, cR, FR, rfl, hp⟩
          refine ⟨_, rfl, ?_⟩
          refine sx_rd 24 (.tuple #[.slice AR ((mostS 28 s l1).1.length) cR, .int .i64 ((mostS 28 s l1).2)]) (by rfl) (by kernel_rfl) ?_
          refine sx_rd 28 (.slice AR ((mostS 28 s l1).1.length) cR) (by rfl) (by kernel_rfl) ?_
          refine sx_rd 29 (.int .i64 ((mostS 28 s l1).2)) (by rfl) (by kernel_rfl) ?_
          refine sx_rd 9 (.slice AR ((mostS 28 s l1).1.length) cR) (by rfl) (by kernel_rfl) ?_
          refine sx_rd 10 (.int .i64 ((mostS 28 s l1).2)) (by rfl) (by kernel_rfl) ?_
          refine sx_nil ?_
          refine ex_then_n ?_
          refine wp_seq ?_
          refine sx_region ?_
          refine sx_rd 30 (.slice AR ((mostS 28 s l1).1.length) cR) (by rfl) (by kernel_rfl) ?_
          refine sx_rd 31 (.int .i64 ((mostS 28 s l1).2)) (by rfl) (by kernel_rfl) ?_
          refine sx_rd 4 (.slice AR ((mostS 28 s l1).1.length) cR) (by rfl) (by kernel_rfl) ?_
          refine sx_rd 5 (.int .i64 ((mostS 28 s l1).2)) (by rfl) (by kernel_rfl) ?_
          refine sx_rd 6 (.bool true) (by rfl) (by kernel_rfl) ?_
          refine sx_nil ?_
          refine ex_then_n ?_
          refine wp_ret ?_
          refine sx_end (.tuple #[.slice AR ((mostS 28 s l1).1.length) cR, .int .i64 ((mostS 28 s l1).2), .bool true]) (res3 4 5 6 (by rfl)) ?_
          rw [if_pos ⟨(show handB l1 = true from by have q := (not_eq c_2); simpa using q), by omega⟩] at h
          simp only [Option.some.injEq, Prod.mk.injEq] at h; obtain ⟨rfl, rfl, rfl⟩ := h
          exact ⟨_, rfl, Kd.R_mono (row_R (hp.at_ 0 _ (by rfl))) (fun _ _ => trivial), hc2 _ (hp.tail.tail.tail.tail)⟩
  · rw [if_neg hsz] at h
    cases h
end Go.Proofs.Ytlphnpinpflaaaa.Hd
