/- impl.CountTilings, by hand. -/
import Derived.Test.YtkjaahmlnbgnjaaMTilI
import Derived.Test.YtkjaahmlnbgnjaaPTilB
namespace Go.Proofs.Ytkjaahmlnbgnjaa.Hd
open Go.RowKit Go.Proofs.Ytkjaahmlnbgnjaa.Pure Go.Proofs.YtkjaahmlnbgnjaaW.PrintWords Go.Proofs.YtkjaahmlnbgnjaaW.PrintLast Go.Proofs.YtkjaahmlnbgnjaaW.PrintMore
set_option linter.unusedVariables false
set_option linter.unusedSimpArgs false
theorem tilNi (a b : Int) : ∃ n : Nat, inB 1 30 a = true → inB 1 30 b = true → a * b = (n : Int) ∧ n ≤ 900 := by
 refine ⟨(a * b).toNat, fun h1 h2 => ?_⟩
 have e1 := inB_iffT.1 h1
 have e2 := inB_iffT.1 h2
 have h0 : 0 ≤ a * b := Int.mul_nonneg (by omega) (by omega)
 have h3 : a * b ≤ 30 * 30 := Int.mul_le_mul (by omega) (by omega) (by omega) (by omega)
 omega
def impl_CountTilings.f (a b : Int) : Option (Int × Bool) := some (resCountTilings a b)
set_option maxRecDepth 100000 in
set_option maxHeartbeats 40000000 in
theorem impl_CountTilings.calls (a0 : Int) (a1 : Int) (r0 : Int) (r1 : Bool) (w : World)  (h : impl_CountTilings.f a0 a1 = some (r0, r1)) :
  Calls Try.prog 9 #[.int .i64 a0, .int .i64 a1] w fun e w' => e = .returned (.tuple #[.int .i64 r0, .bool r1]) ∧ Below w.heap.size w w' := by
 unfold impl_CountTilings.f resCountTilings at h
 obtain ⟨n, hn⟩ := tilNi a0 a1
 obtain ⟨cs, hcs⟩ : ∃ cs, cs = [old w w.heap.size] := ⟨_, rfl⟩
 have hp : Hp w cs w := by rw [hcs]; exact Hp.old_start w
 have hc2 : ∀ W, Hp w cs W → Below w.heap.size w W := fun W h => by rw [hcs] at h; exact h.since 0 _ rfl
 clear hcs
 refine sx_enter (N := 26) (l := [.int .i64 a0, .int .i64 a1]) Try.func9 rfl rfl rfl ?_
 refine wp_seq ?_
 refine sx_region ?_
 refine sx_rd 4 (.int .i64 0) (by rfl) (by kernel_rfl) ?_
 refine sx_rd 5 (.bool false) (by rfl) (by kernel_rfl) ?_
 refine sx_nil ?_
 refine ex_then_n ?_
 refine wp_seq ?_
 refine wp_seq ?_
 rcases Bool.eq_false_or_eq_true (!(inB 1 30 a0)) with c_1 | c_1
 ·
  refine sx_region ?_
  refine sx_rd 7 (.int .i64 a0) (by rfl) (by kernel_rfl) ?_
  refine sx_call 8 (by rfl) (by kernel_rfl) ((impl_within.calls a0 1 30 _ _ (within_eq a0 1 30)).mono ?_)
  rintro _ W_2 ⟨rfl, hb⟩
  refine ⟨.bool false, congrArg (fun b => Ending.returned (.bool b)) (not_eq c_1), ?_⟩
  replace hp := hp.below hb.below
  clear hb
  refine sx_rd 9 (.bool true) (by rfl) (by kernel_rfl) ?_
  refine sx_rd 10 (.bool true) (by rfl) (by kernel_rfl) ?_
  refine sx_skip 11 (by rfl) (by rfl) (by rfl) ?_
  refine sx_skip 12 (by rfl) (by rfl) (by rfl) ?_
  refine sx_skip 13 (by rfl) (by rfl) (by rfl) ?_
  refine sx_rd 14 (.bool true) (by rfl) (by kernel_rfl) ?_
  refine sx_rd 15 (.bool true) (by rfl) (by kernel_rfl) ?_
  refine sx_skip 16 (by rfl) (by rfl) (by rfl) ?_
  refine sx_skip 17 (by rfl) (by rfl) (by rfl) ?_
  refine sx_skip 18 (by rfl) (by rfl) (by rfl) ?_
  refine sx_skip 19 (by rfl) (by rfl) (by rfl) ?_
  refine sx_rd 20 (.bool true) (by rfl) (by kernel_rfl) ?_
  refine sx_nil ?_
  refine ex_then_n ?_
  refine sx_then true (by rfl) rfl ?_
  refine wp_seq ?_
  refine sx_region ?_
  refine sx_rd 4 (.int .i64 0) (by rfl) (by kernel_rfl) ?_
  refine sx_rd 5 (.bool false) (by rfl) (by kernel_rfl) ?_
  refine sx_nil ?_
  refine ex_then_n ?_
  refine wp_ret ?_
  refine ex_then_r ?_
  refine sx_end (.tuple #[.int .i64 0, .bool false]) (res2 4 5 (by rfl)) ?_
  rw [if_neg (fun q => by simp only [Bool.and_eq_true] at q; have q1 := q.1.1; rw [(not_eq c_1)] at q1; cases q1)] at h
  simp only [Option.some.injEq, Prod.mk.injEq] at h; obtain ⟨rfl, rfl⟩ := h
  exact ⟨rfl, hc2 _ (hp)⟩
 ·
  rcases Bool.eq_false_or_eq_true (!(inB 1 30 a1)) with c_3 | c_3
  ·
   refine sx_region ?_
   refine sx_rd 7 (.int .i64 a0) (by rfl) (by kernel_rfl) ?_
   refine sx_call 8 (by rfl) (by kernel_rfl) ((impl_within.calls a0 1 30 _ _ (within_eq a0 1 30)).mono ?_)
   rintro _ W_4 ⟨rfl, hb⟩
   refine ⟨.bool true, congrArg (fun b => Ending.returned (.bool b)) (not_eq c_1), ?_⟩
   replace hp := hp.below hb.below
   clear hb
   refine sx_rd 9 (.bool false) (by rfl) (by kernel_rfl) ?_
   refine sx_rd 10 (.bool false) (by rfl) (by kernel_rfl) ?_
   refine sx_want (by rfl) ?_
   refine sx_rd 11 (.int .i64 a1) (by rfl) (by kernel_rfl) ?_
   refine sx_want (by rfl) ?_
   refine sx_call 12 (by rfl) (by kernel_rfl) ((impl_within.calls a1 1 30 _ _ (within_eq a1 1 30)).mono ?_)
   rintro _ W_5 ⟨rfl, hb⟩
   refine ⟨.bool false, congrArg (fun b => Ending.returned (.bool b)) (not_eq c_3), ?_⟩
   replace hp := hp.below hb.below
   clear hb
   refine sx_want (by rfl) ?_
   refine sx_rd 13 (.bool true) (by rfl) (by kernel_rfl) ?_
   refine sx_rd 14 (.bool true) (by rfl) (by kernel_rfl) ?_
   refine sx_rd 15 (.bool true) (by rfl) (by kernel_rfl) ?_
   refine sx_skip 16 (by rfl) (by rfl) (by rfl) ?_
   refine sx_skip 17 (by rfl) (by rfl) (by rfl) ?_
   refine sx_skip 18 (by rfl) (by rfl) (by rfl) ?_
   refine sx_skip 19 (by rfl) (by rfl) (by rfl) ?_
   refine sx_rd 20 (.bool true) (by rfl) (by kernel_rfl) ?_
   refine sx_nil ?_
   refine ex_then_n ?_
   refine sx_then true (by rfl) rfl ?_
   refine wp_seq ?_
   refine sx_region ?_
   refine sx_rd 4 (.int .i64 0) (by rfl) (by kernel_rfl) ?_
   refine sx_rd 5 (.bool false) (by rfl) (by kernel_rfl) ?_
   refine sx_nil ?_
   refine ex_then_n ?_
   refine wp_ret ?_
   refine ex_then_r ?_
   refine sx_end (.tuple #[.int .i64 0, .bool false]) (res2 4 5 (by rfl)) ?_
   rw [if_neg (fun q => by simp only [Bool.and_eq_true] at q; have q1 := q.1.2; rw [(not_eq c_3)] at q1; cases q1)] at h
   simp only [Option.some.injEq, Prod.mk.injEq] at h; obtain ⟨rfl, rfl⟩ := h
   exact ⟨rfl, hc2 _ (hp)⟩
  ·
   obtain ⟨hwh, hn9⟩ := hn (not_eq c_1) (not_eq c_3)
   have hb0 := inB_iffT.1 (not_eq c_1)
   have hb1 := inB_iffT.1 (not_eq c_3)
   refine sx_region ?_
   refine sx_rd 7 (.int .i64 a0) (by rfl) (by kernel_rfl) ?_
   refine sx_call 8 (by rfl) (by kernel_rfl) ((impl_within.calls a0 1 30 _ _ (within_eq a0 1 30)).mono ?_)
   rintro _ W_6 ⟨rfl, hb⟩
   refine ⟨.bool true, congrArg (fun b => Ending.returned (.bool b)) (not_eq c_1), ?_⟩
   replace hp := hp.below hb.below
   clear hb
   refine sx_rd 9 (.bool false) (by rfl) (by kernel_rfl) ?_
   refine sx_rd 10 (.bool false) (by rfl) (by kernel_rfl) ?_
   refine sx_want (by rfl) ?_
   refine sx_rd 11 (.int .i64 a1) (by rfl) (by kernel_rfl) ?_
   refine sx_want (by rfl) ?_
   refine sx_call 12 (by rfl) (by kernel_rfl) ((impl_within.calls a1 1 30 _ _ (within_eq a1 1 30)).mono ?_)
   rintro _ W_7 ⟨rfl, hb⟩
   refine ⟨.bool true, congrArg (fun b => Ending.returned (.bool b)) (not_eq c_3), ?_⟩
   replace hp := hp.below hb.below
   clear hb
   refine sx_want (by rfl) ?_
   refine sx_rd 13 (.bool false) (by rfl) (by kernel_rfl) ?_
   refine sx_rd 14 (.bool false) (by rfl) (by kernel_rfl) ?_
   refine sx_rd 15 (.bool false) (by rfl) (by kernel_rfl) ?_
   refine sx_want (by rfl) ?_
   refine sx_rd 16 (.int .i64 a0) (by rfl) (by kernel_rfl) ?_
   refine sx_want (by rfl) ?_
   refine sx_rd 17 (.int .i64 a1) (by rfl) (by kernel_rfl) ?_
   refine sx_want (by rfl) ?_
   refine sx_rd 18 (.int .i64 (n : Int)) (by rfl) (mul_run (by rfl) (by rfl) (by rfl) hwh (by omega)) ?_
   refine sx_want (by rfl) ?_
   refine sx_rd 19 (.bool (decide ((n : Int) > 30))) (by rfl) (by kernel_rfl) ?_
   refine sx_rd 20 (.bool (decide ((n : Int) > 30))) (by rfl) (by kernel_rfl) ?_
   refine sx_nil ?_
   refine ex_then_n ?_
   refine sx_cond (decide ((n : Int) > 30)) (by rfl) (fun c_8 => ?_) (fun c_8 => ?_)
   ·
    have c_8p := of_decide_eq_true c_8
    refine wp_seq ?_
    refine sx_region ?_
    refine sx_rd 4 (.int .i64 0) (by rfl) (by kernel_rfl) ?_
    refine sx_rd 5 (.bool false) (by rfl) (by kernel_rfl) ?_
    refine sx_nil ?_
    refine ex_then_n ?_
    refine wp_ret ?_
    refine ex_then_r ?_
    refine sx_end (.tuple #[.int .i64 0, .bool false]) (res2 4 5 (by rfl)) ?_
    rw [if_neg (fun q => by simp only [Bool.and_eq_true, decide_eq_true_eq] at q; omega)] at h
    simp only [Option.some.injEq, Prod.mk.injEq] at h; obtain ⟨rfl, rfl⟩ := h
    exact ⟨rfl, hc2 _ (hp)⟩
   ·
    have c_8p := of_decide_eq_false c_8
    refine wp_skip ?_
    refine ex_then_n ?_
    refine wp_seq ?_
    refine sx_region ?_
    refine sx_box 6 hp #[.int .i64 0] 3 (by rfl) (fun W => by kernel_rfl) ?_
    intro g_9 W_10 hp
    refine sx_store (t := 3) (p := (.tmp 6)) (x := (.const (Go.Value.int Go.IntKind.i64 0))) (by rfl) (by rfl) 0 (by rfl) 0 [.int .i64 0] (by rfl) (by rfl) (by kernel_rfl) (by simp [Value.oneCell']) (by show 1 ≤ 1; omega) #[.int .i64 0] (by rfl) hp ?_
    intro W_11 hp; simp only [List.set_cons_succ, List.set_cons_zero] at hp
    refine sx_nil ?_
    refine ex_then_n ?_
    refine wp_seq ?_
    refine sx_region ?_
    refine sx_rd 21 (.int .i64 a0) (by rfl) (by kernel_rfl) ?_
    refine sx_rd 22 (.int .i64 a1) (by rfl) (by kernel_rfl) ?_
    refine sx_rd 23 (.func (.func 39) #[] #[.pointer (some ⟨g_9, 0, none⟩)]) (by rfl) (by kernel_rfl) ?_
    refine sx_call 24 (by rfl) (by kernel_rfl) ((layouts_sx g_9 a0 a1 n 0 (by omega) (by omega) (by omega) (by omega) hwh (by omega) (by decide) (by decide) (hp.take [0] 1 (by decide) (by simp))).mono ?_)
    rintro _ W_12 ⟨rfl, hp⟩
    refine ⟨_, rfl, ?_⟩
    refine sx_nil ?_
    refine ex_then_n ?_
    refine wp_seq ?_
    refine sx_region ?_
    refine sx_rd 25 (.int .i64 (0 + cntT a0 (n : Int) 31 (List.replicate n (0 : Int)) 0)) (by rfl) (ld1 (t := 3) (p := (.tmp 6)) (by rfl) (by rfl) (by kernel_rfl) (hp.cell 0 (by rfl) 0 _ (by rfl))) ?_
    refine sx_rd 4 (.int .i64 (0 + cntT a0 (n : Int) 31 (List.replicate n (0 : Int)) 0)) (by rfl) (by kernel_rfl) ?_
    refine sx_rd 5 (.bool true) (by rfl) (by kernel_rfl) ?_
    refine sx_nil ?_
    refine ex_then_n ?_
    refine wp_ret ?_
    refine sx_end (.tuple #[.int .i64 (0 + cntT a0 (n : Int) 31 (List.replicate n (0 : Int)) 0), .bool true]) (res2 4 5 (by rfl)) ?_
    rw [if_pos (by simp only [Bool.and_eq_true, decide_eq_true_eq]; exact ⟨⟨(not_eq c_1), (not_eq c_3)⟩, by omega⟩), hwh, Int.toNat_natCast] at h
    have hod := tilOdd (n := n) hb0.1 hwh
    rw [hod] at h
    rw [Int.zero_add]
    simp only [Option.some.injEq, Prod.mk.injEq] at h; obtain ⟨rfl, rfl⟩ := h
    exact ⟨rfl, hc2 _ (hp.tail)⟩
end Go.Proofs.Ytkjaahmlnbgnjaa.Hd
