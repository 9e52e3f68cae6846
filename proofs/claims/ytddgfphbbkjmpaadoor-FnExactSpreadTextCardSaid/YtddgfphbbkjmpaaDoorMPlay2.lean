/- impl's spreads, by hand: a play more. -/
import Derived.Test.YtddgfphbbkjmpaaDoorG1
import Derived.Test.YtddgfphbbkjmpaaDoorG1
import Derived.Test.YtddgfphbbkjmpaaDoorG1
import Derived.Test.YtddgfphbbkjmpaaDoorG0
import Derived.Test.YtddgfphbbkjmpaaDoorG1
import Derived.Test.YtddgfphbbkjmpaaDoorG1
import Derived.Test.YtddgfphbbkjmpaaDoorMLyS
namespace Go.Proofs.YtddgfphbbkjmpaaDoor.Hd
open Go.RowKit Go.Proofs.YtddgfphbbkjmpaaDoor.Pure Go.Proofs.YtddgfphbbkjmpaaDoorW.PrintWords Go.Proofs.YtddgfphbbkjmpaaDoorW.PrintLast Go.Proofs.YtddgfphbbkjmpaaDoorW.PrintMore
set_option linter.unusedVariables false
set_option linter.unusedSimpArgs false
structure SpSt where
  ar : List S_Arm
  ti : List S_Tile
  sp : Int
  w0 : Bool
  w1 : Bool
def spCan (s : SpSt) (p : S_Play) : Bool :=
  goodT p.f0 && !decide (p.f0 ∈ s.ti) && !((s.ti.length : Int) == 28) &&
    (if s.ti.length = 0 then p.f1 == 0 else decide (0 ≤ p.f1) && decide (p.f1 ≤ (s.ar.length : Int) - 1) && (p.f0.f0 == (rd_Arm s.ar p.f1).f0 || p.f0.f1 == (rd_Arm s.ar p.f1).f0))
def spHit (s : SpSt) (a : Int) : Bool := decide (a < 2) && (if a = 0 then s.w0 else s.w1)
def spDo (s : SpSt) (p : S_Play) : SpSt :=
  let d := (p.f0.f0 == p.f0.f1)
  if s.ti.length = 0 then { ar := [⟨p.f0.f0, d, false⟩, ⟨p.f0.f1, d, false⟩], ti := [p.f0], sp := if d then p.f0.f0 else s.sp, w0 := d || s.w0, w1 := d || s.w1 }
  else
    let hit := spHit s p.f1
    let w0 := s.w0 && !(hit && p.f1 == 0)
    let w1 := s.w1 && !(hit && !(p.f1 == 0))
    let ar1 := s.ar.set p.f1.toNat ⟨p.f0.f0 + p.f0.f1 - (rd_Arm s.ar p.f1).f0, d, false⟩
    let n := d && decide (s.sp < 0)
    { ar := if hit && !w0 && !w1 then ar1 ++ [⟨s.sp, false, true⟩, ⟨s.sp, false, true⟩] else ar1, ti := s.ti ++ [p.f0], sp := if n then p.f0.f0 else s.sp, w0 := w0 || (n && p.f1 == 0), w1 := w1 || (n && !(p.f1 == 0)) }
theorem isTile_eq (t : S_Tile) : impl_IsTile.f t.f0 t.f1 = some (goodT t) := by
  unfold impl_IsTile.f impl_within.f goodT
  by_cases h : 0 ≤ t.f0
  · rw [if_pos h, Option.bind_some]
    by_cases h2 : t.f0 ≤ t.f1 <;> simp [h, h2]
  · rw [if_neg h, Option.bind_some]
    simp [h]
theorem isTile_c (t : S_Tile) (w : World) : Calls Tryd.prog 34 #[.agg #[.int .i64 t.f0, .int .i64 t.f1]] w fun e w' => e = .returned (.bool (goodT t)) ∧ Below w.heap.size w w' := impl_IsTile.calls t.f0 t.f1 _ w (isTile_eq t)
theorem contains_c (l : List S_Tile) (hl : l.length ≤ 8388608) (t : S_Tile) (A : Option Addr) (c : Nat) (hc : l.length ≤ c) (w : World) (h : Kd.C k34 w A l.length l) :
    Calls Tryd.prog 35 #[.slice A l.length c, .agg #[.int .i64 t.f0, .int .i64 t.f1]] w fun e w' => e = .returned (.bool (decide (t ∈ l))) ∧ Below w.heap.size w w' := by
  obtain ⟨k, hk⟩ := (contains_ev l hl t).rounds
  exact slices_Contains_impl_Tile_impl_Tile.calls k A c l t.f0 t.f1 _ w h hc hk
theorem within_c (x lo hi : Int) (w : World) : Calls Tryd.prog 37 #[.int .i64 x, .int .i64 lo, .int .i64 hi] w fun e w' => e = .returned (.bool (decide (lo ≤ x) && decide (x ≤ hi))) ∧ Drawn0 w w' :=
  impl_within.calls x lo hi _ w (by unfold impl_within.f; by_cases h : lo ≤ x <;> simp [h])
theorem isDouble_c (t : S_Tile) (w : World) : Calls Tryd.prog 36 #[.agg #[.int .i64 t.f0, .int .i64 t.f1]] w fun e w' => e = .returned (.bool (t.f0 == t.f1)) ∧ Below w.heap.size w w' := impl_isDouble.calls t.f0 t.f1 _ w rfl
theorem has_c (t : S_Tile) (x : Int) (w : World) : Calls Tryd.prog 38 #[.agg #[.int .i64 t.f0, .int .i64 t.f1], .int .i64 x] w fun e w' => e = .returned (.bool (t.f0 == x || t.f1 == x)) ∧ Below w.heap.size w w' :=
  impl_Tile_has.calls t.f0 t.f1 x _ w (by unfold impl_Tile_has.f; by_cases h : t.f0 = x <;> simp [h])
theorem other_c (t : S_Tile) (x : Int) (w : World) (hg : goodT t = true) (hh : (t.f0 == x || t.f1 == x) = true) : Calls Tryd.prog 39 #[.agg #[.int .i64 t.f0, .int .i64 t.f1], .int .i64 x] w fun e w' => e = .returned (.int .i64 (t.f0 + t.f1 - x)) ∧ Below w.heap.size w w' := by
  refine impl_Tile_other.calls t.f0 t.f1 x _ w ?_
  unfold goodT at hg
  simp only [Bool.and_eq_true, decide_eq_true_eq, Bool.or_eq_true, beq_iff_eq] at hg hh
  unfold impl_Tile_other.f wrap64
  congr 1
  omega
theorem and_dec {a b : Bool} (h : (a && b) = true) : a = true ∧ b = true := by simpa using h
set_option maxRecDepth 100000 in
set_option maxHeartbeats 40000000 in
theorem play_sx (w0 W : World) (cs : List Chunk) (g : Nat) (s : SpSt) (A1 : Option Addr) (c1 : Nat) (A2 : Option Addr) (c2 : Nat) (b : Nat) (F1 F2 : Nat → Prop) (p : S_Play) (hb0 : b ≤ w0.heap.size) (hti : s.ti.length ≤ 28) (har : s.ar.length ≤ 100) (hinv : s.sp < 0 → s.ar.length ≤ 2) (hp : Hp w0 (blk g #[.slice A1 s.ar.length c1, .slice A2 s.ti.length c2, .int .i64 s.sp, .bool s.w0, .bool s.w1] 55 :: row k72 72 b (.slice A1 s.ar.length c1) s.ar F1 :: row k34 34 b (.slice A2 s.ti.length c2) s.ti F2 :: cs) W) :
    Calls Tryd.prog 30 #[.pointer (some ⟨g, 0, none⟩), .agg #[.int .i64 p.f0.f0, .int .i64 p.f0.f1, .int .i64 p.f1]] W fun e W' => ∃ s' A1' c1' A2' c2' F1' F2', e = .returned (.bool (spCan s p)) ∧ s' = (if spCan s p = true then spDo s p else s) ∧ Hp w0 (blk g #[.slice A1' s'.ar.length c1', .slice A2' s'.ti.length c2', .int .i64 s'.sp, .bool s'.w0, .bool s'.w1] 55 :: row k72 72 b (.slice A1' s'.ar.length c1') s'.ar F1' :: row k34 34 b (.slice A2' s'.ti.length c2') s'.ti F2' :: cs) W' := by
  refine sx_enter (N := 184) (l := [.pointer (some ⟨g, 0, none⟩), .agg #[.int .i64 p.f0.f0, .int .i64 p.f0.f1, .int .i64 p.f1]]) Tryd.func30 rfl rfl rfl ?_
  refine wp_seq ?_
  refine sx_region ?_
  refine sx_box 3 hp #[.int .i64 p.f0.f0, .int .i64 p.f0.f1, .int .i64 p.f1] 36 (by rfl) (fun W => by kernel_rfl) ?_
  intro g_1 W_2 hp
  refine sx_rd 4 (.bool false) (by rfl) (by kernel_rfl) ?_
  refine sx_nil ?_
  refine ex_then_n ?_
  refine wp_seq ?_
  refine sx_region ?_
  refine sx_rd 6 (.pointer (some ⟨g_1, 0, none⟩)) (by rfl) (by kernel_rfl) ?_
  refine sx_rd 7 (.agg #[.int .i64 p.f0.f0, .int .i64 p.f0.f1]) (by rfl) (ldn (t := 34) (p := (.tmp 6)) (by rfl) (by rfl) (by kernel_rfl) (by kernel_rfl) (by kernel_rfl) (hp.at_ 0 _ (by rfl))) ?_
  refine sx_box 5 hp #[.int .i64 0, .int .i64 0] 34 (by rfl) (fun W => by kernel_rfl) ?_
  intro g_3 W_4 hp
  refine sx_store (t := 34) (p := (.tmp 5)) (x := (.tmp 7)) (by rfl) (by rfl) 0 (by rfl) 0 [.int .i64 p.f0.f0, .int .i64 p.f0.f1] (by rfl) (by rfl) (by kernel_rfl) (by simp [Value.oneCell']) (by show 2 ≤ 2; omega) #[.int .i64 p.f0.f0, .int .i64 p.f0.f1] (by rfl) hp ?_
  intro W_5 hp; simp only [List.set_cons_succ, List.set_cons_zero] at hp
  refine sx_nil ?_
  refine ex_then_n ?_
  refine wp_seq ?_
  refine wp_seq ?_
  rcases Bool.eq_false_or_eq_true (!(goodT p.f0)) with c_6 | c_6
  ·
    refine sx_drawT [] (.rd 0 (.alt 1 (.rd 2 (.rd 3 (.rd 4 (.rd 5 (.rd 6 (.rd 7 (.rd 8 (.alt 9 (.rd 10 (.rd 11 (.rd 12 (.rd 13 (.rd 14 (.rd 15 (.rd 16 (.rd 17 (.rd 18 (.fin)))))))))) .non)))))))) .non)) 19 (C := Hp w0 (blk g_3 #[.int .i64 p.f0.f0, .int .i64 p.f0.f1] 34 :: blk g_1 #[.int .i64 p.f0.f0, .int .i64 p.f0.f1, .int .i64 p.f1] 36 :: blk g #[.slice A1 s.ar.length c1, .slice A2 s.ti.length c2, .int .i64 s.sp, .bool s.w0, .bool s.w1] 55 :: row k72 72 b (.slice A1 s.ar.length c1) s.ar F1 :: row k34 34 b (.slice A2 s.ti.length c2) s.ti F2 :: cs)) (by kernel_rfl) (by kernel_rfl) (fun d _ _ _ _ h => by cases d <;> exact h) (fun W h => h.drew) hp ?_
    refine preI_nil ?_
    intro W_7 hp
    refine treeI_rd rfl ?_
    refine sxq_val 8 (.agg #[.int .i64 p.f0.f0, .int .i64 p.f0.f1]) (by rfl) (fun W hp => (ldn (t := 34) (p := (.tmp 5)) (by rfl) (by rfl) (by kernel_rfl) (by kernel_rfl) (by kernel_rfl) (hp.at_ 0 _ (by rfl)))) ?_
    refine sxq_nil ?_
    refine treeI_ev rfl ?_
    refine sx_call 9 (by rfl) (by kernel_rfl) ((isTile_c p.f0 _).mono ?_)
    rintro _ W_8 ⟨rfl, hb⟩
    refine ⟨.bool false, congrArg (fun b => Ending.returned (.bool b)) (not_eq c_6), ?_⟩
    replace hp := hp.below hb
    clear hb
    refine step_fin hp ?_
    refine treeI_rd rfl ?_
    refine sxq_val 10 (.bool true) (by rfl) (fun W hp => (by kernel_rfl)) ?_
    refine sxq_nil ?_
    refine treeI_rd rfl ?_
    refine sxq_val 11 (.bool true) (by rfl) (fun W hp => (by kernel_rfl)) ?_
    refine sxq_nil ?_
    refine treeI_rd rfl ?_
    refine sxq_skip 12 (by rfl) (by rfl) (by rfl) ?_
    refine sxq_nil ?_
    refine treeI_rd rfl ?_
    refine sxq_skip 13 (by rfl) (by rfl) (by rfl) ?_
    refine sxq_nil ?_
    refine treeI_rd rfl ?_
    refine sxq_skip 14 (by rfl) (by rfl) (by rfl) ?_
    refine sxq_nil ?_
    refine treeI_rd rfl ?_
    refine sxq_skip 15 (by rfl) (by rfl) (by rfl) ?_
    refine sxq_nil ?_
    refine treeI_rd rfl ?_
    refine sxq_skip 16 (by rfl) (by rfl) (by rfl) ?_
    refine sxq_nil ?_
    refine treeI_ev rfl ?_
    refine sx_skip 17 (by rfl) (by rfl) (by rfl) ?_
    refine step_fin hp ?_
    refine treeI_rd rfl ?_
    refine sxq_val 18 (.bool true) (by rfl) (fun W hp => (by kernel_rfl)) ?_
    refine sxq_nil ?_
    refine treeI_rd rfl ?_
    refine sxq_val 19 (.bool true) (by rfl) (fun W hp => (by kernel_rfl)) ?_
    refine sxq_nil ?_
    refine treeI_rd rfl ?_
    refine sxq_skip 20 (by rfl) (by rfl) (by rfl) ?_
    refine sxq_nil ?_
    refine treeI_rd rfl ?_
    refine sxq_skip 21 (by rfl) (by rfl) (by rfl) ?_
    refine sxq_nil ?_
    refine treeI_rd rfl ?_
    refine sxq_skip 22 (by rfl) (by rfl) (by rfl) ?_
    refine sxq_nil ?_
    refine treeI_rd rfl ?_
    refine sxq_skip 23 (by rfl) (by rfl) (by rfl) ?_
    refine sxq_nil ?_
    refine treeI_rd rfl ?_
    refine sxq_skip 24 (by rfl) (by rfl) (by rfl) ?_
    refine sxq_nil ?_
    refine treeI_rd rfl ?_
    refine sxq_skip 25 (by rfl) (by rfl) (by rfl) ?_
    refine sxq_nil ?_
    refine treeI_rd rfl ?_
    refine sxq_val 26 (.bool true) (by rfl) (fun W hp => (by kernel_rfl)) ?_
    refine sxq_nil ?_
    refine treeI_fin ?_
    refine sx_nil ?_
    refine ex_then_n ?_
    refine sx_then true (by rfl) rfl ?_
    refine wp_seq ?_
    refine sx_region ?_
    refine sx_rd 4 (.bool false) (by rfl) (by kernel_rfl) ?_
    refine sx_nil ?_
    refine ex_then_n ?_
    refine wp_ret ?_
    refine ex_then_r ?_
    refine sx_end (.bool false) (res1 4 (by rfl)) ?_
    have hc : spCan s p = false := by revert c_6; simp +contextual [Bool.not_true, spCan, -List.length_eq_zero_iff] <;> (intros; omega)
    exact ⟨s, _, _, _, _, _, _, by rw [hc], by rw [hc]; rfl, (hp.take [2, 3, 4] 5 (by decide) (by simp))⟩
  ·
    rcases Bool.eq_false_or_eq_true (decide (p.f0 ∈ s.ti)) with c_9 | c_9
    ·
      have c_9p := of_decide_eq_true c_9
      refine sx_drawT [] (.rd 0 (.alt 1 (.rd 2 (.rd 3 (.rd 4 (.rd 5 (.rd 6 (.rd 7 (.rd 8 (.alt 9 (.rd 10 (.rd 11 (.rd 12 (.rd 13 (.rd 14 (.rd 15 (.rd 16 (.rd 17 (.rd 18 (.fin)))))))))) .non)))))))) .non)) 19 (C := Hp w0 (blk g_3 #[.int .i64 p.f0.f0, .int .i64 p.f0.f1] 34 :: blk g_1 #[.int .i64 p.f0.f0, .int .i64 p.f0.f1, .int .i64 p.f1] 36 :: blk g #[.slice A1 s.ar.length c1, .slice A2 s.ti.length c2, .int .i64 s.sp, .bool s.w0, .bool s.w1] 55 :: row k72 72 b (.slice A1 s.ar.length c1) s.ar F1 :: row k34 34 b (.slice A2 s.ti.length c2) s.ti F2 :: cs)) (by kernel_rfl) (by kernel_rfl) (fun d _ _ _ _ h => by cases d <;> exact h) (fun W h => h.drew) hp ?_
      refine preI_nil ?_
      intro W_10 hp
      refine treeI_rd rfl ?_
      refine sxq_val 8 (.agg #[.int .i64 p.f0.f0, .int .i64 p.f0.f1]) (by rfl) (fun W hp => (ldn (t := 34) (p := (.tmp 5)) (by rfl) (by rfl) (by kernel_rfl) (by kernel_rfl) (by kernel_rfl) (hp.at_ 0 _ (by rfl)))) ?_
      refine sxq_nil ?_
      refine treeI_ev rfl ?_
      refine sx_call 9 (by rfl) (by kernel_rfl) ((isTile_c p.f0 _).mono ?_)
      rintro _ W_11 ⟨rfl, hb⟩
      refine ⟨.bool true, congrArg (fun b => Ending.returned (.bool b)) (not_eq c_6), ?_⟩
      replace hp := hp.below hb
      clear hb
      refine step_fin hp ?_
      refine treeI_rd rfl ?_
      refine sxq_val 10 (.bool false) (by rfl) (fun W hp => (by kernel_rfl)) ?_
      refine sxq_nil ?_
      refine treeI_rd rfl ?_
      refine sxq_val 11 (.bool false) (by rfl) (fun W hp => (by kernel_rfl)) ?_
      refine sxq_nil ?_
      refine treeI_rd rfl ?_
      refine sxq_want (by rfl) ?_
      refine sxq_val 12 (.pointer (some ⟨g, 0, none⟩)) (by rfl) (fun W hp => (by kernel_rfl)) ?_
      refine sxq_nil ?_
      refine treeI_rd rfl ?_
      refine sxq_want (by rfl) ?_
      refine sxq_val 13 (.pointer (some ⟨g, 0, none⟩)) (by rfl) (fun W hp => (by kernel_rfl)) ?_
      refine sxq_nil ?_
      refine treeI_rd rfl ?_
      refine sxq_want (by rfl) ?_
      refine sxq_val 14 (.pointer (some ⟨g, 1, none⟩)) (by rfl) (fun W hp => (by kernel_rfl)) ?_
      refine sxq_nil ?_
      refine treeI_rd rfl ?_
      refine sxq_want (by rfl) ?_
      refine sxq_val 15 (.slice A2 s.ti.length c2) (by rfl) (fun W hp => (ld1 (t := 52) (p := (.tmp 14)) (by rfl) (by rfl) (by kernel_rfl) (hp.cell 2 (by rfl) 1 _ (by rfl)))) ?_
      refine sxq_nil ?_
      refine treeI_rd rfl ?_
      refine sxq_want (by rfl) ?_
      refine sxq_val 16 (.agg #[.int .i64 p.f0.f0, .int .i64 p.f0.f1]) (by rfl) (fun W hp => (ldn (t := 34) (p := (.tmp 5)) (by rfl) (by rfl) (by kernel_rfl) (by kernel_rfl) (by kernel_rfl) (hp.at_ 0 _ (by rfl)))) ?_
      refine sxq_nil ?_
      refine treeI_ev rfl ?_
      refine sx_want (by rfl) ?_
      refine sx_call 17 (by rfl) (by kernel_rfl) ((contains_c s.ti (by omega) p.f0 _ _ (row_len (hp.at_ 4 _ (by rfl))).2 _ (row_C (hp.at_ 4 _ (by rfl)))).mono ?_)
      rintro _ W_12 ⟨rfl, hb⟩
      refine ⟨.bool true, congrArg (fun b => Ending.returned (.bool b)) c_9, ?_⟩
      replace hp := hp.below hb
      clear hb
      refine step_fin hp ?_
      refine treeI_rd rfl ?_
      refine sxq_val 18 (.bool true) (by rfl) (fun W hp => (by kernel_rfl)) ?_
      refine sxq_nil ?_
      refine treeI_rd rfl ?_
      refine sxq_val 19 (.bool true) (by rfl) (fun W hp => (by kernel_rfl)) ?_
      refine sxq_nil ?_
      refine treeI_rd rfl ?_
      refine sxq_skip 20 (by rfl) (by rfl) (by rfl) ?_
      refine sxq_nil ?_
      refine treeI_rd rfl ?_
      refine sxq_skip 21 (by rfl) (by rfl) (by rfl) ?_
      refine sxq_nil ?_
      refine treeI_rd rfl ?_
      refine sxq_skip 22 (by rfl) (by rfl) (by rfl) ?_
      refine sxq_nil ?_
      refine treeI_rd rfl ?_
      refine sxq_skip 23 (by rfl) (by rfl) (by rfl) ?_
      refine sxq_nil ?_
      refine treeI_rd rfl ?_
      refine sxq_skip 24 (by rfl) (by rfl) (by rfl) ?_
      refine sxq_nil ?_
      refine treeI_rd rfl ?_
      refine sxq_skip 25 (by rfl) (by rfl) (by rfl) ?_
      refine sxq_nil ?_
      refine treeI_rd rfl ?_
      refine sxq_val 26 (.bool true) (by rfl) (fun W hp => (by kernel_rfl)) ?_
      refine sxq_nil ?_
      refine treeI_fin ?_
      refine sx_nil ?_
      refine ex_then_n ?_
      refine sx_then true (by rfl) rfl ?_
      refine wp_seq ?_
      refine sx_region ?_
      refine sx_rd 4 (.bool false) (by rfl) (by kernel_rfl) ?_
      refine sx_nil ?_
      refine ex_then_n ?_
      refine wp_ret ?_
      refine ex_then_r ?_
      refine sx_end (.bool false) (res1 4 (by rfl)) ?_
      have hc : spCan s p = false := by revert c_6 c_9; simp +contextual [Bool.not_true, spCan, -List.length_eq_zero_iff] <;> (intros; omega)
      exact ⟨s, _, _, _, _, _, _, by rw [hc], by rw [hc]; rfl, (hp.take [2, 3, 4] 5 (by decide) (by simp))⟩
    ·
      have c_9p := of_decide_eq_false c_9
      refine sx_drawT [] (.rd 0 (.alt 1 (.rd 2 (.rd 3 (.rd 4 (.rd 5 (.rd 6 (.rd 7 (.rd 8 (.alt 9 (.rd 10 (.rd 11 (.rd 12 (.rd 13 (.rd 14 (.rd 15 (.rd 16 (.rd 17 (.rd 18 (.fin)))))))))) .non)))))))) .non)) 19 (C := Hp w0 (blk g_3 #[.int .i64 p.f0.f0, .int .i64 p.f0.f1] 34 :: blk g_1 #[.int .i64 p.f0.f0, .int .i64 p.f0.f1, .int .i64 p.f1] 36 :: blk g #[.slice A1 s.ar.length c1, .slice A2 s.ti.length c2, .int .i64 s.sp, .bool s.w0, .bool s.w1] 55 :: row k72 72 b (.slice A1 s.ar.length c1) s.ar F1 :: row k34 34 b (.slice A2 s.ti.length c2) s.ti F2 :: cs)) (by kernel_rfl) (by kernel_rfl) (fun d _ _ _ _ h => by cases d <;> exact h) (fun W h => h.drew) hp ?_
      refine preI_nil ?_
      intro W_13 hp
      refine treeI_rd rfl ?_
      refine sxq_val 8 (.agg #[.int .i64 p.f0.f0, .int .i64 p.f0.f1]) (by rfl) (fun W hp => (ldn (t := 34) (p := (.tmp 5)) (by rfl) (by rfl) (by kernel_rfl) (by kernel_rfl) (by kernel_rfl) (hp.at_ 0 _ (by rfl)))) ?_
      refine sxq_nil ?_
      refine treeI_ev rfl ?_
      refine sx_call 9 (by rfl) (by kernel_rfl) ((isTile_c p.f0 _).mono ?_)
      rintro _ W_14 ⟨rfl, hb⟩
      refine ⟨.bool true, congrArg (fun b => Ending.returned (.bool b)) (not_eq c_6), ?_⟩
      replace hp := hp.below hb
      clear hb
      refine step_fin hp ?_
      refine treeI_rd rfl ?_
      refine sxq_val 10 (.bool false) (by rfl) (fun W hp => (by kernel_rfl)) ?_
      refine sxq_nil ?_
      refine treeI_rd rfl ?_
      refine sxq_val 11 (.bool false) (by rfl) (fun W hp => (by kernel_rfl)) ?_
      refine sxq_nil ?_
      refine treeI_rd rfl ?_
      refine sxq_want (by rfl) ?_
      refine sxq_val 12 (.pointer (some ⟨g, 0, none⟩)) (by rfl) (fun W hp => (by kernel_rfl)) ?_
      refine sxq_nil ?_
      refine treeI_rd rfl ?_
      refine sxq_want (by rfl) ?_
      refine sxq_val 13 (.pointer (some ⟨g, 0, none⟩)) (by rfl) (fun W hp => (by kernel_rfl)) ?_
      refine sxq_nil ?_
      refine treeI_rd rfl ?_
      refine sxq_want (by rfl) ?_
      refine sxq_val 14 (.pointer (some ⟨g, 1, none⟩)) (by rfl) (fun W hp => (by kernel_rfl)) ?_
      refine sxq_nil ?_
      refine treeI_rd rfl ?_
      refine sxq_want (by rfl) ?_
      refine sxq_val 15 (.slice A2 s.ti.length c2) (by rfl) (fun W hp => (ld1 (t := 52) (p := (.tmp 14)) (by rfl) (by rfl) (by kernel_rfl) (hp.cell 2 (by rfl) 1 _ (by rfl)))) ?_
      refine sxq_nil ?_
      refine treeI_rd rfl ?_
      refine sxq_want (by rfl) ?_
      refine sxq_val 16 (.agg #[.int .i64 p.f0.f0, .int .i64 p.f0.f1]) (by rfl) (fun W hp => (ldn (t := 34) (p := (.tmp 5)) (by rfl) (by rfl) (by kernel_rfl) (by kernel_rfl) (by kernel_rfl) (hp.at_ 0 _ (by rfl)))) ?_
      refine sxq_nil ?_
      refine treeI_ev rfl ?_
      refine sx_want (by rfl) ?_
      refine sx_call 17 (by rfl) (by kernel_rfl) ((contains_c s.ti (by omega) p.f0 _ _ (row_len (hp.at_ 4 _ (by rfl))).2 _ (row_C (hp.at_ 4 _ (by rfl)))).mono ?_)
      rintro _ W_15 ⟨rfl, hb⟩
      refine ⟨.bool false, congrArg (fun b => Ending.returned (.bool b)) c_9, ?_⟩
      replace hp := hp.below hb
      clear hb
      refine step_fin hp ?_
      refine treeI_rd rfl ?_
      refine sxq_val 18 (.bool false) (by rfl) (fun W hp => (by kernel_rfl)) ?_
      refine sxq_nil ?_
      refine treeI_rd rfl ?_
      refine sxq_val 19 (.bool false) (by rfl) (fun W hp => (by kernel_rfl)) ?_
      refine sxq_nil ?_
      refine treeI_rd rfl ?_
      refine sxq_want (by rfl) ?_
      refine sxq_val 20 (.pointer (some ⟨g, 0, none⟩)) (by rfl) (fun W hp => (by kernel_rfl)) ?_
      refine sxq_nil ?_
      refine treeI_rd rfl ?_
      refine sxq_want (by rfl) ?_
      refine sxq_val 21 (.pointer (some ⟨g, 0, none⟩)) (by rfl) (fun W hp => (by kernel_rfl)) ?_
      refine sxq_nil ?_
      refine treeI_rd rfl ?_
      refine sxq_want (by rfl) ?_
      refine sxq_val 22 (.pointer (some ⟨g, 1, none⟩)) (by rfl) (fun W hp => (by kernel_rfl)) ?_
      refine sxq_nil ?_
      refine treeI_rd rfl ?_
      refine sxq_want (by rfl) ?_
      refine sxq_val 23 (.slice A2 s.ti.length c2) (by rfl) (fun W hp => (ld1 (t := 52) (p := (.tmp 22)) (by rfl) (by rfl) (by kernel_rfl) (hp.cell 2 (by rfl) 1 _ (by rfl)))) ?_
      refine sxq_nil ?_
      refine treeI_rd rfl ?_
      refine sxq_want (by rfl) ?_
      refine sxq_val 24 (.int .i64 (s.ti.length : Int)) (by rfl) (fun W hp => (by kernel_rfl)) ?_
      refine sxq_nil ?_
      refine treeI_rd rfl ?_
      refine sxq_want (by rfl) ?_
      refine sxq_val 25 (.bool ((s.ti.length : Int) == 28)) (by rfl) (fun W hp => (by kernel_rfl)) ?_
      refine sxq_nil ?_
      refine treeI_rd rfl ?_
      refine sxq_val 26 (.bool ((s.ti.length : Int) == 28)) (by rfl) (fun W hp => (by kernel_rfl)) ?_
      refine sxq_nil ?_
      refine treeI_fin ?_
      refine sx_nil ?_
      refine ex_then_n ?_
      refine sx_cond ((s.ti.length : Int) == 28) (by rfl) (fun c_16 => ?_) (fun c_16 => ?_)
      ·
        have c_16p := eq_of_beq_ c_16
        refine wp_seq ?_
        refine sx_region ?_
        refine sx_rd 4 (.bool false) (by rfl) (by kernel_rfl) ?_
        refine sx_nil ?_
        refine ex_then_n ?_
        refine wp_ret ?_
        refine ex_then_r ?_
        refine sx_end (.bool false) (res1 4 (by rfl)) ?_
        have hc : spCan s p = false := by revert c_6 c_9 c_16; simp +contextual [Bool.not_true, spCan, -List.length_eq_zero_iff] <;> (intros; omega)
        exact ⟨s, _, _, _, _, _, _, by rw [hc], by rw [hc]; rfl, (hp.take [2, 3, 4] 5 (by decide) (by simp))⟩
      ·
        have c_16p := ne_of_beq_ c_16
        refine wp_skip ?_
        refine ex_then_n ?_
        refine wp_seq ?_
        refine wp_seq ?_
        refine sx_region ?_
        refine sx_rd 27 (.pointer (some ⟨g, 0, none⟩)) (by rfl) (by kernel_rfl) ?_
        refine sx_rd 28 (.pointer (some ⟨g, 0, none⟩)) (by rfl) (by kernel_rfl) ?_
        refine sx_rd 29 (.pointer (some ⟨g, 1, none⟩)) (by rfl) (by kernel_rfl) ?_
        refine sx_rd 30 (.slice A2 s.ti.length c2) (by rfl) (ld1 (t := 52) (p := (.tmp 29)) (by rfl) (by rfl) (by kernel_rfl) (hp.cell 2 (by rfl) 1 _ (by rfl))) ?_
        refine sx_rd 31 (.int .i64 (s.ti.length : Int)) (by rfl) (by kernel_rfl) ?_
        refine sx_rd 32 (.bool ((s.ti.length : Int) == 0)) (by rfl) (by kernel_rfl) ?_
        refine sx_nil ?_
        refine ex_then_n ?_
        refine sx_cond ((s.ti.length : Int) == 0) (by rfl) (fun c_17 => ?_) (fun c_17 => ?_)
        ·
          have c_17p := eq_of_beq_ c_17
          refine wp_seq ?_
          refine wp_seq ?_
          refine sx_region ?_
          refine sx_rd 33 (.pointer (some ⟨g_1, 2, none⟩)) (by rfl) (by kernel_rfl) ?_
          refine sx_rd 34 (.int .i64 p.f1) (by rfl) (ld1 (t := 3) (p := (.tmp 33)) (by rfl) (by rfl) (by kernel_rfl) (hp.cell 1 (by rfl) 2 _ (by rfl))) ?_
          refine sx_rd 35 (.bool (p.f1 != 0)) (by rfl) (by kernel_rfl) ?_
          refine sx_nil ?_
          refine ex_then_n ?_
          refine sx_cond (p.f1 != 0) (by rfl) (fun c_18 => ?_) (fun c_18 => ?_)
          ·
            have c_18p := ne_of_bne_ c_18
            refine wp_seq ?_
            refine sx_region ?_
            refine sx_rd 4 (.bool false) (by rfl) (by kernel_rfl) ?_
            refine sx_nil ?_
            refine ex_then_n ?_
            refine wp_ret ?_
            refine ex_then_r (ex_then_r ?_)
            refine sx_end (.bool false) (res1 4 (by rfl)) ?_
            have hc : spCan s p = false := by revert c_6 c_9 c_16 c_17 c_18; simp +contextual [Bool.not_true, spCan, -List.length_eq_zero_iff] <;> (intros; omega)
            exact ⟨s, _, _, _, _, _, _, by rw [hc], by rw [hc]; rfl, (hp.take [2, 3, 4] 5 (by decide) (by simp))⟩
          ·
            have c_18p := eq_of_bne_ c_18
            refine wp_skip ?_
            refine ex_then_n ?_
            refine wp_seq ?_
            refine sx_region ?_
            refine sx_rd 36 (.pointer (some ⟨g, 0, none⟩)) (by rfl) (by kernel_rfl) ?_
            refine sx_rd 37 (.agg #[.int .i64 p.f0.f0, .int .i64 p.f0.f1]) (by rfl) (ldn (t := 34) (p := (.tmp 5)) (by rfl) (by rfl) (by kernel_rfl) (by kernel_rfl) (by kernel_rfl) (hp.at_ 0 _ (by rfl))) ?_
            refine sx_lit 38 (by rfl) k34 b 34 ([p.f0]) [.int .i64 p.f0.f0, .int .i64 p.f0.f1] (fun W => by kernel_rfl) (tile_reps _ _ _) (by simp) (Nat.le_trans hb0 hp.size) hp ?_
            intro g_19 F_20 W_21 hp hz; clear hz
            refine sx_rd 39 (.pointer (some ⟨g, 0, none⟩)) (by rfl) (by kernel_rfl) ?_
            refine sx_rd 40 (.pointer (some ⟨g, 1, none⟩)) (by rfl) (by kernel_rfl) ?_
            refine sx_store (t := 52) (p := (.tmp 40)) (x := (.tmp 38)) (by rfl) (by rfl) 3 (by rfl) 1 [.slice (some ⟨g_19, 0, none⟩) ([p.f0].length) ([p.f0].length)] (by rfl) (by rfl) (by kernel_rfl) (by simp [Value.oneCell']) (by show 2 ≤ 5; omega) #[.slice A1 s.ar.length c1, .slice (some ⟨g_19, 0, none⟩) ([p.f0].length) ([p.f0].length), .int .i64 s.sp, .bool s.w0, .bool s.w1] (by rfl) hp ?_
            intro W_22 hp; simp only [List.set_cons_succ, List.set_cons_zero] at hp
            refine sx_nil ?_
            refine ex_then_n ?_
            refine wp_seq ?_
            refine sx_drawT [0, 1, 6] (.rd 2 (.rd 3 (.rd 7 (.rd 8 (.alt 4 (.rd 5 (.alt 9 (.rd 10 (.alt 11 (.rd 12 (.rd 13 (.fin))) .non)) .non)) .non))))) 14 (C := Hp w0 (row k34 34 b (.slice (some ⟨g_19, 0, none⟩) ([p.f0].length) ([p.f0].length)) ([p.f0]) F_20 :: blk g_3 #[.int .i64 p.f0.f0, .int .i64 p.f0.f1] 34 :: blk g_1 #[.int .i64 p.f0.f0, .int .i64 p.f0.f1, .int .i64 p.f1] 36 :: blk g #[.slice A1 s.ar.length c1, .slice (some ⟨g_19, 0, none⟩) ([p.f0].length) ([p.f0].length), .int .i64 s.sp, .bool s.w0, .bool s.w1] 55 :: row k72 72 b (.slice A1 s.ar.length c1) s.ar F1 :: row k34 34 b (.slice A2 s.ti.length c2) s.ti F2 :: cs)) (by kernel_rfl) (by kernel_rfl) (fun d _ _ _ _ h => by cases d <;> exact h) (fun W h => h.drew) hp ?_
            refine preI_read rfl ?_
            refine sxq_val 41 (.pointer (some ⟨g, 0, none⟩)) (by rfl) (fun W _ => (by kernel_rfl)) ?_
            refine sxq_nil ?_
            refine preI_read rfl ?_
            refine sxq_val 42 (.pointer (some ⟨g_3, 0, none⟩)) (by rfl) (fun W _ => (by kernel_rfl)) ?_
            refine sxq_nil ?_
            refine preI_read rfl ?_
            refine sxq_val 47 (.pointer (some ⟨g_3, 1, none⟩)) (by rfl) (fun W _ => (by kernel_rfl)) ?_
            refine sxq_nil ?_
            refine preI_nil ?_
            intro W_23 hp
            refine treeI_rd rfl ?_
            refine sxq_val 43 (.int .i64 p.f0.f0) (by rfl) (fun W hp => (ld1 (t := 3) (p := (.tmp 42)) (by rfl) (by rfl) (by kernel_rfl) (hp.cell 1 (by rfl) 0 _ (by rfl)))) ?_
            refine sxq_nil ?_
            refine treeI_rd rfl ?_
            refine sxq_val 44 (.agg #[.int .i64 p.f0.f0, .int .i64 p.f0.f1]) (by rfl) (fun W hp => (ldn (t := 34) (p := (.tmp 5)) (by rfl) (by rfl) (by kernel_rfl) (by kernel_rfl) (by kernel_rfl) (hp.at_ 1 _ (by rfl)))) ?_
            refine sxq_nil ?_
            refine treeI_rd rfl ?_
            refine sxq_val 48 (.int .i64 p.f0.f1) (by rfl) (fun W hp => (ld1 (t := 3) (p := (.tmp 47)) (by rfl) (by rfl) (by kernel_rfl) (hp.cell 1 (by rfl) 1 _ (by rfl)))) ?_
            refine sxq_nil ?_
            refine treeI_rd rfl ?_
            refine sxq_val 49 (.agg #[.int .i64 p.f0.f0, .int .i64 p.f0.f1]) (by rfl) (fun W hp => (ldn (t := 34) (p := (.tmp 5)) (by rfl) (by rfl) (by kernel_rfl) (by kernel_rfl) (by kernel_rfl) (hp.at_ 1 _ (by rfl)))) ?_
            refine sxq_nil ?_
            refine treeI_ev rfl ?_
            refine sx_call 45 (by rfl) (by kernel_rfl) ((isDouble_c p.f0 _).mono ?_)
            rintro _ W_24 ⟨rfl, hb⟩
            refine ⟨_, rfl, ?_⟩
            replace hp := hp.below hb
            clear hb
            refine step_fin hp ?_
            refine treeI_rd rfl ?_
            refine sxq_val 46 (.agg #[.int .i64 p.f0.f0, .bool (p.f0.f0 == p.f0.f1), .bool false]) (by rfl) (fun W hp => (by kernel_rfl)) ?_
            refine sxq_nil ?_
            refine treeI_ev rfl ?_
            refine sx_call 50 (by rfl) (by kernel_rfl) ((isDouble_c p.f0 _).mono ?_)
            rintro _ W_25 ⟨rfl, hb⟩
            refine ⟨_, rfl, ?_⟩
            replace hp := hp.below hb
            clear hb
            refine step_fin hp ?_
            refine treeI_rd rfl ?_
            refine sxq_val 51 (.agg #[.int .i64 p.f0.f1, .bool (p.f0.f0 == p.f0.f1), .bool false]) (by rfl) (fun W hp => (by kernel_rfl)) ?_
            refine sxq_nil ?_
            refine treeI_ev rfl ?_
            refine sx_lit 52 (by rfl) k72 b 72 ([(⟨p.f0.f0, (p.f0.f0 == p.f0.f1), false⟩ : S_Arm), (⟨p.f0.f1, (p.f0.f0 == p.f0.f1), false⟩ : S_Arm)]) [.int .i64 p.f0.f0, .bool (p.f0.f0 == p.f0.f1), .bool false, .int .i64 p.f0.f1, .bool (p.f0.f0 == p.f0.f1), .bool false] (fun W => by kernel_rfl) (arm_reps _ _ _) (by simp) (Nat.le_trans hb0 hp.size) hp ?_
            intro g_26 F_27 W_28 hp hz; clear hz
            refine step_fin hp.tail ?_
            refine treeI_rd rfl ?_
            refine sxq_val 53 (.pointer (some ⟨g, 0, none⟩)) (by rfl) (fun W hp => (by kernel_rfl)) ?_
            refine sxq_nil ?_
            refine treeI_rd rfl ?_
            refine sxq_val 54 (.pointer (some ⟨g, 0, none⟩)) (by rfl) (fun W hp => (by kernel_rfl)) ?_
            refine sxq_nil ?_
            refine treeI_fin ?_
            refine tail_of [14] (by rfl) ?_
            refine tailI_op rfl ?_
            refine sx_store (t := 51) (p := (.tmp 54)) (x := (.tmp 52)) (by rfl) (by rfl) 4 (by rfl) 0 [.slice (some ⟨g_26, 0, none⟩) ([(⟨p.f0.f0, (p.f0.f0 == p.f0.f1), false⟩ : S_Arm), (⟨p.f0.f1, (p.f0.f0 == p.f0.f1), false⟩ : S_Arm)].length) ([(⟨p.f0.f0, (p.f0.f0 == p.f0.f1), false⟩ : S_Arm), (⟨p.f0.f1, (p.f0.f0 == p.f0.f1), false⟩ : S_Arm)].length)] (by rfl) (by rfl) (by kernel_rfl) (by simp [Value.oneCell']) (by show 1 ≤ 5; omega) #[.slice (some ⟨g_26, 0, none⟩) ([(⟨p.f0.f0, (p.f0.f0 == p.f0.f1), false⟩ : S_Arm), (⟨p.f0.f1, (p.f0.f0 == p.f0.f1), false⟩ : S_Arm)].length) ([(⟨p.f0.f0, (p.f0.f0 == p.f0.f1), false⟩ : S_Arm), (⟨p.f0.f1, (p.f0.f0 == p.f0.f1), false⟩ : S_Arm)].length), .slice (some ⟨g_19, 0, none⟩) ([p.f0].length) ([p.f0].length), .int .i64 s.sp, .bool s.w0, .bool s.w1] (by rfl) hp ?_
            intro W_29 hp; simp only [List.set_cons_succ, List.set_cons_zero] at hp
            refine tailI_next ?_
            refine tailI_nil ?_
            refine ex_then_n ?_
            refine wp_seq ?_
            refine wp_seq ?_
            refine sx_region ?_
            refine sx_rd 55 (.agg #[.int .i64 p.f0.f0, .int .i64 p.f0.f1]) (by rfl) (ldn (t := 34) (p := (.tmp 5)) (by rfl) (by rfl) (by kernel_rfl) (by kernel_rfl) (by kernel_rfl) (hp.at_ 2 _ (by rfl))) ?_
            refine sx_call 56 (by rfl) (by kernel_rfl) ((isDouble_c p.f0 _).mono ?_)
            rintro _ W_30 ⟨rfl, hb⟩
            refine ⟨_, rfl, ?_⟩
            replace hp := hp.below hb
            clear hb
            refine sx_nil ?_
            refine ex_then_n ?_
            refine sx_cond (p.f0.f0 == p.f0.f1) (by rfl) (fun c_31 => ?_) (fun c_31 => ?_)
            ·
              have c_31p := eq_of_beq_ c_31
              refine sx_region ?_
              refine sx_rd 57 (.pointer (some ⟨g, 0, none⟩)) (by rfl) (by kernel_rfl) ?_
              refine sx_rd 58 (.pointer (some ⟨g, 0, none⟩)) (by rfl) (by kernel_rfl) ?_
              refine sx_rd 59 (.pointer (some ⟨g_3, 0, none⟩)) (by rfl) (by kernel_rfl) ?_
              refine sx_rd 60 (.int .i64 p.f0.f0) (by rfl) (ld1 (t := 3) (p := (.tmp 59)) (by rfl) (by rfl) (by kernel_rfl) (hp.cell 2 (by rfl) 0 _ (by rfl))) ?_
              refine sx_rd 61 (.agg #[.bool true, .bool true]) (by rfl) (by kernel_rfl) ?_
              refine sx_rd 62 (.pointer (some ⟨g, 0, none⟩)) (by rfl) (by kernel_rfl) ?_
              refine sx_rd 63 (.pointer (some ⟨g, 2, none⟩)) (by rfl) (by kernel_rfl) ?_
              refine sx_store (t := 3) (p := (.tmp 63)) (x := (.tmp 60)) (by rfl) (by rfl) 4 (by rfl) 2 [.int .i64 p.f0.f0] (by rfl) (by rfl) (by kernel_rfl) (by simp [Value.oneCell']) (by show 3 ≤ 5; omega) #[.slice (some ⟨g_26, 0, none⟩) ([(⟨p.f0.f0, (p.f0.f0 == p.f0.f1), false⟩ : S_Arm), (⟨p.f0.f1, (p.f0.f0 == p.f0.f1), false⟩ : S_Arm)].length) ([(⟨p.f0.f0, (p.f0.f0 == p.f0.f1), false⟩ : S_Arm), (⟨p.f0.f1, (p.f0.f0 == p.f0.f1), false⟩ : S_Arm)].length), .slice (some ⟨g_19, 0, none⟩) ([p.f0].length) ([p.f0].length), .int .i64 p.f0.f0, .bool s.w0, .bool s.w1] (by rfl) hp ?_
              intro W_32 hp; simp only [List.set_cons_succ, List.set_cons_zero] at hp
              refine sx_rd 64 (.pointer (some ⟨g, 0, none⟩)) (by rfl) (by kernel_rfl) ?_
              refine sx_rd 65 (.pointer (some ⟨g, 3, none⟩)) (by rfl) (by kernel_rfl) ?_
              refine sx_store (t := 53) (p := (.tmp 65)) (x := (.tmp 61)) (by rfl) (by rfl) 4 (by rfl) 3 [.bool true, .bool true] (by rfl) (by rfl) (by kernel_rfl) (by simp [Value.oneCell']) (by show 5 ≤ 5; omega) #[.slice (some ⟨g_26, 0, none⟩) ([(⟨p.f0.f0, (p.f0.f0 == p.f0.f1), false⟩ : S_Arm), (⟨p.f0.f1, (p.f0.f0 == p.f0.f1), false⟩ : S_Arm)].length) ([(⟨p.f0.f0, (p.f0.f0 == p.f0.f1), false⟩ : S_Arm), (⟨p.f0.f1, (p.f0.f0 == p.f0.f1), false⟩ : S_Arm)].length), .slice (some ⟨g_19, 0, none⟩) ([p.f0].length) ([p.f0].length), .int .i64 p.f0.f0, .bool true, .bool true] (by rfl) hp ?_
              intro W_33 hp; simp only [List.set_cons_succ, List.set_cons_zero] at hp
              refine sx_nil ?_
              refine ex_then_n ?_
              refine wp_seq ?_
              refine sx_region ?_
              refine sx_rd 4 (.bool true) (by rfl) (by kernel_rfl) ?_
              refine sx_nil ?_
              refine ex_then_n ?_
              refine wp_ret ?_
              refine ex_then_r ?_
              refine sx_end (.bool true) (res1 4 (by rfl)) ?_
              have hc : spCan s p = true := by revert c_6 c_9 c_16 c_17 c_18 c_31; simp +contextual [Bool.not_true, spCan, -List.length_eq_zero_iff] <;> (intros; omega)
              have hd : spDo s p = (⟨[(⟨p.f0.f0, (p.f0.f0 == p.f0.f1), false⟩ : S_Arm), (⟨p.f0.f1, (p.f0.f0 == p.f0.f1), false⟩ : S_Arm)], [p.f0], p.f0.f0, true, true⟩ : SpSt) := by revert c_6 c_9 c_16 c_17 c_18 c_31; simp +contextual [Bool.not_true, spDo, -List.length_eq_zero_iff] <;> (intros; omega)
              exact ⟨(⟨[(⟨p.f0.f0, (p.f0.f0 == p.f0.f1), false⟩ : S_Arm), (⟨p.f0.f1, (p.f0.f0 == p.f0.f1), false⟩ : S_Arm)], [p.f0], p.f0.f0, true, true⟩ : SpSt), _, _, _, _, _, _, by rw [hc], by rw [hc]; exact hd.symm, (hp.take [4, 0, 1] 7 (by decide) (by simp))⟩
            ·
              have c_31p := ne_of_beq_ c_31
              refine wp_skip ?_
              refine ex_then_n ?_
              refine wp_seq ?_
              refine sx_region ?_
              refine sx_rd 4 (.bool true) (by rfl) (by kernel_rfl) ?_
              refine sx_nil ?_
              refine ex_then_n ?_
              refine wp_ret ?_
              refine ex_then_r ?_
              refine sx_end (.bool true) (res1 4 (by rfl)) ?_
              have hc : spCan s p = true := by revert c_6 c_9 c_16 c_17 c_18 c_31; simp +contextual [Bool.not_true, spCan, -List.length_eq_zero_iff] <;> (intros; omega)
              have hd : spDo s p = (⟨[(⟨p.f0.f0, (p.f0.f0 == p.f0.f1), false⟩ : S_Arm), (⟨p.f0.f1, (p.f0.f0 == p.f0.f1), false⟩ : S_Arm)], [p.f0], s.sp, s.w0, s.w1⟩ : SpSt) := by revert c_6 c_9 c_16 c_17 c_18 c_31; simp +contextual [Bool.not_true, spDo, -List.length_eq_zero_iff] <;> (intros; omega)
              exact ⟨(⟨[(⟨p.f0.f0, (p.f0.f0 == p.f0.f1), false⟩ : S_Arm), (⟨p.f0.f1, (p.f0.f0 == p.f0.f1), false⟩ : S_Arm)], [p.f0], s.sp, s.w0, s.w1⟩ : SpSt), _, _, _, _, _, _, by rw [hc], by rw [hc]; exact hd.symm, (hp.take [4, 0, 1] 7 (by decide) (by simp))⟩
        ·
          have c_17p := ne_of_beq_ c_17
          refine wp_skip ?_
          refine ex_then_n ?_
          refine wp_seq ?_
          refine wp_seq ?_
          rcases Bool.eq_false_or_eq_true (!(decide (0 ≤ p.f1) && decide (p.f1 ≤ ((s.ar.length : Int) - 1)))) with c_34 | c_34
          ·
            refine sx_drawT [0, 2, 3, 4] (.rd 1 (.rd 5 (.rd 6 (.rd 7 (.alt 8 (.rd 9 (.rd 10 (.rd 11 (.rd 12 (.rd 13 (.rd 14 (.rd 15 (.rd 16 (.rd 17 (.rd 18 (.rd 19 (.rd 20 (.alt 21 (.rd 22 (.rd 23 (.fin))) .non))))))))))))) .non))))) 24 (C := Hp w0 (blk g_3 #[.int .i64 p.f0.f0, .int .i64 p.f0.f1] 34 :: blk g_1 #[.int .i64 p.f0.f0, .int .i64 p.f0.f1, .int .i64 p.f1] 36 :: blk g #[.slice A1 s.ar.length c1, .slice A2 s.ti.length c2, .int .i64 s.sp, .bool s.w0, .bool s.w1] 55 :: row k72 72 b (.slice A1 s.ar.length c1) s.ar F1 :: row k34 34 b (.slice A2 s.ti.length c2) s.ti F2 :: cs)) (by kernel_rfl) (by kernel_rfl) (fun d _ _ _ _ h => by cases d <;> exact h) (fun W h => h.drew) hp ?_
            refine preI_read rfl ?_
            refine sxq_val 66 (.pointer (some ⟨g_1, 2, none⟩)) (by rfl) (fun W _ => (by kernel_rfl)) ?_
            refine sxq_nil ?_
            refine preI_read rfl ?_
            refine sxq_val 68 (.pointer (some ⟨g, 0, none⟩)) (by rfl) (fun W _ => (by kernel_rfl)) ?_
            refine sxq_nil ?_
            refine preI_read rfl ?_
            refine sxq_val 69 (.pointer (some ⟨g, 0, none⟩)) (by rfl) (fun W _ => (by kernel_rfl)) ?_
            refine sxq_nil ?_
            refine preI_read rfl ?_
            refine sxq_val 70 (.pointer (some ⟨g, 0, none⟩)) (by rfl) (fun W _ => (by kernel_rfl)) ?_
            refine sxq_nil ?_
            refine preI_nil ?_
            intro W_35 hp
            refine treeI_rd rfl ?_
            refine sxq_val 67 (.int .i64 p.f1) (by rfl) (fun W hp => (ld1 (t := 3) (p := (.tmp 66)) (by rfl) (by rfl) (by kernel_rfl) (hp.cell 1 (by rfl) 2 _ (by rfl)))) ?_
            refine sxq_nil ?_
            refine treeI_rd rfl ?_
            refine sxq_val 71 (.slice A1 s.ar.length c1) (by rfl) (fun W hp => (ld1 (t := 51) (p := (.tmp 70)) (by rfl) (by rfl) (by kernel_rfl) (hp.cell 2 (by rfl) 0 _ (by rfl)))) ?_
            refine sxq_nil ?_
            refine treeI_rd rfl ?_
            refine sxq_val 72 (.int .i64 (s.ar.length : Int)) (by rfl) (fun W hp => (by kernel_rfl)) ?_
            refine sxq_nil ?_
            refine treeI_rd rfl ?_
            refine sxq_val 73 (.int .i64 ((s.ar.length : Int) - 1)) (by rfl) (fun W hp => (wr_ok (by omega) (by kernel_rfl))) ?_
            refine sxq_nil ?_
            refine treeI_ev rfl ?_
            refine sx_call 74 (by rfl) (by kernel_rfl) ((within_c p.f1 0 ((s.ar.length : Int) - 1) _).mono ?_)
            rintro _ W_36 ⟨rfl, hb⟩
            refine ⟨.bool false, congrArg (fun b => Ending.returned (.bool b)) (not_eq c_34), ?_⟩
            replace hp := hp.below hb.below
            clear hb
            refine step_fin hp ?_
            refine treeI_rd rfl ?_
            refine sxq_val 75 (.bool true) (by rfl) (fun W hp => (by kernel_rfl)) ?_
            refine sxq_nil ?_
            refine treeI_rd rfl ?_
            refine sxq_val 76 (.bool true) (by rfl) (fun W hp => (by kernel_rfl)) ?_
            refine sxq_nil ?_
            refine treeI_rd rfl ?_
            refine sxq_skip 77 (by rfl) (by rfl) (by rfl) ?_
            refine sxq_nil ?_
            refine treeI_rd rfl ?_
            refine sxq_skip 78 (by rfl) (by rfl) (by rfl) ?_
            refine sxq_nil ?_
            refine treeI_rd rfl ?_
            refine sxq_skip 79 (by rfl) (by rfl) (by rfl) ?_
            refine sxq_nil ?_
            refine treeI_rd rfl ?_
            refine sxq_skip 80 (by rfl) (by rfl) (by rfl) ?_
            refine sxq_nil ?_
            refine treeI_rd rfl ?_
            refine sxq_skip 81 (by rfl) (by rfl) (by rfl) ?_
            refine sxq_nil ?_
            refine treeI_rd rfl ?_
            refine sxq_skip 82 (by rfl) (by rfl) (by rfl) ?_
            refine sxq_nil ?_
            refine treeI_rd rfl ?_
            refine sxq_skip 83 (by rfl) (by rfl) (by rfl) ?_
            refine sxq_nil ?_
            refine treeI_rd rfl ?_
            refine sxq_skip 84 (by rfl) (by rfl) (by rfl) ?_
            refine sxq_nil ?_
            refine treeI_rd rfl ?_
            refine sxq_skip 85 (by rfl) (by rfl) (by rfl) ?_
            refine sxq_nil ?_
            refine treeI_rd rfl ?_
            refine sxq_skip 86 (by rfl) (by rfl) (by rfl) ?_
            refine sxq_nil ?_
            refine treeI_ev rfl ?_
            refine sx_skip 87 (by rfl) (by rfl) (by rfl) ?_
            refine step_fin hp ?_
            refine treeI_rd rfl ?_
            refine sxq_skip 88 (by rfl) (by rfl) (by rfl) ?_
            refine sxq_nil ?_
            refine treeI_rd rfl ?_
            refine sxq_val 89 (.bool true) (by rfl) (fun W hp => (by kernel_rfl)) ?_
            refine sxq_nil ?_
            refine treeI_fin ?_
            refine sx_nil ?_
            refine ex_then_n ?_
            refine sx_then true (by rfl) rfl ?_
            refine wp_seq ?_
            refine sx_region ?_
            refine sx_rd 4 (.bool false) (by rfl) (by kernel_rfl) ?_
            refine sx_nil ?_
            refine ex_then_n ?_
            refine wp_ret ?_
            refine ex_then_r ?_
            refine sx_end (.bool false) (res1 4 (by rfl)) ?_
            have hc : spCan s p = false := by revert c_6 c_9 c_16 c_17 c_34; simp +contextual [Bool.not_true, spCan, -List.length_eq_zero_iff] <;> (intros; omega)
            exact ⟨s, _, _, _, _, _, _, by rw [hc], by rw [hc]; rfl, (hp.take [2, 3, 4] 5 (by decide) (by simp))⟩
          ·
            obtain ⟨c_34a, c_34b⟩ := and_dec (not_eq c_34); replace c_34a := of_decide_eq_true c_34a; replace c_34b := of_decide_eq_true c_34b
            refine sx_drawT [0, 2, 3, 4] (.rd 1 (.rd 5 (.rd 6 (.rd 7 (.alt 8 (.rd 9 (.rd 10 (.rd 11 (.rd 12 (.rd 13 (.rd 14 (.rd 15 (.rd 16 (.rd 17 (.rd 18 (.rd 19 (.rd 20 (.alt 21 (.rd 22 (.rd 23 (.fin))) .non))))))))))))) .non))))) 24 (C := Hp w0 (blk g_3 #[.int .i64 p.f0.f0, .int .i64 p.f0.f1] 34 :: blk g_1 #[.int .i64 p.f0.f0, .int .i64 p.f0.f1, .int .i64 p.f1] 36 :: blk g #[.slice A1 s.ar.length c1, .slice A2 s.ti.length c2, .int .i64 s.sp, .bool s.w0, .bool s.w1] 55 :: row k72 72 b (.slice A1 s.ar.length c1) s.ar F1 :: row k34 34 b (.slice A2 s.ti.length c2) s.ti F2 :: cs)) (by kernel_rfl) (by kernel_rfl) (fun d _ _ _ _ h => by cases d <;> exact h) (fun W h => h.drew) hp ?_
            refine preI_read rfl ?_
            refine sxq_val 66 (.pointer (some ⟨g_1, 2, none⟩)) (by rfl) (fun W _ => (by kernel_rfl)) ?_
            refine sxq_nil ?_
            refine preI_read rfl ?_
            refine sxq_val 68 (.pointer (some ⟨g, 0, none⟩)) (by rfl) (fun W _ => (by kernel_rfl)) ?_
            refine sxq_nil ?_
            refine preI_read rfl ?_
            refine sxq_val 69 (.pointer (some ⟨g, 0, none⟩)) (by rfl) (fun W _ => (by kernel_rfl)) ?_
            refine sxq_nil ?_
            refine preI_read rfl ?_
            refine sxq_val 70 (.pointer (some ⟨g, 0, none⟩)) (by rfl) (fun W _ => (by kernel_rfl)) ?_
            refine sxq_nil ?_
            refine preI_nil ?_
            intro W_37 hp
            refine treeI_rd rfl ?_
            refine sxq_val 67 (.int .i64 p.f1) (by rfl) (fun W hp => (ld1 (t := 3) (p := (.tmp 66)) (by rfl) (by rfl) (by kernel_rfl) (hp.cell 1 (by rfl) 2 _ (by rfl)))) ?_
            refine sxq_nil ?_
            refine treeI_rd rfl ?_
            refine sxq_val 71 (.slice A1 s.ar.length c1) (by rfl) (fun W hp => (ld1 (t := 51) (p := (.tmp 70)) (by rfl) (by rfl) (by kernel_rfl) (hp.cell 2 (by rfl) 0 _ (by rfl)))) ?_
            refine sxq_nil ?_
            refine treeI_rd rfl ?_
            refine sxq_val 72 (.int .i64 (s.ar.length : Int)) (by rfl) (fun W hp => (by kernel_rfl)) ?_
            refine sxq_nil ?_
            refine treeI_rd rfl ?_
            refine sxq_val 73 (.int .i64 ((s.ar.length : Int) - 1)) (by rfl) (fun W hp => (wr_ok (by omega) (by kernel_rfl))) ?_
            refine sxq_nil ?_
            refine treeI_ev rfl ?_
            refine sx_call 74 (by rfl) (by kernel_rfl) ((within_c p.f1 0 ((s.ar.length : Int) - 1) _).mono ?_)
            rintro _ W_38 ⟨rfl, hb⟩
            refine ⟨.bool true, congrArg (fun b => Ending.returned (.bool b)) (not_eq c_34), ?_⟩
            replace hp := hp.below hb.below
            clear hb
            refine step_fin hp ?_
            refine treeI_rd rfl ?_
            refine sxq_val 75 (.bool false) (by rfl) (fun W hp => (by kernel_rfl)) ?_
            refine sxq_nil ?_
            refine treeI_rd rfl ?_
            refine sxq_val 76 (.bool false) (by rfl) (fun W hp => (by kernel_rfl)) ?_
            refine sxq_nil ?_
            refine treeI_rd rfl ?_
            refine sxq_want (by rfl) ?_
            refine sxq_val 77 (.agg #[.int .i64 p.f0.f0, .int .i64 p.f0.f1]) (by rfl) (fun W hp => (ldn (t := 34) (p := (.tmp 5)) (by rfl) (by rfl) (by kernel_rfl) (by kernel_rfl) (by kernel_rfl) (hp.at_ 0 _ (by rfl)))) ?_
            refine sxq_nil ?_
            refine treeI_rd rfl ?_
            refine sxq_want (by rfl) ?_
            refine sxq_val 78 (.pointer (some ⟨g, 0, none⟩)) (by rfl) (fun W hp => (by kernel_rfl)) ?_
            refine sxq_nil ?_
            refine treeI_rd rfl ?_
            refine sxq_want (by rfl) ?_
            refine sxq_val 79 (.pointer (some ⟨g, 0, none⟩)) (by rfl) (fun W hp => (by kernel_rfl)) ?_
            refine sxq_nil ?_
            refine treeI_rd rfl ?_
            refine sxq_want (by rfl) ?_
            refine sxq_val 80 (.pointer (some ⟨g, 0, none⟩)) (by rfl) (fun W hp => (by kernel_rfl)) ?_
            refine sxq_nil ?_
            refine treeI_rd rfl ?_
            refine sxq_want (by rfl) ?_
            refine sxq_val 81 (.slice A1 s.ar.length c1) (by rfl) (fun W hp => (ld1 (t := 51) (p := (.tmp 80)) (by rfl) (by rfl) (by kernel_rfl) (hp.cell 2 (by rfl) 0 _ (by rfl)))) ?_
            refine sxq_nil ?_
            refine treeI_rd rfl ?_
            refine sxq_want (by rfl) ?_
            refine sxq_val 82 (.pointer (some ⟨g_1, 2, none⟩)) (by rfl) (fun W hp => (by kernel_rfl)) ?_
            refine sxq_nil ?_
            refine treeI_rd rfl ?_
            refine sxq_want (by rfl) ?_
            refine sxq_val 83 (.int .i64 p.f1) (by rfl) (fun W hp => (ld1 (t := 3) (p := (.tmp 82)) (by rfl) (by rfl) (by kernel_rfl) (hp.cell 1 (by rfl) 2 _ (by rfl)))) ?_
            refine sxq_nil ?_
            refine treeI_rd rfl ?_
            refine sxq_want (by rfl) ?_
            refine sxq_val 84 (.pointer (some (adr A1 p.f1 3))) (by rfl) (fun W hp => (ix_run (d := k72) (row_C (hp.at_ 3 _ (by rfl))) (t := 51) (by rfl) (by rfl) (by rfl) Tryd.underlying51 (by kernel_rfl) (by omega) (by omega))) ?_
            refine sxq_nil ?_
            refine treeI_rd rfl ?_
            refine sxq_want (by rfl) ?_
            refine sxq_val 85 (.pointer (some (adr A1 p.f1 3))) (by rfl) (fun W hp => (by kernel_rfl)) ?_
            refine sxq_nil ?_
            refine treeI_rd rfl ?_
            refine sxq_want (by rfl) ?_
            refine sxq_val 86 (.int .i64 ((rd_Arm s.ar p.f1).f0)) (by rfl) (fun W hp => (ld1 (t := 3) (p := (.tmp 85)) (by rfl) (by rfl) (by kernel_rfl) (el_cell (d := k72) (row_C (hp.at_ 3 _ (by rfl))) z72 p.f1 (by omega) (by omega) (cells := [.int .i64 ((rd_Arm s.ar p.f1).f0), .bool ((rd_Arm s.ar p.f1).f1), .bool ((rd_Arm s.ar p.f1).f2)]) (fun cs h => k72_open h) 0 _ (by rfl)))) ?_
            refine sxq_nil ?_
            refine treeI_ev rfl ?_
            refine sx_want (by rfl) ?_
            refine sx_call 87 (by rfl) (by kernel_rfl) ((has_c p.f0 ((rd_Arm s.ar p.f1).f0) _).mono ?_)
            rintro _ W_39 ⟨rfl, hb⟩
            refine ⟨_, rfl, ?_⟩
            replace hp := hp.below hb
            clear hb
            refine step_fin hp ?_
            refine treeI_rd rfl ?_
            refine sxq_want (by rfl) ?_
            refine sxq_val 88 (.bool (!(p.f0.f0 == (rd_Arm s.ar p.f1).f0 || p.f0.f1 == (rd_Arm s.ar p.f1).f0))) (by rfl) (fun W hp => (by kernel_rfl)) ?_
            refine sxq_nil ?_
            refine treeI_rd rfl ?_
            refine sxq_val 89 (.bool (!(p.f0.f0 == (rd_Arm s.ar p.f1).f0 || p.f0.f1 == (rd_Arm s.ar p.f1).f0))) (by rfl) (fun W hp => (by kernel_rfl)) ?_
            refine sxq_nil ?_
            refine treeI_fin ?_
            refine sx_nil ?_
            refine ex_then_n ?_
            refine sx_cond (!(p.f0.f0 == (rd_Arm s.ar p.f1).f0 || p.f0.f1 == (rd_Arm s.ar p.f1).f0)) (by rfl) (fun c_40 => ?_) (fun c_40 => ?_)
            ·
              refine wp_seq ?_
              refine sx_region ?_
              refine sx_rd 4 (.bool false) (by rfl) (by kernel_rfl) ?_
              refine sx_nil ?_
              refine ex_then_n ?_
              refine wp_ret ?_
              refine ex_then_r ?_
              refine sx_end (.bool false) (res1 4 (by rfl)) ?_
              have hc : spCan s p = false := by revert c_6 c_9 c_16 c_17 c_34 c_40; simp +contextual [Bool.not_true, spCan, -List.length_eq_zero_iff] <;> (intros; omega)
              exact ⟨s, _, _, _, _, _, _, by rw [hc], by rw [hc]; rfl, (hp.take [2, 3, 4] 5 (by decide) (by simp))⟩
            ·
              refine wp_skip ?_
              refine ex_then_n ?_
              refine wp_seq ?_
              refine sx_drawT [0, 1, 2, 3] (.rd 4 (.rd 5 (.alt 6 (.fin) .non))) 7 (C := Hp w0 (blk g_3 #[.int .i64 p.f0.f0, .int .i64 p.f0.f1] 34 :: blk g_1 #[.int .i64 p.f0.f0, .int .i64 p.f0.f1, .int .i64 p.f1] 36 :: blk g #[.slice A1 s.ar.length c1, .slice A2 s.ti.length c2, .int .i64 s.sp, .bool s.w0, .bool s.w1] 55 :: row k72 72 b (.slice A1 s.ar.length c1) s.ar F1 :: row k34 34 b (.slice A2 s.ti.length c2) s.ti F2 :: cs)) (by kernel_rfl) (by kernel_rfl) (fun d _ _ _ _ h => by cases d <;> exact h) (fun W h => h.drew) hp ?_
              refine preI_read rfl ?_
              refine sxq_val 90 (.pointer (some ⟨g, 0, none⟩)) (by rfl) (fun W _ => (by kernel_rfl)) ?_
              refine sxq_nil ?_
              refine preI_read rfl ?_
              refine sxq_val 91 (.pointer (some ⟨g, 0, none⟩)) (by rfl) (fun W _ => (by kernel_rfl)) ?_
              refine sxq_nil ?_
              refine preI_read rfl ?_
              refine sxq_val 92 (.pointer (some ⟨g, 0, none⟩)) (by rfl) (fun W _ => (by kernel_rfl)) ?_
              refine sxq_nil ?_
              refine preI_read rfl ?_
              refine sxq_val 93 (.pointer (some ⟨g, 1, none⟩)) (by rfl) (fun W _ => (by kernel_rfl)) ?_
              refine sxq_nil ?_
              refine preI_nil ?_
              intro W_41 hp
              refine treeI_rd rfl ?_
              refine sxq_val 94 (.slice A2 s.ti.length c2) (by rfl) (fun W hp => (ld1 (t := 52) (p := (.tmp 93)) (by rfl) (by rfl) (by kernel_rfl) (hp.cell 2 (by rfl) 1 _ (by rfl)))) ?_
              refine sxq_nil ?_
              refine treeI_rd rfl ?_
              refine sxq_val 95 (.agg #[.int .i64 p.f0.f0, .int .i64 p.f0.f1]) (by rfl) (fun W hp => (ldn (t := 34) (p := (.tmp 5)) (by rfl) (by rfl) (by kernel_rfl) (by kernel_rfl) (by kernel_rfl) (hp.at_ 0 _ (by rfl)))) ?_
              refine sxq_nil ?_
              refine treeI_ev rfl ?_
              refine sx_lit 96 (by rfl) k34 b 34 ([p.f0]) [.int .i64 p.f0.f0, .int .i64 p.f0.f1] (fun W => by kernel_rfl) (tile_reps _ _ _) (by simp) (Nat.le_trans hb0 hp.size) hp ?_
              intro g_42 F_43 W_44 hp hz; clear hz
              refine step_fin hp.tail ?_
              refine treeI_fin ?_
              refine tail_of [7, 8, 9, 10] (by rfl) ?_
              refine tailI_op rfl ?_
              refine sx_append 97 (by rfl) k34 5 (by rfl) (.agg #[.int .i64 0, .int .i64 0]) 16 (by rfl) Tryd.underlying52 (by kernel_rfl) rfl (by decide) (by decide) ([p.f0]) (by rfl) (by rfl) (row_C (hp.at_ 0 _ (by rfl))) tile_kp (Nat.le_trans hb0 hp.size) (by simp; omega) hp ?_
              intro A_45 c_46 F_47 W_48 hp hz; clear hz; simp only [List.set_cons_succ, List.set_cons_zero] at hp
              refine tailI_next ?_
              refine tailI_op rfl ?_
              refine sx_rd 98 (.pointer (some ⟨g, 0, none⟩)) (by rfl) (by kernel_rfl) ?_
              refine tailI_next ?_
              refine tailI_op rfl ?_
              refine sx_rd 99 (.pointer (some ⟨g, 1, none⟩)) (by rfl) (by kernel_rfl) ?_
              refine tailI_next ?_
              refine tailI_op rfl ?_
              refine sx_store (t := 52) (p := (.tmp 99)) (x := (.tmp 97)) (by rfl) (by rfl) 3 (by rfl) 1 [.slice A_45 ((s.ti ++ [p.f0]).length) c_46] (by rfl) (by rfl) (by kernel_rfl) (by simp [Value.oneCell']) (by show 2 ≤ 5; omega) #[.slice A1 s.ar.length c1, .slice A_45 ((s.ti ++ [p.f0]).length) c_46, .int .i64 s.sp, .bool s.w0, .bool s.w1] (by rfl) hp ?_
              intro W_49 hp; simp only [List.set_cons_succ, List.set_cons_zero] at hp
              refine tailI_next ?_
              refine tailI_nil ?_
              refine ex_then_n ?_
              refine wp_seq ?_
              refine sx_drawT [0, 1, 2, 4, 7, 8, 9, 11] (.rd 3 (.rd 5 (.rd 6 (.rd 10 (.rd 12 (.rd 13 (.rd 14 (.rd 15 (.rd 17 (.alt 16 (.alt 18 (.rd 19 (.rd 20 (.fin))) .non) .non)))))))))) 21 (C := Hp w0 (row k34 34 b (.slice (some ⟨g_42, 0, none⟩) ([p.f0].length) ([p.f0].length)) ([p.f0]) F_43 :: blk g_3 #[.int .i64 p.f0.f0, .int .i64 p.f0.f1] 34 :: blk g_1 #[.int .i64 p.f0.f0, .int .i64 p.f0.f1, .int .i64 p.f1] 36 :: blk g #[.slice A1 s.ar.length c1, .slice A_45 ((s.ti ++ [p.f0]).length) c_46, .int .i64 s.sp, .bool s.w0, .bool s.w1] 55 :: row k72 72 b (.slice A1 s.ar.length c1) s.ar F1 :: row k34 34 b (.slice A_45 ((s.ti ++ [p.f0]).length) c_46) (s.ti ++ [p.f0]) F_47 :: cs)) (by kernel_rfl) (by kernel_rfl) (fun d _ _ _ _ h => by cases d <;> exact h) (fun W h => h.drew) hp ?_
              refine preI_read rfl ?_
              refine sxq_val 100 (.pointer (some ⟨g, 0, none⟩)) (by rfl) (fun W _ => (by kernel_rfl)) ?_
              refine sxq_nil ?_
              refine preI_read rfl ?_
              refine sxq_val 101 (.pointer (some ⟨g, 0, none⟩)) (by rfl) (fun W _ => (by kernel_rfl)) ?_
              refine sxq_nil ?_
              refine preI_read rfl ?_
              refine sxq_val 102 (.pointer (some ⟨g, 0, none⟩)) (by rfl) (fun W _ => (by kernel_rfl)) ?_
              refine sxq_nil ?_
              refine preI_read rfl ?_
              refine sxq_val 104 (.pointer (some ⟨g_1, 2, none⟩)) (by rfl) (fun W _ => (by kernel_rfl)) ?_
              refine sxq_nil ?_
              refine preI_read rfl ?_
              refine sxq_val 107 (.pointer (some ⟨g, 0, none⟩)) (by rfl) (fun W _ => (by kernel_rfl)) ?_
              refine sxq_nil ?_
              refine preI_read rfl ?_
              refine sxq_val 108 (.pointer (some ⟨g, 0, none⟩)) (by rfl) (fun W _ => (by kernel_rfl)) ?_
              refine sxq_nil ?_
              refine preI_read rfl ?_
              refine sxq_val 109 (.pointer (some ⟨g, 0, none⟩)) (by rfl) (fun W _ => (by kernel_rfl)) ?_
              refine sxq_nil ?_
              refine preI_read rfl ?_
              refine sxq_val 111 (.pointer (some ⟨g_1, 2, none⟩)) (by rfl) (fun W _ => (by kernel_rfl)) ?_
              refine sxq_nil ?_
              refine preI_nil ?_
              intro W_50 hp
              refine treeI_rd rfl ?_
              refine sxq_val 103 (.slice A1 s.ar.length c1) (by rfl) (fun W hp => (ld1 (t := 51) (p := (.tmp 102)) (by rfl) (by rfl) (by kernel_rfl) (hp.cell 3 (by rfl) 0 _ (by rfl)))) ?_
              refine sxq_nil ?_
              refine treeI_rd rfl ?_
              refine sxq_val 105 (.int .i64 p.f1) (by rfl) (fun W hp => (ld1 (t := 3) (p := (.tmp 104)) (by rfl) (by rfl) (by kernel_rfl) (hp.cell 2 (by rfl) 2 _ (by rfl)))) ?_
              refine sxq_nil ?_
              refine treeI_rd rfl ?_
              refine sxq_val 106 (.agg #[.int .i64 p.f0.f0, .int .i64 p.f0.f1]) (by rfl) (fun W hp => (ldn (t := 34) (p := (.tmp 5)) (by rfl) (by rfl) (by kernel_rfl) (by kernel_rfl) (by kernel_rfl) (hp.at_ 1 _ (by rfl)))) ?_
              refine sxq_nil ?_
              refine treeI_rd rfl ?_
              refine sxq_val 110 (.slice A1 s.ar.length c1) (by rfl) (fun W hp => (ld1 (t := 51) (p := (.tmp 109)) (by rfl) (by rfl) (by kernel_rfl) (hp.cell 3 (by rfl) 0 _ (by rfl)))) ?_
              refine sxq_nil ?_
              refine treeI_rd rfl ?_
              refine sxq_val 112 (.int .i64 p.f1) (by rfl) (fun W hp => (ld1 (t := 3) (p := (.tmp 111)) (by rfl) (by rfl) (by kernel_rfl) (hp.cell 2 (by rfl) 2 _ (by rfl)))) ?_
              refine sxq_nil ?_
              refine treeI_rd rfl ?_
              refine sxq_val 113 (.pointer (some (adr A1 p.f1 3))) (by rfl) (fun W hp => (ix_run (d := k72) (row_C (hp.at_ 4 _ (by rfl))) (t := 51) (by rfl) (by rfl) (by rfl) Tryd.underlying51 (by kernel_rfl) (by omega) (by omega))) ?_
              refine sxq_nil ?_
              refine treeI_rd rfl ?_
              refine sxq_val 114 (.pointer (some (adr A1 p.f1 3))) (by rfl) (fun W hp => (by kernel_rfl)) ?_
              refine sxq_nil ?_
              refine treeI_rd rfl ?_
              refine sxq_val 115 (.int .i64 ((rd_Arm s.ar p.f1).f0)) (by rfl) (fun W hp => (ld1 (t := 3) (p := (.tmp 114)) (by rfl) (by rfl) (by kernel_rfl) (el_cell (d := k72) (row_C (hp.at_ 4 _ (by rfl))) z72 p.f1 (by omega) (by omega) (cells := [.int .i64 ((rd_Arm s.ar p.f1).f0), .bool ((rd_Arm s.ar p.f1).f1), .bool ((rd_Arm s.ar p.f1).f2)]) (fun cs h => k72_open h) 0 _ (by rfl)))) ?_
              refine sxq_nil ?_
              refine treeI_rd rfl ?_
              refine sxq_val 117 (.agg #[.int .i64 p.f0.f0, .int .i64 p.f0.f1]) (by rfl) (fun W hp => (ldn (t := 34) (p := (.tmp 5)) (by rfl) (by rfl) (by kernel_rfl) (by kernel_rfl) (by kernel_rfl) (hp.at_ 1 _ (by rfl)))) ?_
              refine sxq_nil ?_
              refine treeI_ev rfl ?_
              refine sx_call 116 (by rfl) (by kernel_rfl) ((other_c p.f0 ((rd_Arm s.ar p.f1).f0) _ (not_eq c_6) (not_eq c_40)).mono ?_)
              rintro _ W_51 ⟨rfl, hb⟩
              refine ⟨_, rfl, ?_⟩
              replace hp := hp.below hb
              clear hb
              refine step_fin hp ?_
              refine treeI_ev rfl ?_
              refine sx_call 118 (by rfl) (by kernel_rfl) ((isDouble_c p.f0 _).mono ?_)
              rintro _ W_52 ⟨rfl, hb⟩
              refine ⟨_, rfl, ?_⟩
              replace hp := hp.below hb
              clear hb
              refine step_fin hp ?_
              refine treeI_rd rfl ?_
              refine sxq_val 119 (.agg #[.int .i64 (p.f0.f0 + p.f0.f1 - (rd_Arm s.ar p.f1).f0), .bool (p.f0.f0 == p.f0.f1), .bool false]) (by rfl) (fun W hp => (by kernel_rfl)) ?_
              refine sxq_nil ?_
              refine treeI_rd rfl ?_
              refine sxq_val 120 (.pointer (some (adr A1 p.f1 3))) (by rfl) (fun W hp => (ix_run (d := k72) (row_C (hp.at_ 4 _ (by rfl))) (t := 51) (by rfl) (by rfl) (by rfl) Tryd.underlying51 (by kernel_rfl) (by omega) (by omega))) ?_
              refine sxq_nil ?_
              refine treeI_fin ?_
              refine tail_of [21] (by rfl) ?_
              refine tailI_op rfl ?_
              obtain ⟨g_53, rfl⟩ := row_form (hp.at_ 4 _ (by rfl)) (by omega)
              refine sx_rowstore (t := 72) (p := (.tmp 120)) (x := (.tmp 119)) (by rfl) (by rfl) 4 k72 (by rfl) p.f1 (⟨(p.f0.f0 + p.f0.f1 - (rd_Arm s.ar p.f1).f0), (p.f0.f0 == p.f0.f1), false⟩ : S_Arm) [.int .i64 (p.f0.f0 + p.f0.f1 - (rd_Arm s.ar p.f1).f0), .bool (p.f0.f0 == p.f0.f1), .bool false] (by rfl) (by rfl) (by kernel_rfl) (by simp [Value.oneCell']) (by rfl) (by omega) (by omega) z72 (fun _ => (k72_mkM _ _ _ _)) hp ?_
              intro F_54 W_55 hp; simp only [List.set_cons_succ, List.set_cons_zero] at hp
              refine tailI_next ?_
              refine tailI_nil ?_
              refine ex_then_n ?_
              refine sx_cut (fun a_ W => ∃ (r_ : List (Nat × Value)) (w0' w1' : Bool) (ar' : List S_Arm) (A' : Option Addr) (n' c' : Nat) (F' : Nat → Prop), a_ = fr 184 ([(0, .pointer (some ⟨g, 0, none⟩)), (3, .pointer (some ⟨g_1, 0, none⟩)), (5, .pointer (some ⟨g_3, 0, none⟩))] ++ r_) ∧ Hp w0 (blk g_3 #[.int .i64 p.f0.f0, .int .i64 p.f0.f1] 34 :: blk g_1 #[.int .i64 p.f0.f0, .int .i64 p.f0.f1, .int .i64 p.f1] 36 :: blk g #[.slice A' n' c', .slice A_45 ((s.ti ++ [p.f0]).length) c_46, .int .i64 s.sp, .bool w0', .bool w1'] 55 :: row k72 72 b (.slice A' n' c') ar' F' :: row k34 34 b (.slice A_45 ((s.ti ++ [p.f0]).length) c_46) (s.ti ++ [p.f0]) F_47 :: cs) W ∧ (w0' = (s.w0 && !(spHit s p.f1 && p.f1 == 0))) ∧ (w1' = (s.w1 && !(spHit s p.f1 && !(p.f1 == 0)))) ∧ (ar' = if (spHit s p.f1 && !w0' && !w1') = true then (s.ar.set (p.f1).toNat (⟨(p.f0.f0 + p.f0.f1 - (rd_Arm s.ar p.f1).f0), (p.f0.f0 == p.f0.f1), false⟩ : S_Arm)) ++ [(⟨s.sp, false, true⟩ : S_Arm), ⟨s.sp, false, true⟩] else (s.ar.set (p.f1).toNat (⟨(p.f0.f0 + p.f0.f1 - (rd_Arm s.ar p.f1).f0), (p.f0.f0 == p.f0.f1), false⟩ : S_Arm))) ∧ (n' = ar'.length)) ?_ ?_
              ·
                refine wp_seq ?_
                rcases Bool.eq_false_or_eq_true (decide (p.f1 < 2)) with c_56 | c_56
                ·
                  have c_56p := of_decide_eq_true c_56
                  have c_57 : p.f1 = ((0 : Nat) : Int) ∨ p.f1 = ((1 : Nat) : Int) := by omega
                  rcases c_57 with c_57 | c_57
                  ·
                    refine sx_drawT [0] (.rd 1 (.rd 2 (.rd 3 (.rd 4 (.rd 5 (.rd 6 (.rd 7 (.rd 8 (.rd 9 (.rd 10 (.rd 11 (.fin)))))))))))) 12 (C := Hp w0 (row k34 34 b (.slice (some ⟨g_42, 0, none⟩) ([p.f0].length) ([p.f0].length)) ([p.f0]) F_43 :: blk g_3 #[.int .i64 p.f0.f0, .int .i64 p.f0.f1] 34 :: blk g_1 #[.int .i64 p.f0.f0, .int .i64 p.f0.f1, .int .i64 p.f1] 36 :: blk g #[.slice (some ⟨g_53, 0, none⟩) s.ar.length c1, .slice A_45 ((s.ti ++ [p.f0]).length) c_46, .int .i64 s.sp, .bool s.w0, .bool s.w1] 55 :: row k72 72 b (.slice (some ⟨g_53, 0, none⟩) s.ar.length c1) (s.ar.set (p.f1).toNat (⟨(p.f0.f0 + p.f0.f1 - (rd_Arm s.ar p.f1).f0), (p.f0.f0 == p.f0.f1), false⟩ : S_Arm)) F_54 :: row k34 34 b (.slice A_45 ((s.ti ++ [p.f0]).length) c_46) (s.ti ++ [p.f0]) F_47 :: cs)) (by kernel_rfl) (by kernel_rfl) (fun d _ _ _ _ h => by cases d <;> exact h) (fun W h => h.drew) hp ?_
                    refine preI_read rfl ?_
                    refine sxq_val 121 (.pointer (some ⟨g_1, 2, none⟩)) (by rfl) (fun W _ => (by kernel_rfl)) ?_
                    refine sxq_nil ?_
                    refine preI_nil ?_
                    intro W_58 hp
                    refine treeI_rd rfl ?_
                    refine sxq_val 122 (.int .i64 p.f1) (by rfl) (fun W hp => (ld1 (t := 3) (p := (.tmp 121)) (by rfl) (by rfl) (by kernel_rfl) (hp.cell 2 (by rfl) 2 _ (by rfl)))) ?_
                    refine sxq_nil ?_
                    refine treeI_rd rfl ?_
                    refine sxq_val 123 (.bool true) (by rfl) (fun W hp => (bv c_56 (by kernel_rfl))) ?_
                    refine sxq_nil ?_
                    refine treeI_rd rfl ?_
                    refine sxq_val 124 (.bool true) (by rfl) (fun W hp => (by kernel_rfl)) ?_
                    refine sxq_nil ?_
                    refine treeI_rd rfl ?_
                    refine sxq_want (by rfl) ?_
                    refine sxq_val 125 (.pointer (some ⟨g, 0, none⟩)) (by rfl) (fun W hp => (by kernel_rfl)) ?_
                    refine sxq_nil ?_
                    refine treeI_rd rfl ?_
                    refine sxq_want (by rfl) ?_
                    refine sxq_val 126 (.pointer (some ⟨g_1, 2, none⟩)) (by rfl) (fun W hp => (by kernel_rfl)) ?_
                    refine sxq_nil ?_
                    refine treeI_rd rfl ?_
                    refine sxq_want (by rfl) ?_
                    refine sxq_val 127 (.int .i64 p.f1) (by rfl) (fun W hp => (ld1 (t := 3) (p := (.tmp 126)) (by rfl) (by rfl) (by kernel_rfl) (hp.cell 2 (by rfl) 2 _ (by rfl)))) ?_
                    refine sxq_nil ?_
                    refine treeI_rd rfl ?_
                    refine sxq_want (by rfl) ?_
                    refine sxq_val 128 (.pointer (some ⟨g, 0, none⟩)) (by rfl) (fun W hp => (by kernel_rfl)) ?_
                    refine sxq_nil ?_
                    refine treeI_rd rfl ?_
                    refine sxq_want (by rfl) ?_
                    refine sxq_val 129 (.pointer (some ⟨g, 3, none⟩)) (by rfl) (fun W hp => (by kernel_rfl)) ?_
                    refine sxq_nil ?_
                    refine treeI_rd rfl ?_
                    refine sxq_want (by rfl) ?_
                    refine sxq_val 130 (.pointer (some ⟨g, 3, none⟩)) (by rfl) (fun W hp => (ixa_run 0 (t := 53) (by rfl) (by rfl) (by rfl) c_57 Tryd.underlying53 (by decide) (by decide) 1 (by kernel_rfl))) ?_
                    refine sxq_nil ?_
                    refine treeI_rd rfl ?_
                    refine sxq_want (by rfl) ?_
                    refine sxq_val 131 (.bool s.w0) (by rfl) (fun W hp => (ld1 (t := 4) (p := (.tmp 130)) (by rfl) (by rfl) (by kernel_rfl) (hp.cell 3 (by rfl) 3 _ (by rfl)))) ?_
                    refine sxq_nil ?_
                    refine treeI_rd rfl ?_
                    refine sxq_val 132 (.bool s.w0) (by rfl) (fun W hp => (by kernel_rfl)) ?_
                    refine sxq_nil ?_
                    refine treeI_fin ?_
                    refine sx_nil ?_
                    refine ex_then_n ?_
                    refine sx_cond s.w0 (by rfl) (fun c_59 => ?_) (fun c_59 => ?_)
                    ·
                      refine wp_seq ?_
                      refine sx_drawT [0, 1, 3, 4] (.rd 2 (.rd 5 (.fin))) 6 (C := Hp w0 (row k34 34 b (.slice (some ⟨g_42, 0, none⟩) ([p.f0].length) ([p.f0].length)) ([p.f0]) F_43 :: blk g_3 #[.int .i64 p.f0.f0, .int .i64 p.f0.f1] 34 :: blk g_1 #[.int .i64 p.f0.f0, .int .i64 p.f0.f1, .int .i64 p.f1] 36 :: blk g #[.slice (some ⟨g_53, 0, none⟩) s.ar.length c1, .slice A_45 ((s.ti ++ [p.f0]).length) c_46, .int .i64 s.sp, .bool s.w0, .bool s.w1] 55 :: row k72 72 b (.slice (some ⟨g_53, 0, none⟩) s.ar.length c1) (s.ar.set (p.f1).toNat (⟨(p.f0.f0 + p.f0.f1 - (rd_Arm s.ar p.f1).f0), (p.f0.f0 == p.f0.f1), false⟩ : S_Arm)) F_54 :: row k34 34 b (.slice A_45 ((s.ti ++ [p.f0]).length) c_46) (s.ti ++ [p.f0]) F_47 :: cs)) (by kernel_rfl) (by kernel_rfl) (fun d _ _ _ _ h => by cases d <;> exact h) (fun W h => h.drew) hp ?_
                      refine preI_read rfl ?_
                      refine sxq_val 133 (.pointer (some ⟨g, 0, none⟩)) (by rfl) (fun W _ => (by kernel_rfl)) ?_
                      refine sxq_nil ?_
                      refine preI_read rfl ?_
                      refine sxq_val 134 (.pointer (some ⟨g_1, 2, none⟩)) (by rfl) (fun W _ => (by kernel_rfl)) ?_
                      refine sxq_nil ?_
                      refine preI_read rfl ?_
                      refine sxq_val 136 (.pointer (some ⟨g, 0, none⟩)) (by rfl) (fun W _ => (by kernel_rfl)) ?_
                      refine sxq_nil ?_
                      refine preI_read rfl ?_
                      refine sxq_val 137 (.pointer (some ⟨g, 3, none⟩)) (by rfl) (fun W _ => (by kernel_rfl)) ?_
                      refine sxq_nil ?_
                      refine preI_nil ?_
                      intro W_60 hp
                      refine treeI_rd rfl ?_
                      refine sxq_val 135 (.int .i64 p.f1) (by rfl) (fun W hp => (ld1 (t := 3) (p := (.tmp 134)) (by rfl) (by rfl) (by kernel_rfl) (hp.cell 2 (by rfl) 2 _ (by rfl)))) ?_
                      refine sxq_nil ?_
                      refine treeI_rd rfl ?_
                      refine sxq_val 138 (.pointer (some ⟨g, 3, none⟩)) (by rfl) (fun W hp => (ixa_run 0 (t := 53) (by rfl) (by rfl) (by rfl) c_57 Tryd.underlying53 (by decide) (by decide) 1 (by kernel_rfl))) ?_
                      refine sxq_nil ?_
                      refine treeI_fin ?_
                      refine tail_of [6] (by rfl) ?_
                      refine tailI_op rfl ?_
                      refine sx_store (t := 4) (p := (.tmp 138)) (x := (.const (Go.Value.bool false))) (by rfl) (by rfl) 3 (by rfl) 3 [.bool false] (by rfl) (by rfl) (by kernel_rfl) (by simp [Value.oneCell']) (by show 4 ≤ 5; omega) #[.slice (some ⟨g_53, 0, none⟩) s.ar.length c1, .slice A_45 ((s.ti ++ [p.f0]).length) c_46, .int .i64 s.sp, .bool false, .bool s.w1] (by rfl) hp ?_
                      intro W_61 hp; simp only [List.set_cons_succ, List.set_cons_zero] at hp
                      refine tailI_next ?_
                      refine tailI_nil ?_
                      refine ex_then_n ?_
                      refine wp_seq ?_
                      rcases Bool.eq_false_or_eq_true s.w1 with c_62 | c_62
                      ·
                        refine sx_region ?_
                        refine sx_rd 139 (.pointer (some ⟨g, 0, none⟩)) (by rfl) (by kernel_rfl) ?_
                        refine sx_rd 140 (.pointer (some ⟨g, 0, none⟩)) (by rfl) (by kernel_rfl) ?_
                        refine sx_rd 141 (.pointer (some ⟨g, 3, none⟩)) (by rfl) (by kernel_rfl) ?_
                        refine sx_rd 142 (.agg #[.bool false, .bool s.w1]) (by rfl) (ldn (t := 53) (p := (.tmp 141)) (by rfl) (by rfl) (by kernel_rfl) (by kernel_rfl) (by kernel_rfl) (hp.at_ 3 _ (by rfl))) ?_
                        refine sx_rd 143 (.agg #[.bool false, .bool false]) (by rfl) (by kernel_rfl) ?_
                        refine sx_rd 144 (.bool false) (by rfl) (by rw [c_62]; kernel_rfl) ?_
                        refine sx_nil ?_
                        refine ex_then_n ?_
                        refine sx_else false (by rfl) rfl ?_
                        refine wp_skip ?_
                        refine ex_then_n ?_
                        exact ⟨_, false, s.w1, (s.ar.set (p.f1).toNat (⟨(p.f0.f0 + p.f0.f1 - (rd_Arm s.ar p.f1).f0), (p.f0.f0 == p.f0.f1), false⟩ : S_Arm)), _, _, _, _, fr_front [(0, .pointer (some ⟨g, 0, none⟩)), (3, .pointer (some ⟨g_1, 0, none⟩)), (5, .pointer (some ⟨g_3, 0, none⟩))] ⟨rfl, rfl, rfl, trivial⟩, (hp.take [1, 2, 3, 4, 5] 6 (by decide) (by simp)), by revert c_6 c_9 c_16 c_17 c_34 c_40 c_56 c_57 c_59 c_62; simp +contextual [Bool.not_true, spHit, -List.length_eq_zero_iff] <;> (intros; omega), by revert c_6 c_9 c_16 c_17 c_34 c_40 c_56 c_57 c_59 c_62; simp +contextual [Bool.not_true, spHit, -List.length_eq_zero_iff] <;> (intros; omega), by revert c_6 c_9 c_16 c_17 c_34 c_40 c_56 c_57 c_59 c_62; simp +contextual [Bool.not_true, spHit, -List.length_eq_zero_iff] <;> (intros; omega), by simp⟩
                      ·
                        refine sx_region ?_
                        refine sx_rd 139 (.pointer (some ⟨g, 0, none⟩)) (by rfl) (by kernel_rfl) ?_
                        refine sx_rd 140 (.pointer (some ⟨g, 0, none⟩)) (by rfl) (by kernel_rfl) ?_
                        refine sx_rd 141 (.pointer (some ⟨g, 3, none⟩)) (by rfl) (by kernel_rfl) ?_
                        refine sx_rd 142 (.agg #[.bool false, .bool s.w1]) (by rfl) (ldn (t := 53) (p := (.tmp 141)) (by rfl) (by rfl) (by kernel_rfl) (by kernel_rfl) (by kernel_rfl) (hp.at_ 3 _ (by rfl))) ?_
                        refine sx_rd 143 (.agg #[.bool false, .bool false]) (by rfl) (by kernel_rfl) ?_
                        refine sx_rd 144 (.bool true) (by rfl) (by rw [c_62]; kernel_rfl) ?_
                        refine sx_nil ?_
                        refine ex_then_n ?_
                        refine sx_then true (by rfl) rfl ?_
                        refine sx_drawT [0, 1, 2, 3, 5, 6, 7, 10, 11, 12] (.rd 4 (.rd 8 (.rd 9 (.rd 13 (.rd 14 (.alt 15 (.fin) .non)))))) 16 (C := Hp w0 (row k34 34 b (.slice (some ⟨g_42, 0, none⟩) ([p.f0].length) ([p.f0].length)) ([p.f0]) F_43 :: blk g_3 #[.int .i64 p.f0.f0, .int .i64 p.f0.f1] 34 :: blk g_1 #[.int .i64 p.f0.f0, .int .i64 p.f0.f1, .int .i64 p.f1] 36 :: blk g #[.slice (some ⟨g_53, 0, none⟩) s.ar.length c1, .slice A_45 ((s.ti ++ [p.f0]).length) c_46, .int .i64 s.sp, .bool false, .bool s.w1] 55 :: row k72 72 b (.slice (some ⟨g_53, 0, none⟩) s.ar.length c1) (s.ar.set (p.f1).toNat (⟨(p.f0.f0 + p.f0.f1 - (rd_Arm s.ar p.f1).f0), (p.f0.f0 == p.f0.f1), false⟩ : S_Arm)) F_54 :: row k34 34 b (.slice A_45 ((s.ti ++ [p.f0]).length) c_46) (s.ti ++ [p.f0]) F_47 :: cs)) (by kernel_rfl) (by kernel_rfl) (fun d _ _ _ _ h => by cases d <;> exact h) (fun W h => h.drew) hp ?_
                        refine preI_read rfl ?_
                        refine sxq_val 145 (.pointer (some ⟨g, 0, none⟩)) (by rfl) (fun W _ => (by kernel_rfl)) ?_
                        refine sxq_nil ?_
                        refine preI_read rfl ?_
                        refine sxq_val 146 (.pointer (some ⟨g, 0, none⟩)) (by rfl) (fun W _ => (by kernel_rfl)) ?_
                        refine sxq_nil ?_
                        refine preI_read rfl ?_
                        refine sxq_val 147 (.pointer (some ⟨g, 0, none⟩)) (by rfl) (fun W _ => (by kernel_rfl)) ?_
                        refine sxq_nil ?_
                        refine preI_read rfl ?_
                        refine sxq_val 148 (.pointer (some ⟨g, 0, none⟩)) (by rfl) (fun W _ => (by kernel_rfl)) ?_
                        refine sxq_nil ?_
                        refine preI_read rfl ?_
                        refine sxq_val 150 (.pointer (some ⟨g, 0, none⟩)) (by rfl) (fun W _ => (by kernel_rfl)) ?_
                        refine sxq_nil ?_
                        refine preI_read rfl ?_
                        refine sxq_val 151 (.pointer (some ⟨g, 0, none⟩)) (by rfl) (fun W _ => (by kernel_rfl)) ?_
                        refine sxq_nil ?_
                        refine preI_read rfl ?_
                        refine sxq_val 152 (.pointer (some ⟨g, 2, none⟩)) (by rfl) (fun W _ => (by kernel_rfl)) ?_
                        refine sxq_nil ?_
                        refine preI_read rfl ?_
                        refine sxq_val 155 (.pointer (some ⟨g, 0, none⟩)) (by rfl) (fun W _ => (by kernel_rfl)) ?_
                        refine sxq_nil ?_
                        refine preI_read rfl ?_
                        refine sxq_val 156 (.pointer (some ⟨g, 0, none⟩)) (by rfl) (fun W _ => (by kernel_rfl)) ?_
                        refine sxq_nil ?_
                        refine preI_read rfl ?_
                        refine sxq_val 157 (.pointer (some ⟨g, 2, none⟩)) (by rfl) (fun W _ => (by kernel_rfl)) ?_
                        refine sxq_nil ?_
                        refine preI_nil ?_
                        intro W_63 hp
                        refine treeI_rd rfl ?_
                        refine sxq_val 149 (.slice (some ⟨g_53, 0, none⟩) s.ar.length c1) (by rfl) (fun W hp => (ld1 (t := 51) (p := (.tmp 148)) (by rfl) (by rfl) (by kernel_rfl) (hp.cell 3 (by rfl) 0 _ (by rfl)))) ?_
                        refine sxq_nil ?_
                        refine treeI_rd rfl ?_
                        refine sxq_val 153 (.int .i64 s.sp) (by rfl) (fun W hp => (ld1 (t := 3) (p := (.tmp 152)) (by rfl) (by rfl) (by kernel_rfl) (hp.cell 3 (by rfl) 2 _ (by rfl)))) ?_
                        refine sxq_nil ?_
                        refine treeI_rd rfl ?_
                        refine sxq_val 154 (.agg #[.int .i64 s.sp, .bool false, .bool true]) (by rfl) (fun W hp => (by kernel_rfl)) ?_
                        refine sxq_nil ?_
                        refine treeI_rd rfl ?_
                        refine sxq_val 158 (.int .i64 s.sp) (by rfl) (fun W hp => (ld1 (t := 3) (p := (.tmp 157)) (by rfl) (by rfl) (by kernel_rfl) (hp.cell 3 (by rfl) 2 _ (by rfl)))) ?_
                        refine sxq_nil ?_
                        refine treeI_rd rfl ?_
                        refine sxq_val 159 (.agg #[.int .i64 s.sp, .bool false, .bool true]) (by rfl) (fun W hp => (by kernel_rfl)) ?_
                        refine sxq_nil ?_
                        refine treeI_ev rfl ?_
                        refine sx_lit 160 (by rfl) k72 b 72 ([(⟨s.sp, false, true⟩ : S_Arm), (⟨s.sp, false, true⟩ : S_Arm)]) [.int .i64 s.sp, .bool false, .bool true, .int .i64 s.sp, .bool false, .bool true] (fun W => by kernel_rfl) (arm_reps _ _ _) (by simp) (Nat.le_trans hb0 hp.size) hp ?_
                        intro g_64 F_65 W_66 hp hz; clear hz
                        refine step_fin hp.tail ?_
                        refine treeI_fin ?_
                        refine tail_of [16, 17, 18, 19] (by rfl) ?_
                        refine tailI_op rfl ?_
                        refine sx_append 161 (by rfl) k72 5 (by rfl) (.agg #[.int .i64 0, .bool false, .bool false]) 16 (by rfl) Tryd.underlying51 (by kernel_rfl) rfl (by decide) (by decide) ([(⟨s.sp, false, true⟩ : S_Arm), (⟨s.sp, false, true⟩ : S_Arm)]) (by rfl) (by rfl) (row_C (hp.at_ 0 _ (by rfl))) arm_kp (Nat.le_trans hb0 hp.size) (by simp; omega) hp ?_
                        intro A_67 c_68 F_69 W_70 hp hz; clear hz; simp only [List.set_cons_succ, List.set_cons_zero] at hp
                        refine tailI_next ?_
                        refine tailI_op rfl ?_
                        refine sx_rd 162 (.pointer (some ⟨g, 0, none⟩)) (by rfl) (by kernel_rfl) ?_
                        refine tailI_next ?_
                        refine tailI_op rfl ?_
                        refine sx_rd 163 (.pointer (some ⟨g, 0, none⟩)) (by rfl) (by kernel_rfl) ?_
                        refine tailI_next ?_
                        refine tailI_op rfl ?_
                        refine sx_store (t := 51) (p := (.tmp 163)) (x := (.tmp 161)) (by rfl) (by rfl) 4 (by rfl) 0 [.slice A_67 (((s.ar.set (p.f1).toNat (⟨(p.f0.f0 + p.f0.f1 - (rd_Arm s.ar p.f1).f0), (p.f0.f0 == p.f0.f1), false⟩ : S_Arm)) ++ [(⟨s.sp, false, true⟩ : S_Arm), (⟨s.sp, false, true⟩ : S_Arm)]).length) c_68] (by rfl) (by rfl) (by kernel_rfl) (by simp [Value.oneCell']) (by show 1 ≤ 5; omega) #[.slice A_67 (((s.ar.set (p.f1).toNat (⟨(p.f0.f0 + p.f0.f1 - (rd_Arm s.ar p.f1).f0), (p.f0.f0 == p.f0.f1), false⟩ : S_Arm)) ++ [(⟨s.sp, false, true⟩ : S_Arm), (⟨s.sp, false, true⟩ : S_Arm)]).length) c_68, .slice A_45 ((s.ti ++ [p.f0]).length) c_46, .int .i64 s.sp, .bool false, .bool s.w1] (by rfl) hp ?_
                        intro W_71 hp; simp only [List.set_cons_succ, List.set_cons_zero] at hp
                        refine tailI_next ?_
                        refine tailI_nil ?_
                        refine ex_then_n ?_
                        exact ⟨_, false, s.w1, ((s.ar.set (p.f1).toNat (⟨(p.f0.f0 + p.f0.f1 - (rd_Arm s.ar p.f1).f0), (p.f0.f0 == p.f0.f1), false⟩ : S_Arm)) ++ [(⟨s.sp, false, true⟩ : S_Arm), (⟨s.sp, false, true⟩ : S_Arm)]), _, _, _, _, fr_front [(0, .pointer (some ⟨g, 0, none⟩)), (3, .pointer (some ⟨g_1, 0, none⟩)), (5, .pointer (some ⟨g_3, 0, none⟩))] ⟨rfl, rfl, rfl, trivial⟩, (hp.take [2, 3, 4, 5, 6] 7 (by decide) (by simp)), by revert c_6 c_9 c_16 c_17 c_34 c_40 c_56 c_57 c_59 c_62; simp +contextual [Bool.not_true, spHit, -List.length_eq_zero_iff] <;> (intros; omega), by revert c_6 c_9 c_16 c_17 c_34 c_40 c_56 c_57 c_59 c_62; simp +contextual [Bool.not_true, spHit, -List.length_eq_zero_iff] <;> (intros; omega), by revert c_6 c_9 c_16 c_17 c_34 c_40 c_56 c_57 c_59 c_62; simp +contextual [Bool.not_true, spHit, -List.length_eq_zero_iff] <;> (intros; omega), by simp⟩
                    ·
                      refine wp_skip ?_
                      refine ex_then_n ?_
                      exact ⟨_, s.w0, s.w1, (s.ar.set (p.f1).toNat (⟨(p.f0.f0 + p.f0.f1 - (rd_Arm s.ar p.f1).f0), (p.f0.f0 == p.f0.f1), false⟩ : S_Arm)), _, _, _, _, fr_front [(0, .pointer (some ⟨g, 0, none⟩)), (3, .pointer (some ⟨g_1, 0, none⟩)), (5, .pointer (some ⟨g_3, 0, none⟩))] ⟨rfl, rfl, rfl, trivial⟩, (hp.take [1, 2, 3, 4, 5] 6 (by decide) (by simp)), by revert c_6 c_9 c_16 c_17 c_34 c_40 c_56 c_57 c_59; simp +contextual [Bool.not_true, spHit, -List.length_eq_zero_iff] <;> (intros; omega), by revert c_6 c_9 c_16 c_17 c_34 c_40 c_56 c_57 c_59; simp +contextual [Bool.not_true, spHit, -List.length_eq_zero_iff] <;> (intros; omega), by revert c_6 c_9 c_16 c_17 c_34 c_40 c_56 c_57 c_59; simp +contextual [Bool.not_true, spHit, -List.length_eq_zero_iff] <;> (intros; omega), by simp⟩
                  ·
                    refine sx_drawT [0] (.rd 1 (.rd 2 (.rd 3 (.rd 4 (.rd 5 (.rd 6 (.rd 7 (.rd 8 (.rd 9 (.rd 10 (.rd 11 (.fin)))))))))))) 12 (C := Hp w0 (row k34 34 b (.slice (some ⟨g_42, 0, none⟩) ([p.f0].length) ([p.f0].length)) ([p.f0]) F_43 :: blk g_3 #[.int .i64 p.f0.f0, .int .i64 p.f0.f1] 34 :: blk g_1 #[.int .i64 p.f0.f0, .int .i64 p.f0.f1, .int .i64 p.f1] 36 :: blk g #[.slice (some ⟨g_53, 0, none⟩) s.ar.length c1, .slice A_45 ((s.ti ++ [p.f0]).length) c_46, .int .i64 s.sp, .bool s.w0, .bool s.w1] 55 :: row k72 72 b (.slice (some ⟨g_53, 0, none⟩) s.ar.length c1) (s.ar.set (p.f1).toNat (⟨(p.f0.f0 + p.f0.f1 - (rd_Arm s.ar p.f1).f0), (p.f0.f0 == p.f0.f1), false⟩ : S_Arm)) F_54 :: row k34 34 b (.slice A_45 ((s.ti ++ [p.f0]).length) c_46) (s.ti ++ [p.f0]) F_47 :: cs)) (by kernel_rfl) (by kernel_rfl) (fun d _ _ _ _ h => by cases d <;> exact h) (fun W h => h.drew) hp ?_
                    refine preI_read rfl ?_
                    refine sxq_val 121 (.pointer (some ⟨g_1, 2, none⟩)) (by rfl) (fun W _ => (by kernel_rfl)) ?_
                    refine sxq_nil ?_
                    refine preI_nil ?_
                    intro W_72 hp
                    refine treeI_rd rfl ?_
                    refine sxq_val 122 (.int .i64 p.f1) (by rfl) (fun W hp => (ld1 (t := 3) (p := (.tmp 121)) (by rfl) (by rfl) (by kernel_rfl) (hp.cell 2 (by rfl) 2 _ (by rfl)))) ?_
                    refine sxq_nil ?_
                    refine treeI_rd rfl ?_
                    refine sxq_val 123 (.bool true) (by rfl) (fun W hp => (bv c_56 (by kernel_rfl))) ?_
                    refine sxq_nil ?_
                    refine treeI_rd rfl ?_
                    refine sxq_val 124 (.bool true) (by rfl) (fun W hp => (by kernel_rfl)) ?_
                    refine sxq_nil ?_
                    refine treeI_rd rfl ?_
                    refine sxq_want (by rfl) ?_
                    refine sxq_val 125 (.pointer (some ⟨g, 0, none⟩)) (by rfl) (fun W hp => (by kernel_rfl)) ?_
                    refine sxq_nil ?_
                    refine treeI_rd rfl ?_
                    refine sxq_want (by rfl) ?_
                    refine sxq_val 126 (.pointer (some ⟨g_1, 2, none⟩)) (by rfl) (fun W hp => (by kernel_rfl)) ?_
                    refine sxq_nil ?_
                    refine treeI_rd rfl ?_
                    refine sxq_want (by rfl) ?_
                    refine sxq_val 127 (.int .i64 p.f1) (by rfl) (fun W hp => (ld1 (t := 3) (p := (.tmp 126)) (by rfl) (by rfl) (by kernel_rfl) (hp.cell 2 (by rfl) 2 _ (by rfl)))) ?_
                    refine sxq_nil ?_
                    refine treeI_rd rfl ?_
                    refine sxq_want (by rfl) ?_
                    refine sxq_val 128 (.pointer (some ⟨g, 0, none⟩)) (by rfl) (fun W hp => (by kernel_rfl)) ?_
                    refine sxq_nil ?_
                    refine treeI_rd rfl ?_
                    refine sxq_want (by rfl) ?_
                    refine sxq_val 129 (.pointer (some ⟨g, 3, none⟩)) (by rfl) (fun W hp => (by kernel_rfl)) ?_
                    refine sxq_nil ?_
                    refine treeI_rd rfl ?_
                    refine sxq_want (by rfl) ?_
                    refine sxq_val 130 (.pointer (some ⟨g, 4, none⟩)) (by rfl) (fun W hp => (ixa_run 1 (t := 53) (by rfl) (by rfl) (by rfl) c_57 Tryd.underlying53 (by decide) (by decide) 1 (by kernel_rfl))) ?_
                    refine sxq_nil ?_
                    refine treeI_rd rfl ?_
                    refine sxq_want (by rfl) ?_
                    refine sxq_val 131 (.bool s.w1) (by rfl) (fun W hp => (ld1 (t := 4) (p := (.tmp 130)) (by rfl) (by rfl) (by kernel_rfl) (hp.cell 3 (by rfl) 4 _ (by rfl)))) ?_
                    refine sxq_nil ?_
                    refine treeI_rd rfl ?_
                    refine sxq_val 132 (.bool s.w1) (by rfl) (fun W hp => (by kernel_rfl)) ?_
                    refine sxq_nil ?_
                    refine treeI_fin ?_
                    refine sx_nil ?_
                    refine ex_then_n ?_
                    refine sx_cond s.w1 (by rfl) (fun c_73 => ?_) (fun c_73 => ?_)
                    ·
                      refine wp_seq ?_
                      refine sx_drawT [0, 1, 3, 4] (.rd 2 (.rd 5 (.fin))) 6 (C := Hp w0 (row k34 34 b (.slice (some ⟨g_42, 0, none⟩) ([p.f0].length) ([p.f0].length)) ([p.f0]) F_43 :: blk g_3 #[.int .i64 p.f0.f0, .int .i64 p.f0.f1] 34 :: blk g_1 #[.int .i64 p.f0.f0, .int .i64 p.f0.f1, .int .i64 p.f1] 36 :: blk g #[.slice (some ⟨g_53, 0, none⟩) s.ar.length c1, .slice A_45 ((s.ti ++ [p.f0]).length) c_46, .int .i64 s.sp, .bool s.w0, .bool s.w1] 55 :: row k72 72 b (.slice (some ⟨g_53, 0, none⟩) s.ar.length c1) (s.ar.set (p.f1).toNat (⟨(p.f0.f0 + p.f0.f1 - (rd_Arm s.ar p.f1).f0), (p.f0.f0 == p.f0.f1), false⟩ : S_Arm)) F_54 :: row k34 34 b (.slice A_45 ((s.ti ++ [p.f0]).length) c_46) (s.ti ++ [p.f0]) F_47 :: cs)) (by kernel_rfl) (by kernel_rfl) (fun d _ _ _ _ h => by cases d <;> exact h) (fun W h => h.drew) hp ?_
                      refine preI_read rfl ?_
                      refine sxq_val 133 (.pointer (some ⟨g, 0, none⟩)) (by rfl) (fun W _ => (by kernel_rfl)) ?_
                      refine sxq_nil ?_
                      refine preI_read rfl ?_
                      refine sxq_val 134 (.pointer (some ⟨g_1, 2, none⟩)) (by rfl) (fun W _ => (by kernel_rfl)) ?_
                      refine sxq_nil ?_
                      refine preI_read rfl ?_
                      refine sxq_val 136 (.pointer (some ⟨g, 0, none⟩)) (by rfl) (fun W _ => (by kernel_rfl)) ?_
                      refine sxq_nil ?_
                      refine preI_read rfl ?_
                      refine sxq_val 137 (.pointer (some ⟨g, 3, none⟩)) (by rfl) (fun W _ => (by kernel_rfl)) ?_
                      refine sxq_nil ?_
                      refine preI_nil ?_
                      intro W_74 hp
                      refine treeI_rd rfl ?_
                      refine sxq_val 135 (.int .i64 p.f1) (by rfl) (fun W hp => (ld1 (t := 3) (p := (.tmp 134)) (by rfl) (by rfl) (by kernel_rfl) (hp.cell 2 (by rfl) 2 _ (by rfl)))) ?_
                      refine sxq_nil ?_
                      refine treeI_rd rfl ?_
                      refine sxq_val 138 (.pointer (some ⟨g, 4, none⟩)) (by rfl) (fun W hp => (ixa_run 1 (t := 53) (by rfl) (by rfl) (by rfl) c_57 Tryd.underlying53 (by decide) (by decide) 1 (by kernel_rfl))) ?_
                      refine sxq_nil ?_
                      refine treeI_fin ?_
                      refine tail_of [6] (by rfl) ?_
                      refine tailI_op rfl ?_
                      refine sx_store (t := 4) (p := (.tmp 138)) (x := (.const (Go.Value.bool false))) (by rfl) (by rfl) 3 (by rfl) 4 [.bool false] (by rfl) (by rfl) (by kernel_rfl) (by simp [Value.oneCell']) (by show 5 ≤ 5; omega) #[.slice (some ⟨g_53, 0, none⟩) s.ar.length c1, .slice A_45 ((s.ti ++ [p.f0]).length) c_46, .int .i64 s.sp, .bool s.w0, .bool false] (by rfl) hp ?_
                      intro W_75 hp; simp only [List.set_cons_succ, List.set_cons_zero] at hp
                      refine tailI_next ?_
                      refine tailI_nil ?_
                      refine ex_then_n ?_
                      refine wp_seq ?_
                      rcases Bool.eq_false_or_eq_true s.w0 with c_76 | c_76
                      ·
                        refine sx_region ?_
                        refine sx_rd 139 (.pointer (some ⟨g, 0, none⟩)) (by rfl) (by kernel_rfl) ?_
                        refine sx_rd 140 (.pointer (some ⟨g, 0, none⟩)) (by rfl) (by kernel_rfl) ?_
                        refine sx_rd 141 (.pointer (some ⟨g, 3, none⟩)) (by rfl) (by kernel_rfl) ?_
                        refine sx_rd 142 (.agg #[.bool s.w0, .bool false]) (by rfl) (ldn (t := 53) (p := (.tmp 141)) (by rfl) (by rfl) (by kernel_rfl) (by kernel_rfl) (by kernel_rfl) (hp.at_ 3 _ (by rfl))) ?_
                        refine sx_rd 143 (.agg #[.bool false, .bool false]) (by rfl) (by kernel_rfl) ?_
                        refine sx_rd 144 (.bool false) (by rfl) (by rw [c_76]; kernel_rfl) ?_
                        refine sx_nil ?_
                        refine ex_then_n ?_
                        refine sx_else false (by rfl) rfl ?_
                        refine wp_skip ?_
                        refine ex_then_n ?_
                        exact ⟨_, s.w0, false, (s.ar.set (p.f1).toNat (⟨(p.f0.f0 + p.f0.f1 - (rd_Arm s.ar p.f1).f0), (p.f0.f0 == p.f0.f1), false⟩ : S_Arm)), _, _, _, _, fr_front [(0, .pointer (some ⟨g, 0, none⟩)), (3, .pointer (some ⟨g_1, 0, none⟩)), (5, .pointer (some ⟨g_3, 0, none⟩))] ⟨rfl, rfl, rfl, trivial⟩, (hp.take [1, 2, 3, 4, 5] 6 (by decide) (by simp)), by revert c_6 c_9 c_16 c_17 c_34 c_40 c_56 c_57 c_73 c_76; simp +contextual [Bool.not_true, spHit, -List.length_eq_zero_iff] <;> (intros; omega), by revert c_6 c_9 c_16 c_17 c_34 c_40 c_56 c_57 c_73 c_76; simp +contextual [Bool.not_true, spHit, -List.length_eq_zero_iff] <;> (intros; omega), by revert c_6 c_9 c_16 c_17 c_34 c_40 c_56 c_57 c_73 c_76; simp +contextual [Bool.not_true, spHit, -List.length_eq_zero_iff] <;> (intros; omega), by simp⟩
                      ·
                        refine sx_region ?_
                        refine sx_rd 139 (.pointer (some ⟨g, 0, none⟩)) (by rfl) (by kernel_rfl) ?_
                        refine sx_rd 140 (.pointer (some ⟨g, 0, none⟩)) (by rfl) (by kernel_rfl) ?_
                        refine sx_rd 141 (.pointer (some ⟨g, 3, none⟩)) (by rfl) (by kernel_rfl) ?_
                        refine sx_rd 142 (.agg #[.bool s.w0, .bool false]) (by rfl) (ldn (t := 53) (p := (.tmp 141)) (by rfl) (by rfl) (by kernel_rfl) (by kernel_rfl) (by kernel_rfl) (hp.at_ 3 _ (by rfl))) ?_
                        refine sx_rd 143 (.agg #[.bool false, .bool false]) (by rfl) (by kernel_rfl) ?_
                        refine sx_rd 144 (.bool true) (by rfl) (by rw [c_76]; kernel_rfl) ?_
                        refine sx_nil ?_
                        refine ex_then_n ?_
                        refine sx_then true (by rfl) rfl ?_
                        refine sx_drawT [0, 1, 2, 3, 5, 6, 7, 10, 11, 12] (.rd 4 (.rd 8 (.rd 9 (.rd 13 (.rd 14 (.alt 15 (.fin) .non)))))) 16 (C := Hp w0 (row k34 34 b (.slice (some ⟨g_42, 0, none⟩) ([p.f0].length) ([p.f0].length)) ([p.f0]) F_43 :: blk g_3 #[.int .i64 p.f0.f0, .int .i64 p.f0.f1] 34 :: blk g_1 #[.int .i64 p.f0.f0, .int .i64 p.f0.f1, .int .i64 p.f1] 36 :: blk g #[.slice (some ⟨g_53, 0, none⟩) s.ar.length c1, .slice A_45 ((s.ti ++ [p.f0]).length) c_46, .int .i64 s.sp, .bool s.w0, .bool false] 55 :: row k72 72 b (.slice (some ⟨g_53, 0, none⟩) s.ar.length c1) (s.ar.set (p.f1).toNat (⟨(p.f0.f0 + p.f0.f1 - (rd_Arm s.ar p.f1).f0), (p.f0.f0 == p.f0.f1), false⟩ : S_Arm)) F_54 :: row k34 34 b (.slice A_45 ((s.ti ++ [p.f0]).length) c_46) (s.ti ++ [p.f0]) F_47 :: cs)) (by kernel_rfl) (by kernel_rfl) (fun d _ _ _ _ h => by cases d <;> exact h) (fun W h => h.drew) hp ?_
                        refine preI_read rfl ?_
                        refine sxq_val 145 (.pointer (some ⟨g, 0, none⟩)) (by rfl) (fun W _ => (by kernel_rfl)) ?_
                        refine sxq_nil ?_
                        refine preI_read rfl ?_
                        refine sxq_val 146 (.pointer (some ⟨g, 0, none⟩)) (by rfl) (fun W _ => (by kernel_rfl)) ?_
                        refine sxq_nil ?_
                        refine preI_read rfl ?_
                        refine sxq_val 147 (.pointer (some ⟨g, 0, none⟩)) (by rfl) (fun W _ => (by kernel_rfl)) ?_
                        refine sxq_nil ?_
                        refine preI_read rfl ?_
                        refine sxq_val 148 (.pointer (some ⟨g, 0, none⟩)) (by rfl) (fun W _ => (by kernel_rfl)) ?_
                        refine sxq_nil ?_
                        refine preI_read rfl ?_
                        refine sxq_val 150 (.pointer (some ⟨g, 0, none⟩)) (by rfl) (fun W _ => (by kernel_rfl)) ?_
                        refine sxq_nil ?_
                        refine preI_read rfl ?_
                        refine sxq_val 151 (.pointer (some ⟨g, 0, none⟩)) (by rfl) (fun W _ => (by kernel_rfl)) ?_
                        refine sxq_nil ?_
                        refine preI_read rfl ?_
                        refine sxq_val 152 (.pointer (some ⟨g, 2, none⟩)) (by rfl) (fun W _ => (by kernel_rfl)) ?_
                        refine sxq_nil ?_
                        refine preI_read rfl ?_
                        refine sxq_val 155 (.pointer (some ⟨g, 0, none⟩)) (by rfl) (fun W _ => (by kernel_rfl)) ?_
                        refine sxq_nil ?_
                        refine preI_read rfl ?_
                        refine sxq_val 156 (.pointer (some ⟨g, 0, none⟩)) (by rfl) (fun W _ => (by kernel_rfl)) ?_
                        refine sxq_nil ?_
                        refine preI_read rfl ?_
                        refine sxq_val 157 (.pointer (some ⟨g, 2, none⟩)) (by rfl) (fun W _ => (by kernel_rfl)) ?_
                        refine sxq_nil ?_
                        refine preI_nil ?_
                        intro W_77 hp
                        refine treeI_rd rfl ?_
                        refine sxq_val 149 (.slice (some ⟨g_53, 0, none⟩) s.ar.length c1) (by rfl) (fun W hp => (ld1 (t := 51) (p := (.tmp 148)) (by rfl) (by rfl) (by kernel_rfl) (hp.cell 3 (by rfl) 0 _ (by rfl)))) ?_
                        refine sxq_nil ?_
                        refine treeI_rd rfl ?_
                        refine sxq_val 153 (.int .i64 s.sp) (by rfl) (fun W hp => (ld1 (t := 3) (p := (.tmp 152)) (by rfl) (by rfl) (by kernel_rfl) (hp.cell 3 (by rfl) 2 _ (by rfl)))) ?_
                        refine sxq_nil ?_
                        refine treeI_rd rfl ?_
                        refine sxq_val 154 (.agg #[.int .i64 s.sp, .bool false, .bool true]) (by rfl) (fun W hp => (by kernel_rfl)) ?_
                        refine sxq_nil ?_
                        refine treeI_rd rfl ?_
                        refine sxq_val 158 (.int .i64 s.sp) (by rfl) (fun W hp => (ld1 (t := 3) (p := (.tmp 157)) (by rfl) (by rfl) (by kernel_rfl) (hp.cell 3 (by rfl) 2 _ (by rfl)))) ?_
                        refine sxq_nil ?_
                        refine treeI_rd rfl ?_
                        refine sxq_val 159 (.agg #[.int .i64 s.sp, .bool false, .bool true]) (by rfl) (fun W hp => (by kernel_rfl)) ?_
                        refine sxq_nil ?_
                        refine treeI_ev rfl ?_
                        refine sx_lit 160 (by rfl) k72 b 72 ([(⟨s.sp, false, true⟩ : S_Arm), (⟨s.sp, false, true⟩ : S_Arm)]) [.int .i64 s.sp, .bool false, .bool true, .int .i64 s.sp, .bool false, .bool true] (fun W => by kernel_rfl) (arm_reps _ _ _) (by simp) (Nat.le_trans hb0 hp.size) hp ?_
                        intro g_78 F_79 W_80 hp hz; clear hz
                        refine step_fin hp.tail ?_
                        refine treeI_fin ?_
                        refine tail_of [16, 17, 18, 19] (by rfl) ?_
                        refine tailI_op rfl ?_
                        refine sx_append 161 (by rfl) k72 5 (by rfl) (.agg #[.int .i64 0, .bool false, .bool false]) 16 (by rfl) Tryd.underlying51 (by kernel_rfl) rfl (by decide) (by decide) ([(⟨s.sp, false, true⟩ : S_Arm), (⟨s.sp, false, true⟩ : S_Arm)]) (by rfl) (by rfl) (row_C (hp.at_ 0 _ (by rfl))) arm_kp (Nat.le_trans hb0 hp.size) (by simp; omega) hp ?_
                        intro A_81 c_82 F_83 W_84 hp hz; clear hz; simp only [List.set_cons_succ, List.set_cons_zero] at hp
                        refine tailI_next ?_
                        refine tailI_op rfl ?_
                        refine sx_rd 162 (.pointer (some ⟨g, 0, none⟩)) (by rfl) (by kernel_rfl) ?_
                        refine tailI_next ?_
                        refine tailI_op rfl ?_
                        refine sx_rd 163 (.pointer (some ⟨g, 0, none⟩)) (by rfl) (by kernel_rfl) ?_
                        refine tailI_next ?_
                        refine tailI_op rfl ?_
                        refine sx_store (t := 51) (p := (.tmp 163)) (x := (.tmp 161)) (by rfl) (by rfl) 4 (by rfl) 0 [.slice A_81 (((s.ar.set (p.f1).toNat (⟨(p.f0.f0 + p.f0.f1 - (rd_Arm s.ar p.f1).f0), (p.f0.f0 == p.f0.f1), false⟩ : S_Arm)) ++ [(⟨s.sp, false, true⟩ : S_Arm), (⟨s.sp, false, true⟩ : S_Arm)]).length) c_82] (by rfl) (by rfl) (by kernel_rfl) (by simp [Value.oneCell']) (by show 1 ≤ 5; omega) #[.slice A_81 (((s.ar.set (p.f1).toNat (⟨(p.f0.f0 + p.f0.f1 - (rd_Arm s.ar p.f1).f0), (p.f0.f0 == p.f0.f1), false⟩ : S_Arm)) ++ [(⟨s.sp, false, true⟩ : S_Arm), (⟨s.sp, false, true⟩ : S_Arm)]).length) c_82, .slice A_45 ((s.ti ++ [p.f0]).length) c_46, .int .i64 s.sp, .bool s.w0, .bool false] (by rfl) hp ?_
                        intro W_85 hp; simp only [List.set_cons_succ, List.set_cons_zero] at hp
                        refine tailI_next ?_
                        refine tailI_nil ?_
                        refine ex_then_n ?_
                        exact ⟨_, s.w0, false, ((s.ar.set (p.f1).toNat (⟨(p.f0.f0 + p.f0.f1 - (rd_Arm s.ar p.f1).f0), (p.f0.f0 == p.f0.f1), false⟩ : S_Arm)) ++ [(⟨s.sp, false, true⟩ : S_Arm), (⟨s.sp, false, true⟩ : S_Arm)]), _, _, _, _, fr_front [(0, .pointer (some ⟨g, 0, none⟩)), (3, .pointer (some ⟨g_1, 0, none⟩)), (5, .pointer (some ⟨g_3, 0, none⟩))] ⟨rfl, rfl, rfl, trivial⟩, (hp.take [2, 3, 4, 5, 6] 7 (by decide) (by simp)), by revert c_6 c_9 c_16 c_17 c_34 c_40 c_56 c_57 c_73 c_76; simp +contextual [Bool.not_true, spHit, -List.length_eq_zero_iff] <;> (intros; omega), by revert c_6 c_9 c_16 c_17 c_34 c_40 c_56 c_57 c_73 c_76; simp +contextual [Bool.not_true, spHit, -List.length_eq_zero_iff] <;> (intros; omega), by revert c_6 c_9 c_16 c_17 c_34 c_40 c_56 c_57 c_73 c_76; simp +contextual [Bool.not_true, spHit, -List.length_eq_zero_iff] <;> (intros; omega), by simp⟩
                    ·
                      refine wp_skip ?_
                      refine ex_then_n ?_
                      exact ⟨_, s.w0, s.w1, (s.ar.set (p.f1).toNat (⟨(p.f0.f0 + p.f0.f1 - (rd_Arm s.ar p.f1).f0), (p.f0.f0 == p.f0.f1), false⟩ : S_Arm)), _, _, _, _, fr_front [(0, .pointer (some ⟨g, 0, none⟩)), (3, .pointer (some ⟨g_1, 0, none⟩)), (5, .pointer (some ⟨g_3, 0, none⟩))] ⟨rfl, rfl, rfl, trivial⟩, (hp.take [1, 2, 3, 4, 5] 6 (by decide) (by simp)), by revert c_6 c_9 c_16 c_17 c_34 c_40 c_56 c_57 c_73; simp +contextual [Bool.not_true, spHit, -List.length_eq_zero_iff] <;> (intros; omega), by revert c_6 c_9 c_16 c_17 c_34 c_40 c_56 c_57 c_73; simp +contextual [Bool.not_true, spHit, -List.length_eq_zero_iff] <;> (intros; omega), by revert c_6 c_9 c_16 c_17 c_34 c_40 c_56 c_57 c_73; simp +contextual [Bool.not_true, spHit, -List.length_eq_zero_iff] <;> (intros; omega), by simp⟩
                ·
                  have c_56p := of_decide_eq_false c_56
                  refine sx_drawT [0] (.rd 1 (.rd 2 (.rd 3 (.rd 4 (.rd 5 (.rd 6 (.rd 7 (.rd 8 (.rd 9 (.rd 10 (.rd 11 (.fin)))))))))))) 12 (C := Hp w0 (row k34 34 b (.slice (some ⟨g_42, 0, none⟩) ([p.f0].length) ([p.f0].length)) ([p.f0]) F_43 :: blk g_3 #[.int .i64 p.f0.f0, .int .i64 p.f0.f1] 34 :: blk g_1 #[.int .i64 p.f0.f0, .int .i64 p.f0.f1, .int .i64 p.f1] 36 :: blk g #[.slice (some ⟨g_53, 0, none⟩) s.ar.length c1, .slice A_45 ((s.ti ++ [p.f0]).length) c_46, .int .i64 s.sp, .bool s.w0, .bool s.w1] 55 :: row k72 72 b (.slice (some ⟨g_53, 0, none⟩) s.ar.length c1) (s.ar.set (p.f1).toNat (⟨(p.f0.f0 + p.f0.f1 - (rd_Arm s.ar p.f1).f0), (p.f0.f0 == p.f0.f1), false⟩ : S_Arm)) F_54 :: row k34 34 b (.slice A_45 ((s.ti ++ [p.f0]).length) c_46) (s.ti ++ [p.f0]) F_47 :: cs)) (by kernel_rfl) (by kernel_rfl) (fun d _ _ _ _ h => by cases d <;> exact h) (fun W h => h.drew) hp ?_
                  refine preI_read rfl ?_
                  refine sxq_val 121 (.pointer (some ⟨g_1, 2, none⟩)) (by rfl) (fun W _ => (by kernel_rfl)) ?_
                  refine sxq_nil ?_
                  refine preI_nil ?_
                  intro W_86 hp
                  refine treeI_rd rfl ?_
                  refine sxq_val 122 (.int .i64 p.f1) (by rfl) (fun W hp => (ld1 (t := 3) (p := (.tmp 121)) (by rfl) (by rfl) (by kernel_rfl) (hp.cell 2 (by rfl) 2 _ (by rfl)))) ?_
                  refine sxq_nil ?_
                  refine treeI_rd rfl ?_
                  refine sxq_val 123 (.bool false) (by rfl) (fun W hp => (bv c_56 (by kernel_rfl))) ?_
                  refine sxq_nil ?_
                  refine treeI_rd rfl ?_
                  refine sxq_val 124 (.bool false) (by rfl) (fun W hp => (by kernel_rfl)) ?_
                  refine sxq_nil ?_
                  refine treeI_rd rfl ?_
                  refine sxq_skip 125 (by rfl) (by rfl) (by rfl) ?_
                  refine sxq_nil ?_
                  refine treeI_rd rfl ?_
                  refine sxq_skip 126 (by rfl) (by rfl) (by rfl) ?_
                  refine sxq_nil ?_
                  refine treeI_rd rfl ?_
                  refine sxq_skip 127 (by rfl) (by rfl) (by rfl) ?_
                  refine sxq_nil ?_
                  refine treeI_rd rfl ?_
                  refine sxq_skip 128 (by rfl) (by rfl) (by rfl) ?_
                  refine sxq_nil ?_
                  refine treeI_rd rfl ?_
                  refine sxq_skip 129 (by rfl) (by rfl) (by rfl) ?_
                  refine sxq_nil ?_
                  refine treeI_rd rfl ?_
                  refine sxq_skip 130 (by rfl) (by rfl) (by rfl) ?_
                  refine sxq_nil ?_
                  refine treeI_rd rfl ?_
                  refine sxq_skip 131 (by rfl) (by rfl) (by rfl) ?_
                  refine sxq_nil ?_
                  refine treeI_rd rfl ?_
                  refine sxq_val 132 (.bool false) (by rfl) (fun W hp => (by kernel_rfl)) ?_
                  refine sxq_nil ?_
                  refine treeI_fin ?_
                  refine sx_nil ?_
                  refine ex_then_n ?_
                  refine sx_else false (by rfl) rfl ?_
                  refine wp_skip ?_
                  refine ex_then_n ?_
                  exact ⟨_, s.w0, s.w1, (s.ar.set (p.f1).toNat (⟨(p.f0.f0 + p.f0.f1 - (rd_Arm s.ar p.f1).f0), (p.f0.f0 == p.f0.f1), false⟩ : S_Arm)), _, _, _, _, fr_front [(0, .pointer (some ⟨g, 0, none⟩)), (3, .pointer (some ⟨g_1, 0, none⟩)), (5, .pointer (some ⟨g_3, 0, none⟩))] ⟨rfl, rfl, rfl, trivial⟩, (hp.take [1, 2, 3, 4, 5] 6 (by decide) (by simp)), by revert c_6 c_9 c_16 c_17 c_34 c_40 c_56; simp +contextual [Bool.not_true, spHit, -List.length_eq_zero_iff] <;> (intros; omega), by revert c_6 c_9 c_16 c_17 c_34 c_40 c_56; simp +contextual [Bool.not_true, spHit, -List.length_eq_zero_iff] <;> (intros; omega), by revert c_6 c_9 c_16 c_17 c_34 c_40 c_56; simp +contextual [Bool.not_true, spHit, -List.length_eq_zero_iff] <;> (intros; omega), by simp⟩
              ·
                rintro _ W_87 ⟨r_, w0', w1', ar', A', n', c', F', rfl, hp, f1, f2, f3, hn⟩
                subst hn
                refine wp_seq ?_
                refine wp_seq ?_
                rcases Bool.eq_false_or_eq_true (p.f0.f0 == p.f0.f1) with c_88 | c_88
                ·
                  have c_88p := eq_of_beq_ c_88
                  refine sx_region ?_
                  refine sx_rd 164 (.agg #[.int .i64 p.f0.f0, .int .i64 p.f0.f1]) (by rfl) (ldn (t := 34) (p := (.tmp 5)) (by rfl) (by rfl) (by kernel_rfl) (by kernel_rfl) (by kernel_rfl) (hp.at_ 0 _ (by rfl))) ?_
                  refine sx_call 165 (by rfl) (by kernel_rfl) ((isDouble_c p.f0 _).mono ?_)
                  rintro _ W_89 ⟨rfl, hb⟩
                  refine ⟨.bool true, congrArg (fun b => Ending.returned (.bool b)) c_88, ?_⟩
                  replace hp := hp.below hb
                  clear hb
                  refine sx_rd 166 (.bool true) (by rfl) (by kernel_rfl) ?_
                  refine sx_want (by rfl) ?_
                  refine sx_rd 167 (.pointer (some ⟨g, 0, none⟩)) (by rfl) (by kernel_rfl) ?_
                  refine sx_want (by rfl) ?_
                  refine sx_rd 168 (.pointer (some ⟨g, 0, none⟩)) (by rfl) (by kernel_rfl) ?_
                  refine sx_want (by rfl) ?_
                  refine sx_rd 169 (.pointer (some ⟨g, 2, none⟩)) (by rfl) (by kernel_rfl) ?_
                  refine sx_want (by rfl) ?_
                  refine sx_rd 170 (.int .i64 s.sp) (by rfl) (ld1 (t := 3) (p := (.tmp 169)) (by rfl) (by rfl) (by kernel_rfl) (hp.cell 2 (by rfl) 2 _ (by rfl))) ?_
                  refine sx_want (by rfl) ?_
                  refine sx_rd 171 (.bool (decide (s.sp < 0))) (by rfl) (by kernel_rfl) ?_
                  refine sx_rd 172 (.bool (decide (s.sp < 0))) (by rfl) (by kernel_rfl) ?_
                  refine sx_nil ?_
                  refine ex_then_n ?_
                  refine sx_cond (decide (s.sp < 0)) (by rfl) (fun c_90 => ?_) (fun c_90 => ?_)
                  ·
                    have c_90p := of_decide_eq_true c_90
                    have c_90q := hinv c_90p
                    refine wp_seq ?_
                    refine sx_region ?_
                    refine sx_rd 173 (.pointer (some ⟨g, 0, none⟩)) (by rfl) (by kernel_rfl) ?_
                    refine sx_rd 174 (.pointer (some ⟨g_3, 0, none⟩)) (by rfl) (by kernel_rfl) ?_
                    refine sx_rd 175 (.int .i64 p.f0.f0) (by rfl) (ld1 (t := 3) (p := (.tmp 174)) (by rfl) (by rfl) (by kernel_rfl) (hp.cell 0 (by rfl) 0 _ (by rfl))) ?_
                    refine sx_rd 176 (.pointer (some ⟨g, 0, none⟩)) (by rfl) (by kernel_rfl) ?_
                    refine sx_rd 177 (.pointer (some ⟨g, 2, none⟩)) (by rfl) (by kernel_rfl) ?_
                    refine sx_store (t := 3) (p := (.tmp 177)) (x := (.tmp 175)) (by rfl) (by rfl) 2 (by rfl) 2 [.int .i64 p.f0.f0] (by rfl) (by rfl) (by kernel_rfl) (by simp [Value.oneCell']) (by show 3 ≤ 5; omega) #[.slice A' ar'.length c', .slice A_45 ((s.ti ++ [p.f0]).length) c_46, .int .i64 p.f0.f0, .bool w0', .bool w1'] (by rfl) hp ?_
                    intro W_91 hp; simp only [List.set_cons_succ, List.set_cons_zero] at hp
                    refine sx_nil ?_
                    refine ex_then_n ?_
                    have c_92 : p.f1 = ((0 : Nat) : Int) ∨ p.f1 = ((1 : Nat) : Int) := by omega
                    rcases c_92 with c_92 | c_92
                    ·
                      refine sx_drawT [0, 1, 3, 4] (.rd 2 (.rd 5 (.fin))) 6 (C := Hp w0 (blk g_3 #[.int .i64 p.f0.f0, .int .i64 p.f0.f1] 34 :: blk g_1 #[.int .i64 p.f0.f0, .int .i64 p.f0.f1, .int .i64 p.f1] 36 :: blk g #[.slice A' ar'.length c', .slice A_45 ((s.ti ++ [p.f0]).length) c_46, .int .i64 p.f0.f0, .bool w0', .bool w1'] 55 :: row k72 72 b (.slice A' ar'.length c') ar' F' :: row k34 34 b (.slice A_45 ((s.ti ++ [p.f0]).length) c_46) (s.ti ++ [p.f0]) F_47 :: cs)) (by kernel_rfl) (by kernel_rfl) (fun d _ _ _ _ h => by cases d <;> exact h) (fun W h => h.drew) hp ?_
                      refine preI_read rfl ?_
                      refine sxq_val 178 (.pointer (some ⟨g, 0, none⟩)) (by rfl) (fun W _ => (by kernel_rfl)) ?_
                      refine sxq_nil ?_
                      refine preI_read rfl ?_
                      refine sxq_val 179 (.pointer (some ⟨g_1, 2, none⟩)) (by rfl) (fun W _ => (by kernel_rfl)) ?_
                      refine sxq_nil ?_
                      refine preI_read rfl ?_
                      refine sxq_val 181 (.pointer (some ⟨g, 0, none⟩)) (by rfl) (fun W _ => (by kernel_rfl)) ?_
                      refine sxq_nil ?_
                      refine preI_read rfl ?_
                      refine sxq_val 182 (.pointer (some ⟨g, 3, none⟩)) (by rfl) (fun W _ => (by kernel_rfl)) ?_
                      refine sxq_nil ?_
                      refine preI_nil ?_
                      intro W_93 hp
                      refine treeI_rd rfl ?_
                      refine sxq_val 180 (.int .i64 p.f1) (by rfl) (fun W hp => (ld1 (t := 3) (p := (.tmp 179)) (by rfl) (by rfl) (by kernel_rfl) (hp.cell 1 (by rfl) 2 _ (by rfl)))) ?_
                      refine sxq_nil ?_
                      refine treeI_rd rfl ?_
                      refine sxq_val 183 (.pointer (some ⟨g, 3, none⟩)) (by rfl) (fun W hp => (ixa_run 0 (t := 53) (by rfl) (by rfl) (by rfl) c_92 Tryd.underlying53 (by decide) (by decide) 1 (by kernel_rfl))) ?_
                      refine sxq_nil ?_
                      refine treeI_fin ?_
                      refine tail_of [6] (by rfl) ?_
                      refine tailI_op rfl ?_
                      refine sx_store (t := 4) (p := (.tmp 183)) (x := (.const (Go.Value.bool true))) (by rfl) (by rfl) 2 (by rfl) 3 [.bool true] (by rfl) (by rfl) (by kernel_rfl) (by simp [Value.oneCell']) (by show 4 ≤ 5; omega) #[.slice A' ar'.length c', .slice A_45 ((s.ti ++ [p.f0]).length) c_46, .int .i64 p.f0.f0, .bool true, .bool w1'] (by rfl) hp ?_
                      intro W_94 hp; simp only [List.set_cons_succ, List.set_cons_zero] at hp
                      refine tailI_next ?_
                      refine tailI_nil ?_
                      refine ex_then_n ?_
                      refine wp_seq ?_
                      refine sx_region ?_
                      refine sx_rd 4 (.bool true) (by rfl) (by kernel_rfl) ?_
                      refine sx_nil ?_
                      refine ex_then_n ?_
                      refine wp_ret ?_
                      refine sx_end (.bool true) (res1 4 (by rfl)) ?_
                      have hc : spCan s p = true := by revert c_6 c_9 c_16 c_17 c_34 c_40 c_88 c_90; simp +contextual [Bool.not_true, spCan, -List.length_eq_zero_iff] <;> (intros; omega)
                      have hd : spDo s p = (⟨ar', (s.ti ++ [p.f0]), p.f0.f0, true, w1'⟩ : SpSt) := by revert f1 f2 f3 c_6 c_9 c_16 c_17 c_34 c_40 c_88 c_90 c_92; simp +contextual [Bool.not_true, spDo, -List.length_eq_zero_iff] <;> (intros; omega)
                      exact ⟨(⟨ar', (s.ti ++ [p.f0]), p.f0.f0, true, w1'⟩ : SpSt), _, _, _, _, _, _, by rw [hc], by rw [hc]; exact hd.symm, (hp.take [2, 3, 4] 5 (by decide) (by simp))⟩
                    ·
                      refine sx_drawT [0, 1, 3, 4] (.rd 2 (.rd 5 (.fin))) 6 (C := Hp w0 (blk g_3 #[.int .i64 p.f0.f0, .int .i64 p.f0.f1] 34 :: blk g_1 #[.int .i64 p.f0.f0, .int .i64 p.f0.f1, .int .i64 p.f1] 36 :: blk g #[.slice A' ar'.length c', .slice A_45 ((s.ti ++ [p.f0]).length) c_46, .int .i64 p.f0.f0, .bool w0', .bool w1'] 55 :: row k72 72 b (.slice A' ar'.length c') ar' F' :: row k34 34 b (.slice A_45 ((s.ti ++ [p.f0]).length) c_46) (s.ti ++ [p.f0]) F_47 :: cs)) (by kernel_rfl) (by kernel_rfl) (fun d _ _ _ _ h => by cases d <;> exact h) (fun W h => h.drew) hp ?_
                      refine preI_read rfl ?_
                      refine sxq_val 178 (.pointer (some ⟨g, 0, none⟩)) (by rfl) (fun W _ => (by kernel_rfl)) ?_
                      refine sxq_nil ?_
                      refine preI_read rfl ?_
                      refine sxq_val 179 (.pointer (some ⟨g_1, 2, none⟩)) (by rfl) (fun W _ => (by kernel_rfl)) ?_
                      refine sxq_nil ?_
                      refine preI_read rfl ?_
                      refine sxq_val 181 (.pointer (some ⟨g, 0, none⟩)) (by rfl) (fun W _ => (by kernel_rfl)) ?_
                      refine sxq_nil ?_
                      refine preI_read rfl ?_
                      refine sxq_val 182 (.pointer (some ⟨g, 3, none⟩)) (by rfl) (fun W _ => (by kernel_rfl)) ?_
                      refine sxq_nil ?_
                      refine preI_nil ?_
                      intro W_95 hp
                      refine treeI_rd rfl ?_
                      refine sxq_val 180 (.int .i64 p.f1) (by rfl) (fun W hp => (ld1 (t := 3) (p := (.tmp 179)) (by rfl) (by rfl) (by kernel_rfl) (hp.cell 1 (by rfl) 2 _ (by rfl)))) ?_
                      refine sxq_nil ?_
                      refine treeI_rd rfl ?_
                      refine sxq_val 183 (.pointer (some ⟨g, 4, none⟩)) (by rfl) (fun W hp => (ixa_run 1 (t := 53) (by rfl) (by rfl) (by rfl) c_92 Tryd.underlying53 (by decide) (by decide) 1 (by kernel_rfl))) ?_
                      refine sxq_nil ?_
                      refine treeI_fin ?_
                      refine tail_of [6] (by rfl) ?_
                      refine tailI_op rfl ?_
                      refine sx_store (t := 4) (p := (.tmp 183)) (x := (.const (Go.Value.bool true))) (by rfl) (by rfl) 2 (by rfl) 4 [.bool true] (by rfl) (by rfl) (by kernel_rfl) (by simp [Value.oneCell']) (by show 5 ≤ 5; omega) #[.slice A' ar'.length c', .slice A_45 ((s.ti ++ [p.f0]).length) c_46, .int .i64 p.f0.f0, .bool w0', .bool true] (by rfl) hp ?_
                      intro W_96 hp; simp only [List.set_cons_succ, List.set_cons_zero] at hp
                      refine tailI_next ?_
                      refine tailI_nil ?_
                      refine ex_then_n ?_
                      refine wp_seq ?_
                      refine sx_region ?_
                      refine sx_rd 4 (.bool true) (by rfl) (by kernel_rfl) ?_
                      refine sx_nil ?_
                      refine ex_then_n ?_
                      refine wp_ret ?_
                      refine sx_end (.bool true) (res1 4 (by rfl)) ?_
                      have hc : spCan s p = true := by revert c_6 c_9 c_16 c_17 c_34 c_40 c_88 c_90; simp +contextual [Bool.not_true, spCan, -List.length_eq_zero_iff] <;> (intros; omega)
                      have hd : spDo s p = (⟨ar', (s.ti ++ [p.f0]), p.f0.f0, w0', true⟩ : SpSt) := by revert f1 f2 f3 c_6 c_9 c_16 c_17 c_34 c_40 c_88 c_90 c_92; simp +contextual [Bool.not_true, spDo, -List.length_eq_zero_iff] <;> (intros; omega)
                      exact ⟨(⟨ar', (s.ti ++ [p.f0]), p.f0.f0, w0', true⟩ : SpSt), _, _, _, _, _, _, by rw [hc], by rw [hc]; exact hd.symm, (hp.take [2, 3, 4] 5 (by decide) (by simp))⟩
                  ·
                    have c_90p := of_decide_eq_false c_90
                    refine wp_skip ?_
                    refine ex_then_n ?_
                    refine wp_seq ?_
                    refine sx_region ?_
                    refine sx_rd 4 (.bool true) (by rfl) (by kernel_rfl) ?_
                    refine sx_nil ?_
                    refine ex_then_n ?_
                    refine wp_ret ?_
                    refine sx_end (.bool true) (res1 4 (by rfl)) ?_
                    have hc : spCan s p = true := by revert c_6 c_9 c_16 c_17 c_34 c_40 c_88 c_90; simp +contextual [Bool.not_true, spCan, -List.length_eq_zero_iff] <;> (intros; omega)
                    have hd : spDo s p = (⟨ar', (s.ti ++ [p.f0]), s.sp, w0', w1'⟩ : SpSt) := by revert f1 f2 f3 c_6 c_9 c_16 c_17 c_34 c_40 c_88 c_90; simp +contextual [Bool.not_true, spDo, -List.length_eq_zero_iff] <;> (intros; omega)
                    exact ⟨(⟨ar', (s.ti ++ [p.f0]), s.sp, w0', w1'⟩ : SpSt), _, _, _, _, _, _, by rw [hc], by rw [hc]; exact hd.symm, (hp.take [2, 3, 4] 5 (by decide) (by simp))⟩
                ·
                  have c_88p := ne_of_beq_ c_88
                  refine sx_region ?_
                  refine sx_rd 164 (.agg #[.int .i64 p.f0.f0, .int .i64 p.f0.f1]) (by rfl) (ldn (t := 34) (p := (.tmp 5)) (by rfl) (by rfl) (by kernel_rfl) (by kernel_rfl) (by kernel_rfl) (hp.at_ 0 _ (by rfl))) ?_
                  refine sx_call 165 (by rfl) (by kernel_rfl) ((isDouble_c p.f0 _).mono ?_)
                  rintro _ W_97 ⟨rfl, hb⟩
                  refine ⟨.bool false, congrArg (fun b => Ending.returned (.bool b)) c_88, ?_⟩
                  replace hp := hp.below hb
                  clear hb
                  refine sx_rd 166 (.bool false) (by rfl) (by kernel_rfl) ?_
                  refine sx_skip 167 (by rfl) (by rfl) (by rfl) ?_
                  refine sx_skip 168 (by rfl) (by rfl) (by rfl) ?_
                  refine sx_skip 169 (by rfl) (by rfl) (by rfl) ?_
                  refine sx_skip 170 (by rfl) (by rfl) (by rfl) ?_
                  refine sx_skip 171 (by rfl) (by rfl) (by rfl) ?_
                  refine sx_rd 172 (.bool false) (by rfl) (by kernel_rfl) ?_
                  refine sx_nil ?_
                  refine ex_then_n ?_
                  refine sx_else false (by rfl) rfl ?_
                  refine wp_skip ?_
                  refine ex_then_n ?_
                  refine wp_seq ?_
                  refine sx_region ?_
                  refine sx_rd 4 (.bool true) (by rfl) (by kernel_rfl) ?_
                  refine sx_nil ?_
                  refine ex_then_n ?_
                  refine wp_ret ?_
                  refine sx_end (.bool true) (res1 4 (by rfl)) ?_
                  have hc : spCan s p = true := by revert c_6 c_9 c_16 c_17 c_34 c_40 c_88; simp +contextual [Bool.not_true, spCan, -List.length_eq_zero_iff] <;> (intros; omega)
                  have hd : spDo s p = (⟨ar', (s.ti ++ [p.f0]), s.sp, w0', w1'⟩ : SpSt) := by revert f1 f2 f3 c_6 c_9 c_16 c_17 c_34 c_40 c_88; simp +contextual [Bool.not_true, spDo, -List.length_eq_zero_iff] <;> (intros; omega)
                  exact ⟨(⟨ar', (s.ti ++ [p.f0]), s.sp, w0', w1'⟩ : SpSt), _, _, _, _, _, _, by rw [hc], by rw [hc]; exact hd.symm, (hp.take [2, 3, 4] 5 (by decide) (by simp))⟩
end Go.Proofs.YtddgfphbbkjmpaaDoor.Hd
