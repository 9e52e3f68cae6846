/- spec.plMake, by hand. -/
import Derived.Test.YtjaojemmbeddfaaGreatMSx5
import Derived.Test.YtjaojemmbeddfaaGreatMTileR
import Derived.Test.YtjaojemmbeddfaaGreatPTile
import Derived.Test.YtjaojemmbeddfaaGreatG2
import Derived.Test.YtjaojemmbeddfaaGreatPGames
import Derived.Test.YtjaojemmbeddfaaGreatPEv
namespace Go.Proofs.YtjaojemmbeddfaaGreat.Pure
open Go.RowKit Go.Proofs.YtjaojemmbeddfaaGreat.Hd Go.Proofs.YtjaojemmbeddfaaGreatW.PrintWords Go.Proofs.YtjaojemmbeddfaaGreatW.PrintLast
set_option linter.unusedVariables false
set_option linter.unusedSimpArgs false
theorem without_l0 (l : List S_Tile) (t : S_Tile) (hl : l.length ≤ 1000000) : ∀ (d i : Nat), i + d = l.length →
    Ev (fun k => spec_plWithout.l0 k ((l.take i).filter (outT t)) l (l.length : Int) (i : Int) t.f0 t.f1) (l.filter (outT t)) := by
  intro d
  induction d with
  | zero =>
    intro i hi
    refine Ev.succ ?_
    simp only [spec_plWithout.l0]
    exact Ev.neg (by omega) (Ev.ret (by rw [List.take_of_length_le (by omega)]))
  | succ d ih =>
    intro i hi
    have hlt : i < l.length := by omega
    have e : rd_Tile l (i : Int) = l[i] := by unfold rd_Tile; rw [Int.toNat_natCast]; simp [hlt]
    have IH := ih (i + 1) (by omega)
    have hfl : ((l.take i).filter (outT t)).length ≤ i := Nat.le_trans (List.length_filter_le _ _) (by rw [List.length_take]; omega)
    rw [List.take_succ_eq_append_getElem hlt, List.filter_append] at IH
    refine Ev.succ ?_
    simp only [spec_plWithout.l0]
    refine Ev.pos (by omega) (Ev.pos (by omega) (Ev.pos (by omega) ?_))
    rw [w64' (n := (i : Int) + 1) (m := ((i + 1 : Nat) : Int)) (by omega) (by omega) (by omega), e]
    by_cases h : outT t l[i] = true
    · refine Ev.pos h (Ev.pos (by omega) ?_)
      rw [List.filter_cons_of_pos h, List.filter_nil] at IH
      exact IH
    · refine Ev.neg h ?_
      rw [List.filter_cons_of_neg h, List.filter_nil, List.append_nil] at IH
      exact IH
theorem withoutT_ev (l : List S_Tile) (t : S_Tile) (hl : l.length ≤ 1000000) : Ev (fun k => spec_plWithout.f k l t.f0 t.f1) (gone1 l t) := by
  unfold spec_plWithout.f
  exact without_l0 l t hl l.length 0 (by omega)
/-- What the making of a move wants of it. -/
def mkOk (r : List Int) (x : S_plLay) : Prop := x.f2 = true ∨ (goodT x.f0 = true ∧ (r.length ≠ 0 → hasT x.f0 (if x.f1 = true then endA r else endB r) = true))
instance (r : List Int) (x : S_plLay) : Decidable (mkOk r x) := by unfold mkOk; infer_instance
theorem has_bd {t : S_Tile} {n : Int} (hg : goodT t = true) (h : hasT t n = true) : 0 ≤ n ∧ n ≤ 9 := by
  unfold goodT at hg
  unfold hasT at h
  simp only [Bool.and_eq_true, Bool.or_eq_true, beq_iff_eq, decide_eq_true_eq] at hg h
  omega
theorem good_bd {t : S_Tile} (hg : goodT t = true) : 0 ≤ t.f0 ∧ t.f0 ≤ 9 ∧ 0 ≤ t.f1 ∧ t.f1 ≤ 9 := by
  unfold goodT at hg
  simp only [Bool.and_eq_true, decide_eq_true_eq] at hg
  omega
end Go.Proofs.YtjaojemmbeddfaaGreat.Pure
namespace Go.Proofs.YtjaojemmbeddfaaGreat.Pure
open Go.RowKit Go.Proofs.YtjaojemmbeddfaaGreat.Hd Go.Proofs.YtjaojemmbeddfaaGreatW.PrintWords Go.Proofs.YtjaojemmbeddfaaGreatW.PrintLast
set_option linter.unusedVariables false
set_option linter.unusedSimpArgs false
theorem l1OwnG_eq (l : List Int) (h : l.length ≤ 2000000) : spec_l1Own.f l = some l := by
  unfold spec_l1Own.f
  rw [Option.bind_some, if_pos (by simp; omega), List.nil_append]
theorem plOwn_eq (f s : List S_Tile) (r : List Int) (t p : Int) (hf : f.length ≤ 1048576) (hs : s.length ≤ 1048576) (hr : r.length ≤ 2000000) : spec_plOwn.f f s r t p = some (f, s, r, t, p) := by
  unfold spec_plOwn.f
  rw [Option.bind_some, if_pos (by simp; omega), Option.bind_some, if_pos (by simp; omega), l1OwnG_eq r hr, Option.bind_some, List.nil_append, List.nil_append]
end Go.Proofs.YtjaojemmbeddfaaGreat.Pure
namespace Go.Proofs.YtjaojemmbeddfaaGreat.Hd
open Go.RowKit Go.Proofs.YtjaojemmbeddfaaGreat.Pure Go.Proofs.YtjaojemmbeddfaaGreatW.PrintWords Go.Proofs.YtjaojemmbeddfaaGreatW.PrintLast Go.Proofs.YtjaojemmbeddfaaGreatW.PrintMore
set_option linter.unusedVariables false
set_option linter.unusedSimpArgs false
def spec_plMake.f (f s : List S_Tile) (r : List Int) (t p : Int) (a b : Int) (c d : Bool) : Option (List S_Tile × List S_Tile × List Int × Int × Int) := if gmB f s r t p ∧ mkOk r ⟨⟨a, b⟩, c, d⟩ then some ((Gm.makeS ⟨f, s, r, t, p⟩ ⟨⟨a, b⟩, c, d⟩).f, (Gm.makeS ⟨f, s, r, t, p⟩ ⟨⟨a, b⟩, c, d⟩).s, (Gm.makeS ⟨f, s, r, t, p⟩ ⟨⟨a, b⟩, c, d⟩).r, (Gm.makeS ⟨f, s, r, t, p⟩ ⟨⟨a, b⟩, c, d⟩).t, (Gm.makeS ⟨f, s, r, t, p⟩ ⟨⟨a, b⟩, c, d⟩).p) else none
set_option maxRecDepth 100000 in
set_option maxHeartbeats 40000000 in
theorem spec_plMake.calls (A0_0 : Option Addr) (c0_0 : Nat) (l0_0 : List S_Tile) (A0_1 : Option Addr) (c0_1 : Nat) (l0_1 : List S_Tile) (A0_2 : Option Addr) (c0_2 : Nat) (l0_2 : List Int) (a0_3 : Int) (a0_4 : Int) (a1_0 : Int) (a1_1 : Int) (a1_2 : Bool) (a1_3 : Bool) (r0 : List S_Tile) (r1 : List S_Tile) (r2 : List Int) (r3 : Int) (r4 : Int) (w : World) (hr0_0 : Kd.C k53 w A0_0 l0_0.length l0_0) (hc0_0 : l0_0.length ≤ c0_0) (hr0_1 : Kd.C k53 w A0_1 l0_1.length l0_1) (hc0_1 : l0_1.length ≤ c0_1) (hr0_2 : Kd.C (Kd.int .i64) w A0_2 l0_2.length l0_2) (hc0_2 : l0_2.length ≤ c0_2) (h : spec_plMake.f l0_0 l0_1 l0_2 a0_3 a0_4 a1_0 a1_1 a1_2 a1_3 = some (r0, r1, r2, r3, r4)) :
  Calls Tryz.prog 29 #[.agg #[.slice A0_0 l0_0.length c0_0, .slice A0_1 l0_1.length c0_1, .slice A0_2 l0_2.length c0_2, .int .i64 a0_3, .int .i64 a0_4], .agg #[.int .i64 a1_0, .int .i64 a1_1, .bool a1_2, .bool a1_3]] w fun e w' => ∃ v0_ v1_ v2_ : Value, e = .returned (.agg #[v0_, v1_, v2_, .int .i64 r3, .int .i64 r4]) ∧ Kd.R k53 53 w' w.heap.size (fun k_ => some k_ ≠ (v1_ : Value).ownBlock) v0_ r0 ∧ Kd.R k53 53 w' w.heap.size (fun k_ => some k_ ≠ (v0_ : Value).ownBlock) v1_ r1 ∧ Kd.R (Kd.int .i64) 3 w' w.heap.size (fun _ => True) v2_ r2 ∧ Below w.heap.size w w' := by
 unfold spec_plMake.f at h
 obtain ⟨x, hx_⟩ : ∃ x : S_plLay, x = ⟨⟨a1_0, a1_1⟩, a1_2, a1_3⟩ := ⟨_, rfl⟩
 have hx0 : a1_0 = x.f0.f0 := by rw [hx_]
 have hx1 : a1_1 = x.f0.f1 := by rw [hx_]
 have hx2 : a1_2 = x.f1 := by rw [hx_]
 have hx3 : a1_3 = x.f2 := by rw [hx_]
 rw [← hx_] at h
 clear hx_
 subst hx0 hx1 hx2 hx3
 by_cases hsz : gmB l0_0 l0_1 l0_2 a0_3 a0_4 ∧ mkOk l0_2 x
 case neg => rw [if_neg hsz] at h; cases h
 rw [if_pos hsz] at h
 obtain ⟨⟨⟨hf1, hs1⟩, hz2, ⟨ht0, ht1⟩, hp0, hp1⟩, hmk⟩ := hsz
 have hz0 := hand_len hf1
 have hz1 := hand_len hs1
 unfold mkOk at hmk
 obtain ⟨cs, hcs⟩ : ∃ cs, cs = [old w w.heap.size] := ⟨_, rfl⟩
 have hp : Hp w cs w := by rw [hcs]; exact Hp.old_start w
 have hc2 : ∀ W, Hp w cs W → Below w.heap.size w W := fun W h => by rw [hcs] at h; exact h.since 0 _ rfl
 have hC0_0 : ∀ W, Hp w cs W → Kd.C k53 W A0_0 l0_0.length l0_0 := fun W h => Kd.C_below hr0_0 (hc2 W h)
 have hC0_1 : ∀ W, Hp w cs W → Kd.C k53 W A0_1 l0_1.length l0_1 := fun W h => Kd.C_below hr0_1 (hc2 W h)
 have hC0_2 : ∀ W, Hp w cs W → Kd.C (Kd.int .i64) W A0_2 l0_2.length l0_2 := fun W h => Kd.C_below hr0_2 (hc2 W h)
 clear hcs
 refine sx_enter (N := 87) (l := [.agg #[.slice A0_0 l0_0.length c0_0, .slice A0_1 l0_1.length c0_1, .slice A0_2 l0_2.length c0_2, .int .i64 a0_3, .int .i64 a0_4], .agg #[.int .i64 x.f0.f0, .int .i64 x.f0.f1, .bool x.f1, .bool x.f2]]) Tryz.func29 rfl rfl rfl ?_
 refine wp_seq ?_
 refine sx_region ?_
 refine sx_box 2 hp #[.slice A0_0 l0_0.length c0_0, .slice A0_1 l0_1.length c0_1, .slice A0_2 l0_2.length c0_2, .int .i64 a0_3, .int .i64 a0_4] 31 (by rfl) (fun W => by kernel_rfl) ?_
 intro g_1 W_2 hp
 refine sx_box 3 hp #[.int .i64 x.f0.f0, .int .i64 x.f0.f1, .bool x.f1, .bool x.f2] 55 (by rfl) (fun W => by kernel_rfl) ?_
 intro g_3 W_4 hp
 refine sx_box 4 hp #[.slice none 0 0, .slice none 0 0, .slice none 0 0, .int .i64 0, .int .i64 0] 31 (by rfl) (fun W => by kernel_rfl) ?_
 intro g_5 W_6 hp
 refine sx_nil ?_
 refine ex_then_n ?_
 refine wp_seq ?_
 refine sx_region ?_
 refine sx_rd 7 (.agg #[.slice A0_0 l0_0.length c0_0, .slice A0_1 l0_1.length c0_1, .slice A0_2 l0_2.length c0_2, .int .i64 a0_3, .int .i64 a0_4]) (by rfl) (ldn (t := 31) (p := (.tmp 2)) (by rfl) (by rfl) (by kernel_rfl) (by kernel_rfl) (by kernel_rfl) (hp.at_ 2 _ (by rfl))) ?_
 refine sx_call 8 (by rfl) (by kernel_rfl) ((spec_plOwn.calls A0_0 c0_0 l0_0 A0_1 c0_1 l0_1 A0_2 c0_2 l0_2 a0_3 a0_4 _ _ _ _ _ _ (hC0_0 _ hp.tail.tail.tail) hc0_0 (hC0_1 _ hp.tail.tail.tail) hc0_1 (hC0_2 _ hp.tail.tail.tail) hc0_2 (plOwn_eq l0_0 l0_1 l0_2 a0_3 a0_4 (by omega) (by omega) (by omega))).mono ?_)
 rintro _ W_22 ⟨v_10, v_11, v_12, rfl, hR_7, hR_8, hR_9, hb⟩
 refine ⟨_, rfl, ?_⟩
 obtain ⟨A_13, c_14, rfl, hcc_c_14, _⟩ := Kd.R_reads hR_7
 obtain ⟨A_16, c_17, rfl, hcc_c_17, _⟩ := Kd.R_reads hR_8
 obtain ⟨A_19, c_20, rfl, hcc_c_20, _⟩ := Kd.R_reads hR_9
 obtain ⟨F_15, F_18, F_21, hp⟩ : ∃ F_15 F_18 F_21, Hp w (row k53 53 w.heap.size (.slice A_13 l0_0.length c_14) l0_0 F_15 :: row k53 53 w.heap.size (.slice A_16 l0_1.length c_17) l0_1 F_18 :: row (Kd.int .i64) 3 w.heap.size (.slice A_19 l0_2.length c_20) l0_2 F_21 :: blk g_5 #[.slice none 0 0, .slice none 0 0, .slice none 0 0, .int .i64 0, .int .i64 0] 31 :: blk g_3 #[.int .i64 x.f0.f0, .int .i64 x.f0.f1, .bool x.f1, .bool x.f2] 55 :: blk g_1 #[.slice A0_0 l0_0.length c0_0, .slice A0_1 l0_1.length c0_1, .slice A0_2 l0_2.length c0_2, .int .i64 a0_3, .int .i64 a0_4] 31 :: cs) _ := ⟨_, _, _, Hp.made3 hp hb rfl rfl rfl hR_7 hR_8 hR_9 (ok_apart hR_7 (fun k hk => hk)) (typed_apart hR_7 hR_9 (by decide)) (typed_apart hR_8 hR_9 (by decide))⟩
 refine sx_box 5 hp #[.slice none 0 0, .slice none 0 0, .slice none 0 0, .int .i64 0, .int .i64 0] 31 (by rfl) (fun W => by kernel_rfl) ?_
 intro g_23 W_24 hp
 refine sx_store (t := 31) (p := (.tmp 5)) (x := (.tmp 8)) (by rfl) (by rfl) 0 (by rfl) 0 [.slice A_13 l0_0.length c_14, .slice A_16 l0_1.length c_17, .slice A_19 l0_2.length c_20, .int .i64 a0_3, .int .i64 a0_4] (by rfl) (by rfl) (by kernel_rfl) (by simp [Value.oneCell']) (by show 5 ≤ 5; omega) #[.slice A_13 l0_0.length c_14, .slice A_16 l0_1.length c_17, .slice A_19 l0_2.length c_20, .int .i64 a0_3, .int .i64 a0_4] (by rfl) hp ?_
 intro W_25 hp; simp only [List.set_cons_succ, List.set_cons_zero] at hp
 refine sx_nil ?_
 refine ex_then_n ?_
 refine wp_seq ?_
 refine sx_region ?_
 refine sx_rd 9 (.pointer (some ⟨g_1, 3, none⟩)) (by rfl) (by kernel_rfl) ?_
 refine sx_rd 10 (.int .i64 a0_3) (by rfl) (ld1 (t := 3) (p := (.tmp 9)) (by rfl) (by rfl) (by kernel_rfl) (hp.cell 6 (by rfl) 3 _ (by rfl))) ?_
 refine sx_rd 11 (.int .i64 (1 - a0_3)) (by rfl) (wr_ok (by omega) (by kernel_rfl)) ?_
 refine sx_rd 12 (.pointer (some ⟨g_23, 3, none⟩)) (by rfl) (by kernel_rfl) ?_
 refine sx_store (t := 3) (p := (.tmp 12)) (x := (.tmp 11)) (by rfl) (by rfl) 0 (by rfl) 3 [.int .i64 (1 - a0_3)] (by rfl) (by rfl) (by kernel_rfl) (by simp [Value.oneCell']) (by show 4 ≤ 5; omega) #[.slice A_13 l0_0.length c_14, .slice A_16 l0_1.length c_17, .slice A_19 l0_2.length c_20, .int .i64 (1 - a0_3), .int .i64 a0_4] (by rfl) hp ?_
 intro W_26 hp; simp only [List.set_cons_succ, List.set_cons_zero] at hp
 refine sx_nil ?_
 refine ex_then_n ?_
 refine wp_seq ?_
 refine wp_seq ?_
 refine sx_region ?_
 refine sx_rd 13 (.pointer (some ⟨g_3, 3, none⟩)) (by rfl) (by kernel_rfl) ?_
 refine sx_rd 14 (.bool x.f2) (by rfl) (ld1 (t := 4) (p := (.tmp 13)) (by rfl) (by rfl) (by kernel_rfl) (hp.cell 5 (by rfl) 3 _ (by rfl))) ?_
 refine sx_nil ?_
 refine ex_then_n ?_
 refine sx_cond x.f2 (by rfl) (fun c_27 => ?_) (fun c_27 => ?_)
 ·
  refine wp_seq ?_
  refine sx_region ?_
  refine sx_rd 15 (.pointer (some ⟨g_23, 4, none⟩)) (by rfl) (by kernel_rfl) ?_
  refine sx_rd 16 (.int .i64 a0_4) (by rfl) (ld1 (t := 3) (p := (.tmp 15)) (by rfl) (by rfl) (by kernel_rfl) (hp.cell 0 (by rfl) 4 _ (by rfl))) ?_
  refine sx_rd 17 (.int .i64 (a0_4 + 1)) (by rfl) (wr_ok (by omega) (by kernel_rfl)) ?_
  refine sx_rd 18 (.pointer (some ⟨g_23, 4, none⟩)) (by rfl) (by kernel_rfl) ?_
  refine sx_store (t := 3) (p := (.tmp 18)) (x := (.tmp 17)) (by rfl) (by rfl) 0 (by rfl) 4 [.int .i64 (a0_4 + 1)] (by rfl) (by rfl) (by kernel_rfl) (by simp [Value.oneCell']) (by show 5 ≤ 5; omega) #[.slice A_13 l0_0.length c_14, .slice A_16 l0_1.length c_17, .slice A_19 l0_2.length c_20, .int .i64 (1 - a0_3), .int .i64 (a0_4 + 1)] (by rfl) hp ?_
  intro W_28 hp; simp only [List.set_cons_succ, List.set_cons_zero] at hp
  refine sx_nil ?_
  refine ex_then_n ?_
  refine wp_seq ?_
  refine sx_region ?_
  refine sx_rd 19 (.agg #[.slice A_13 l0_0.length c_14, .slice A_16 l0_1.length c_17, .slice A_19 l0_2.length c_20, .int .i64 (1 - a0_3), .int .i64 (a0_4 + 1)]) (by rfl) (ldn (t := 31) (p := (.tmp 5)) (by rfl) (by rfl) (by kernel_rfl) (by kernel_rfl) (by kernel_rfl) (hp.at_ 0 _ (by rfl))) ?_
  refine sx_store (t := 31) (p := (.tmp 4)) (x := (.tmp 19)) (by rfl) (by rfl) 4 (by rfl) 0 [.slice A_13 l0_0.length c_14, .slice A_16 l0_1.length c_17, .slice A_19 l0_2.length c_20, .int .i64 (1 - a0_3), .int .i64 (a0_4 + 1)] (by rfl) (by rfl) (by kernel_rfl) (by simp [Value.oneCell']) (by show 5 ≤ 5; omega) #[.slice A_13 l0_0.length c_14, .slice A_16 l0_1.length c_17, .slice A_19 l0_2.length c_20, .int .i64 (1 - a0_3), .int .i64 (a0_4 + 1)] (by rfl) hp ?_
  intro W_29 hp; simp only [List.set_cons_succ, List.set_cons_zero] at hp
  refine sx_nil ?_
  refine ex_then_n ?_
  refine wp_ret ?_
  refine ex_then_r ?_
  refine sx_end (.agg #[.slice A_13 l0_0.length c_14, .slice A_16 l0_1.length c_17, .slice A_19 l0_2.length c_20, .int .i64 (1 - a0_3), .int .i64 (a0_4 + 1)]) (resc (by rfl) (by rfl) (by kernel_rfl) (by kernel_rfl) (hp.at_ 4 _ (by rfl))) ?_
  unfold Gm.makeS at h; rw [if_pos c_27] at h
  simp only [Option.some.injEq, Prod.mk.injEq] at h; obtain ⟨rfl, rfl, rfl, rfl, rfl⟩ := h
  exact ⟨_, _, _, rfl, Kd.R_mono (row_R (hp.at_ 1 _ (by rfl))) (fun k_ hk_ => Hp.apart_rows hp 1 2 (by decide) (by rfl) (by rfl) k_ hk_), Kd.R_mono (row_R (hp.at_ 2 _ (by rfl))) (fun k_ hk_ => Hp.apart_rows hp 2 1 (by decide) (by rfl) (by rfl) k_ hk_), Kd.R_mono (row_R (hp.at_ 3 _ (by rfl))) (fun _ _ => trivial), hc2 _ (hp.tail.tail.tail.tail.tail.tail.tail)⟩
 ·
  obtain ⟨hgx, hxh⟩ := hmk.resolve_left (by rw [c_27]; simp)
  obtain ⟨hg1, hg2, hg3, hg4⟩ := good_bd hgx
  refine wp_skip ?_
  refine ex_then_n ?_
  refine wp_seq ?_
  refine sx_region ?_
  refine sx_rd 20 (.pointer (some ⟨g_23, 4, none⟩)) (by rfl) (by kernel_rfl) ?_
  refine sx_store (t := 3) (p := (.tmp 20)) (x := (.const (Go.Value.int Go.IntKind.i64 0))) (by rfl) (by rfl) 0 (by rfl) 4 [.int .i64 0] (by rfl) (by rfl) (by kernel_rfl) (by simp [Value.oneCell']) (by show 5 ≤ 5; omega) #[.slice A_13 l0_0.length c_14, .slice A_16 l0_1.length c_17, .slice A_19 l0_2.length c_20, .int .i64 (1 - a0_3), .int .i64 0] (by rfl) hp ?_
  intro W_30 hp; simp only [List.set_cons_succ, List.set_cons_zero] at hp
  refine sx_nil ?_
  refine ex_then_n ?_
  refine wp_seq ?_
  refine wp_seq ?_
  refine sx_region ?_
  refine sx_rd 21 (.pointer (some ⟨g_1, 3, none⟩)) (by rfl) (by kernel_rfl) ?_
  refine sx_rd 22 (.int .i64 a0_3) (by rfl) (ld1 (t := 3) (p := (.tmp 21)) (by rfl) (by rfl) (by kernel_rfl) (hp.cell 6 (by rfl) 3 _ (by rfl))) ?_
  refine sx_rd 23 (.bool (a0_3 == 0)) (by rfl) (by kernel_rfl) ?_
  refine sx_nil ?_
  refine ex_then_n ?_
  refine sx_cond (a0_3 == 0) (by rfl) (fun c_31 => ?_) (fun c_31 => ?_)
  ·
   have c_31p := eq_of_beq_ c_31
   refine sx_region ?_
   refine sx_rd 24 (.pointer (some ⟨g_1, 0, none⟩)) (by rfl) (by kernel_rfl) ?_
   refine sx_rd 25 (.slice A0_0 l0_0.length c0_0) (by rfl) (ld1 (t := 29) (p := (.tmp 24)) (by rfl) (by rfl) (by kernel_rfl) (hp.cell 6 (by rfl) 0 _ (by rfl))) ?_
   refine sx_rd 26 (.pointer (some ⟨g_3, 0, none⟩)) (by rfl) (by kernel_rfl) ?_
   refine sx_rd 27 (.agg #[.int .i64 x.f0.f0, .int .i64 x.f0.f1]) (by rfl) (ldn (t := 53) (p := (.tmp 26)) (by rfl) (by rfl) (by kernel_rfl) (by kernel_rfl) (by kernel_rfl) (hp.at_ 5 _ (by rfl))) ?_
   obtain ⟨k_32, hk_k_32⟩ := Ev.rounds (withoutT_ev l0_0 x.f0 (by omega))
   refine sx_call 28 (by rfl) (by kernel_rfl) ((spec_plWithout.calls k_32 A0_0 c0_0 l0_0 x.f0.f0 x.f0.f1 _ _ (hC0_0 _ hp.tail.tail.tail.tail.tail.tail.tail) hc0_0 hk_k_32).mono ?_)
   rintro _ W_38 ⟨v_34, rfl, hR_33, hb⟩
   refine ⟨_, rfl, ?_⟩
   obtain ⟨A_35, c_36, rfl, hcc_c_36, _⟩ := Kd.R_reads hR_33
   obtain ⟨F_37, hp⟩ : ∃ F, Hp w (row k53 53 w.heap.size (.slice A_35 (gone1 l0_0 x.f0).length c_36) (gone1 l0_0 x.f0) F :: blk g_23 #[.slice A_13 l0_0.length c_14, .slice A_16 l0_1.length c_17, .slice A_19 l0_2.length c_20, .int .i64 (1 - a0_3), .int .i64 0] 31 :: row k53 53 w.heap.size (.slice A_13 l0_0.length c_14) l0_0 F_15 :: row k53 53 w.heap.size (.slice A_16 l0_1.length c_17) l0_1 F_18 :: row (Kd.int .i64) 3 w.heap.size (.slice A_19 l0_2.length c_20) l0_2 F_21 :: blk g_5 #[.slice none 0 0, .slice none 0 0, .slice none 0 0, .int .i64 0, .int .i64 0] 31 :: blk g_3 #[.int .i64 x.f0.f0, .int .i64 x.f0.f1, .bool x.f1, .bool x.f2] 55 :: blk g_1 #[.slice A0_0 l0_0.length c0_0, .slice A0_1 l0_1.length c0_1, .slice A0_2 l0_2.length c0_2, .int .i64 a0_3, .int .i64 a0_4] 31 :: cs) _ := ⟨_, Hp.made hp hb hR_33⟩
   refine sx_rd 29 (.pointer (some ⟨g_23, 0, none⟩)) (by rfl) (by kernel_rfl) ?_
   refine sx_store (t := 29) (p := (.tmp 29)) (x := (.tmp 28)) (by rfl) (by rfl) 1 (by rfl) 0 [.slice A_35 ((gone1 l0_0 x.f0).length) c_36] (by rfl) (by rfl) (by kernel_rfl) (by simp [Value.oneCell']) (by show 1 ≤ 5; omega) #[.slice A_35 ((gone1 l0_0 x.f0).length) c_36, .slice A_16 l0_1.length c_17, .slice A_19 l0_2.length c_20, .int .i64 (1 - a0_3), .int .i64 0] (by rfl) hp ?_
   intro W_39 hp; simp only [List.set_cons_succ, List.set_cons_zero] at hp
   refine sx_nil ?_
   refine ex_then_n ?_
   refine wp_seq ?_
   refine sx_region ?_
   refine sx_rd 36 (.pointer (some ⟨g_3, 0, none⟩)) (by rfl) (by kernel_rfl) ?_
   refine sx_rd 37 (.pointer (some ⟨g_3, 0, none⟩)) (by rfl) (by kernel_rfl) ?_
   refine sx_rd 38 (.int .i64 x.f0.f0) (by rfl) (ld1 (t := 3) (p := (.tmp 37)) (by rfl) (by rfl) (by kernel_rfl) (hp.cell 6 (by rfl) 0 _ (by rfl))) ?_
   refine sx_rd 39 (.pointer (some ⟨g_3, 0, none⟩)) (by rfl) (by kernel_rfl) ?_
   refine sx_rd 40 (.pointer (some ⟨g_3, 1, none⟩)) (by rfl) (by kernel_rfl) ?_
   refine sx_rd 41 (.int .i64 x.f0.f1) (by rfl) (ld1 (t := 3) (p := (.tmp 40)) (by rfl) (by rfl) (by kernel_rfl) (hp.cell 6 (by rfl) 1 _ (by rfl))) ?_
   refine sx_rd 42 (.int .i64 (x.f0.f0 + x.f0.f1)) (by rfl) (wr_ok (by omega) (by kernel_rfl)) ?_
   refine sx_rd 6 (.int .i64 (x.f0.f0 + x.f0.f1)) (by rfl) (by kernel_rfl) ?_
   refine sx_nil ?_
   refine ex_then_n ?_
   refine wp_seq ?_
   refine wp_block ?_
   refine wp_seq ?_
   refine sx_region ?_
   refine sx_rd 60 (.pointer (some ⟨g_1, 2, none⟩)) (by rfl) (by kernel_rfl) ?_
   refine sx_rd 61 (.slice A0_2 l0_2.length c0_2) (by rfl) (ld1 (t := 23) (p := (.tmp 60)) (by rfl) (by rfl) (by kernel_rfl) (hp.cell 7 (by rfl) 2 _ (by rfl))) ?_
   refine sx_rd 62 (.int .i64 (l0_2.length : Int)) (by rfl) (by kernel_rfl) ?_
   refine sx_rd 63 (.bool ((l0_2.length : Int) == 0)) (by rfl) (by kernel_rfl) ?_
   refine sx_rd 59 (.bool ((l0_2.length : Int) == 0)) (by rfl) (by kernel_rfl) ?_
   refine sx_nil ?_
   refine ex_then_n ?_
   refine sx_cond ((l0_2.length : Int) == 0) (by rfl) (fun c_40 => ?_) (fun c_40 => ?_)
   ·
    have c_40p := eq_of_beq_ c_40
    refine sx_region ?_
    refine sx_rd 64 (.pointer (some ⟨g_3, 0, none⟩)) (by rfl) (by kernel_rfl) ?_
    refine sx_rd 65 (.pointer (some ⟨g_3, 0, none⟩)) (by rfl) (by kernel_rfl) ?_
    refine sx_rd 66 (.int .i64 x.f0.f0) (by rfl) (ld1 (t := 3) (p := (.tmp 65)) (by rfl) (by rfl) (by kernel_rfl) (hp.cell 6 (by rfl) 0 _ (by rfl))) ?_
    refine sx_rd 67 (.pointer (some ⟨g_3, 0, none⟩)) (by rfl) (by kernel_rfl) ?_
    refine sx_rd 68 (.pointer (some ⟨g_3, 1, none⟩)) (by rfl) (by kernel_rfl) ?_
    refine sx_rd 69 (.int .i64 x.f0.f1) (by rfl) (ld1 (t := 3) (p := (.tmp 68)) (by rfl) (by rfl) (by kernel_rfl) (hp.cell 6 (by rfl) 1 _ (by rfl))) ?_
    refine sx_lit 70 (by rfl) (Kd.int .i64) w.heap.size 3 ([x.f0.f0, x.f0.f1]) [.int .i64 x.f0.f0, .int .i64 x.f0.f1] (fun W => by kernel_rfl) (reps_ints [x.f0.f0, x.f0.f1]) (by simp) hp.size hp ?_
    intro g_41 F_42 W_43 hp hz; clear hz
    refine sx_rd 71 (.pointer (some ⟨g_23, 2, none⟩)) (by rfl) (by kernel_rfl) ?_
    refine sx_store (t := 23) (p := (.tmp 71)) (x := (.tmp 70)) (by rfl) (by rfl) 2 (by rfl) 2 [.slice (some ⟨g_41, 0, none⟩) ([x.f0.f0, x.f0.f1].length) ([x.f0.f0, x.f0.f1].length)] (by rfl) (by rfl) (by kernel_rfl) (by simp [Value.oneCell']) (by show 3 ≤ 5; omega) #[.slice A_35 ((gone1 l0_0 x.f0).length) c_36, .slice A_16 l0_1.length c_17, .slice (some ⟨g_41, 0, none⟩) ([x.f0.f0, x.f0.f1].length) ([x.f0.f0, x.f0.f1].length), .int .i64 (1 - a0_3), .int .i64 0] (by rfl) hp ?_
    intro W_44 hp; simp only [List.set_cons_succ, List.set_cons_zero] at hp
    refine sx_nil ?_
    refine ex_blk_n ?_
    refine ex_then_n ?_
    refine wp_seq ?_
    refine sx_region ?_
    refine sx_rd 86 (.agg #[.slice A_35 ((gone1 l0_0 x.f0).length) c_36, .slice A_16 l0_1.length c_17, .slice (some ⟨g_41, 0, none⟩) ([x.f0.f0, x.f0.f1].length) ([x.f0.f0, x.f0.f1].length), .int .i64 (1 - a0_3), .int .i64 0]) (by rfl) (ldn (t := 31) (p := (.tmp 5)) (by rfl) (by rfl) (by kernel_rfl) (by kernel_rfl) (by kernel_rfl) (hp.at_ 2 _ (by rfl))) ?_
    refine sx_store (t := 31) (p := (.tmp 4)) (x := (.tmp 86)) (by rfl) (by rfl) 6 (by rfl) 0 [.slice A_35 ((gone1 l0_0 x.f0).length) c_36, .slice A_16 l0_1.length c_17, .slice (some ⟨g_41, 0, none⟩) ([x.f0.f0, x.f0.f1].length) ([x.f0.f0, x.f0.f1].length), .int .i64 (1 - a0_3), .int .i64 0] (by rfl) (by rfl) (by kernel_rfl) (by simp [Value.oneCell']) (by show 5 ≤ 5; omega) #[.slice A_35 ((gone1 l0_0 x.f0).length) c_36, .slice A_16 l0_1.length c_17, .slice (some ⟨g_41, 0, none⟩) ([x.f0.f0, x.f0.f1].length) ([x.f0.f0, x.f0.f1].length), .int .i64 (1 - a0_3), .int .i64 0] (by rfl) hp ?_
    intro W_45 hp; simp only [List.set_cons_succ, List.set_cons_zero] at hp
    refine sx_nil ?_
    refine ex_then_n ?_
    refine wp_ret ?_
    refine sx_end (.agg #[.slice A_35 ((gone1 l0_0 x.f0).length) c_36, .slice A_16 l0_1.length c_17, .slice (some ⟨g_41, 0, none⟩) ([x.f0.f0, x.f0.f1].length) ([x.f0.f0, x.f0.f1].length), .int .i64 (1 - a0_3), .int .i64 0]) (resc (by rfl) (by rfl) (by kernel_rfl) (by kernel_rfl) (hp.at_ 6 _ (by rfl))) ?_
    unfold Gm.makeS rowP at h; rw [if_neg (by rw [c_27]; simp)] at h; dsimp only at h
    simp only [if_pos c_31p] at h
    rw [if_pos (by omega)] at h
    simp only [Option.some.injEq, Prod.mk.injEq] at h; obtain ⟨rfl, rfl, rfl, rfl, rfl⟩ := h
    exact ⟨_, _, _, rfl, Kd.R_mono (row_R (hp.at_ 1 _ (by rfl))) (fun k_ hk_ => Hp.apart_rows hp 1 4 (by decide) (by rfl) (by rfl) k_ hk_), Kd.R_mono (row_R (hp.at_ 4 _ (by rfl))) (fun k_ hk_ => Hp.apart_rows hp 4 1 (by decide) (by rfl) (by rfl) k_ hk_), Kd.R_mono (row_R (hp.at_ 0 _ (by rfl))) (fun _ _ => trivial), hc2 _ (hp.tail.tail.tail.tail.tail.tail.tail.tail.tail)⟩
   ·
    have c_40p := ne_of_beq_ c_40
    refine wp_seq ?_
    refine sx_region ?_
    refine sx_rd 73 (.pointer (some ⟨g_3, 2, none⟩)) (by rfl) (by kernel_rfl) ?_
    refine sx_rd 74 (.bool x.f1) (by rfl) (ld1 (t := 4) (p := (.tmp 73)) (by rfl) (by rfl) (by kernel_rfl) (hp.cell 6 (by rfl) 2 _ (by rfl))) ?_
    refine sx_rd 72 (.bool x.f1) (by rfl) (by kernel_rfl) ?_
    refine sx_nil ?_
    refine ex_then_n ?_
    refine sx_cond x.f1 (by rfl) (fun c_46 => ?_) (fun c_46 => ?_)
    ·
     have hxb := hxh (by omega)
     rw [if_pos c_46] at hxb
     have hbd := has_bd hgx hxb
     unfold endA at hbd
     refine sx_drawT [0, 1, 7] (.rd 2 (.rd 3 (.rd 4 (.rd 5 (.rd 8 (.alt 6 (.alt 9 (.rd 10 (.fin)) .non) .non)))))) 11 (C := Hp w (row k53 53 w.heap.size (.slice A_35 ((gone1 l0_0 x.f0).length) c_36) (gone1 l0_0 x.f0) F_37 :: blk g_23 #[.slice A_35 ((gone1 l0_0 x.f0).length) c_36, .slice A_16 l0_1.length c_17, .slice A_19 l0_2.length c_20, .int .i64 (1 - a0_3), .int .i64 0] 31 :: row k53 53 w.heap.size (.slice A_13 l0_0.length c_14) l0_0 F_15 :: row k53 53 w.heap.size (.slice A_16 l0_1.length c_17) l0_1 F_18 :: row (Kd.int .i64) 3 w.heap.size (.slice A_19 l0_2.length c_20) l0_2 F_21 :: blk g_5 #[.slice none 0 0, .slice none 0 0, .slice none 0 0, .int .i64 0, .int .i64 0] 31 :: blk g_3 #[.int .i64 x.f0.f0, .int .i64 x.f0.f1, .bool x.f1, .bool x.f2] 55 :: blk g_1 #[.slice A0_0 l0_0.length c0_0, .slice A0_1 l0_1.length c0_1, .slice A0_2 l0_2.length c0_2, .int .i64 a0_3, .int .i64 a0_4] 31 :: cs)) (by kernel_rfl) (by kernel_rfl) (fun d _ _ _ _ h => by cases d <;> exact h) (fun W h => h.drew) hp ?_
     refine preI_read rfl ?_
     refine sxq_val 75 (.int .i64 (x.f0.f0 + x.f0.f1)) (by rfl) (fun W _ => (by kernel_rfl)) ?_
     refine sxq_nil ?_
     refine preI_read rfl ?_
     refine sxq_val 76 (.pointer (some ⟨g_1, 2, none⟩)) (by rfl) (fun W _ => (by kernel_rfl)) ?_
     refine sxq_nil ?_
     refine preI_read rfl ?_
     refine sxq_val 82 (.pointer (some ⟨g_1, 2, none⟩)) (by rfl) (fun W _ => (by kernel_rfl)) ?_
     refine sxq_nil ?_
     refine preI_nil ?_
     intro W_47 hp
     refine treeI_rd rfl ?_
     refine sxq_val 77 (.slice A0_2 l0_2.length c0_2) (by rfl) (fun W hp => (ld1 (t := 23) (p := (.tmp 76)) (by rfl) (by rfl) (by kernel_rfl) (hp.cell 7 (by rfl) 2 _ (by rfl)))) ?_
     refine sxq_nil ?_
     refine treeI_rd rfl ?_
     refine sxq_val 78 (.pointer (some (adr A0_2 0 1))) (by rfl) (fun W hp => (ix_run (d := (Kd.int .i64)) (hC0_2 _ hp.tail.tail.tail.tail.tail.tail.tail.tail) (t := 23) (by rfl) (by rfl) (by rfl) Tryz.underlying23 (by kernel_rfl) (by omega) (by omega))) ?_
     refine sxq_nil ?_
     refine treeI_rd rfl ?_
     refine sxq_val 79 (.int .i64 (rd l0_2 0)) (by rfl) (fun W hp => (ld1 (t := 3) (p := (.tmp 78)) (by rfl) (by rfl) (by kernel_rfl) (el_cell (d := (Kd.int .i64)) (hC0_2 _ hp.tail.tail.tail.tail.tail.tail.tail.tail) 0 0 (by omega) (by omega) (cells := [.int .i64 (rd l0_2 0)]) (fun cs h => h) 0 _ (by rfl)))) ?_
     refine sxq_nil ?_
     refine treeI_rd rfl ?_
     refine sxq_val 80 (.int .i64 ((x.f0.f0 + x.f0.f1) - (rd l0_2 0))) (by rfl) (fun W hp => (wr_ok (by omega) (by kernel_rfl))) ?_
     refine sxq_nil ?_
     refine treeI_rd rfl ?_
     refine sxq_val 83 (.slice A0_2 l0_2.length c0_2) (by rfl) (fun W hp => (ld1 (t := 23) (p := (.tmp 82)) (by rfl) (by rfl) (by kernel_rfl) (hp.cell 7 (by rfl) 2 _ (by rfl)))) ?_
     refine sxq_nil ?_
     refine treeI_ev rfl ?_
     refine sx_lit 81 (by rfl) (Kd.int .i64) w.heap.size 3 ([((x.f0.f0 + x.f0.f1) - (rd l0_2 0))]) [.int .i64 ((x.f0.f0 + x.f0.f1) - (rd l0_2 0))] (fun W => by kernel_rfl) (Reps.snoc (cs := []) (Reps.none _ _) rfl rfl) (by simp) hp.size hp ?_
     intro g_48 F_49 W_50 hp hz; clear hz
     refine step_fin hp.tail ?_
     refine treeI_ev rfl ?_
     refine sx_append 84 (by rfl) (Kd.int .i64) 0 (by rfl) (.int .i64 0) 8 (by rfl) Tryz.underlying23 (by kernel_rfl) rfl (by decide) (by decide) l0_2 (by rfl) (by rfl) (hC0_2 _ hp.tail.tail.tail.tail.tail.tail.tail.tail.tail) (fun x cs h => h) hp.size (by first | omega | (simp; omega)) hp ?_
     intro A_51 c_52 F_53 W_54 hp hz; clear hz; simp only [List.set_cons_succ, List.set_cons_zero] at hp
     refine step_fin hp.tail ?_
     refine treeI_rd rfl ?_
     refine sxq_val 85 (.pointer (some ⟨g_23, 2, none⟩)) (by rfl) (fun W hp => (by kernel_rfl)) ?_
     refine sxq_nil ?_
     refine treeI_fin ?_
     refine tail_of [11] (by rfl) ?_
     refine tailI_op rfl ?_
     refine sx_store (t := 23) (p := (.tmp 85)) (x := (.tmp 84)) (by rfl) (by rfl) 2 (by rfl) 2 [.slice A_51 (([((x.f0.f0 + x.f0.f1) - (rd l0_2 0))] ++ l0_2).length) c_52] (by rfl) (by rfl) (by kernel_rfl) (by simp [Value.oneCell']) (by show 3 ≤ 5; omega) #[.slice A_35 ((gone1 l0_0 x.f0).length) c_36, .slice A_16 l0_1.length c_17, .slice A_51 (([((x.f0.f0 + x.f0.f1) - (rd l0_2 0))] ++ l0_2).length) c_52, .int .i64 (1 - a0_3), .int .i64 0] (by rfl) hp ?_
     intro W_55 hp; simp only [List.set_cons_succ, List.set_cons_zero] at hp
     refine tailI_next ?_
     refine tailI_nil ?_
     refine ex_blk_n ?_
     refine ex_then_n ?_
     refine wp_seq ?_
     refine sx_region ?_
     refine sx_rd 86 (.agg #[.slice A_35 ((gone1 l0_0 x.f0).length) c_36, .slice A_16 l0_1.length c_17, .slice A_51 (([((x.f0.f0 + x.f0.f1) - (rd l0_2 0))] ++ l0_2).length) c_52, .int .i64 (1 - a0_3), .int .i64 0]) (by rfl) (ldn (t := 31) (p := (.tmp 5)) (by rfl) (by rfl) (by kernel_rfl) (by kernel_rfl) (by kernel_rfl) (hp.at_ 2 _ (by rfl))) ?_
     refine sx_store (t := 31) (p := (.tmp 4)) (x := (.tmp 86)) (by rfl) (by rfl) 6 (by rfl) 0 [.slice A_35 ((gone1 l0_0 x.f0).length) c_36, .slice A_16 l0_1.length c_17, .slice A_51 (([((x.f0.f0 + x.f0.f1) - (rd l0_2 0))] ++ l0_2).length) c_52, .int .i64 (1 - a0_3), .int .i64 0] (by rfl) (by rfl) (by kernel_rfl) (by simp [Value.oneCell']) (by show 5 ≤ 5; omega) #[.slice A_35 ((gone1 l0_0 x.f0).length) c_36, .slice A_16 l0_1.length c_17, .slice A_51 (([((x.f0.f0 + x.f0.f1) - (rd l0_2 0))] ++ l0_2).length) c_52, .int .i64 (1 - a0_3), .int .i64 0] (by rfl) hp ?_
     intro W_56 hp; simp only [List.set_cons_succ, List.set_cons_zero] at hp
     refine sx_nil ?_
     refine ex_then_n ?_
     refine wp_ret ?_
     refine sx_end (.agg #[.slice A_35 ((gone1 l0_0 x.f0).length) c_36, .slice A_16 l0_1.length c_17, .slice A_51 (([((x.f0.f0 + x.f0.f1) - (rd l0_2 0))] ++ l0_2).length) c_52, .int .i64 (1 - a0_3), .int .i64 0]) (resc (by rfl) (by rfl) (by kernel_rfl) (by kernel_rfl) (hp.at_ 6 _ (by rfl))) ?_
     unfold Gm.makeS rowP at h; rw [if_neg (by rw [c_27]; simp)] at h; dsimp only at h
     simp only [if_pos c_31p] at h
     rw [if_neg (by omega)] at h
     rw [if_pos c_46] at h; unfold otherN endA at h
     simp only [Option.some.injEq, Prod.mk.injEq] at h; obtain ⟨rfl, rfl, rfl, rfl, rfl⟩ := h
     exact ⟨_, _, _, rfl, Kd.R_mono (row_R (hp.at_ 1 _ (by rfl))) (fun k_ hk_ => Hp.apart_rows hp 1 4 (by decide) (by rfl) (by rfl) k_ hk_), Kd.R_mono (row_R (hp.at_ 4 _ (by rfl))) (fun k_ hk_ => Hp.apart_rows hp 4 1 (by decide) (by rfl) (by rfl) k_ hk_), Kd.R_mono (row_R (hp.at_ 0 _ (by rfl))) (fun _ _ => trivial), hc2 _ (hp.tail.tail.tail.tail.tail.tail.tail.tail.tail)⟩
    ·
     have hxb := hxh (by omega)
     rw [if_neg (by rw [c_46]; simp)] at hxb
     have hbd := has_bd hgx hxb
     unfold endB at hbd
     refine sx_drawI (fun a_ W => ∃ (r_ : List (Nat × Value)) (Am_71 : Option Addr) (cm_72 : Nat) (Fm_73 : Nat → Prop), a_ = fr 87 ([(4, .pointer (some ⟨g_5, 0, none⟩)), (5, .pointer (some ⟨g_23, 0, none⟩)), (57, .slice Am_71 ((l0_2 ++ [((x.f0.f0 + x.f0.f1) - (rd l0_2 ((l0_2.length : Int) - 1)))]).length) cm_72), (58, .pointer (some ⟨g_23, 2, none⟩))] ++ r_) ∧ Hp w (row (Kd.int .i64) 3 w.heap.size (.slice Am_71 ((l0_2 ++ [((x.f0.f0 + x.f0.f1) - (rd l0_2 ((l0_2.length : Int) - 1)))]).length) cm_72) (l0_2 ++ [((x.f0.f0 + x.f0.f1) - (rd l0_2 ((l0_2.length : Int) - 1)))]) Fm_73 :: row k53 53 w.heap.size (.slice A_35 ((gone1 l0_0 x.f0).length) c_36) (gone1 l0_0 x.f0) F_37 :: blk g_23 #[.slice A_35 ((gone1 l0_0 x.f0).length) c_36, .slice A_16 l0_1.length c_17, .slice A_19 l0_2.length c_20, .int .i64 (1 - a0_3), .int .i64 0] 31 :: row k53 53 w.heap.size (.slice A_13 l0_0.length c_14) l0_0 F_15 :: row k53 53 w.heap.size (.slice A_16 l0_1.length c_17) l0_1 F_18 :: row (Kd.int .i64) 3 w.heap.size (.slice A_19 l0_2.length c_20) l0_2 F_21 :: blk g_5 #[.slice none 0 0, .slice none 0 0, .slice none 0 0, .int .i64 0, .int .i64 0] 31 :: blk g_3 #[.int .i64 x.f0.f0, .int .i64 x.f0.f1, .bool x.f1, .bool x.f2] 55 :: blk g_1 #[.slice A0_0 l0_0.length c0_0, .slice A0_1 l0_1.length c0_1, .slice A0_2 l0_2.length c0_2, .int .i64 a0_3, .int .i64 a0_4] 31 :: cs) W) [0, 3, 4, 6] (.rd 1 (.rd 5 (.rd 7 (.rd 8 (.rd 9 (.rd 10 (.rd 11 (.rd 12 (.alt 2 (.alt 13 (.alt 14 (.rd 15 (.fin)) .non) .non) (.alt 13 (.alt 2 (.alt 14 (.rd 15 (.fin)) .non) .non) (.non))))))))))) 16 (C := Hp w (row k53 53 w.heap.size (.slice A_35 ((gone1 l0_0 x.f0).length) c_36) (gone1 l0_0 x.f0) F_37 :: blk g_23 #[.slice A_35 ((gone1 l0_0 x.f0).length) c_36, .slice A_16 l0_1.length c_17, .slice A_19 l0_2.length c_20, .int .i64 (1 - a0_3), .int .i64 0] 31 :: row k53 53 w.heap.size (.slice A_13 l0_0.length c_14) l0_0 F_15 :: row k53 53 w.heap.size (.slice A_16 l0_1.length c_17) l0_1 F_18 :: row (Kd.int .i64) 3 w.heap.size (.slice A_19 l0_2.length c_20) l0_2 F_21 :: blk g_5 #[.slice none 0 0, .slice none 0 0, .slice none 0 0, .int .i64 0, .int .i64 0] 31 :: blk g_3 #[.int .i64 x.f0.f0, .int .i64 x.f0.f1, .bool x.f1, .bool x.f2] 55 :: blk g_1 #[.slice A0_0 l0_0.length c0_0, .slice A0_1 l0_1.length c0_1, .slice A0_2 l0_2.length c0_2, .int .i64 a0_3, .int .i64 a0_4] 31 :: cs)) (by kernel_rfl) (by kernel_rfl) (fun d _ _ _ _ h => by cases d <;> exact h) (fun W h => h.drew) hp ?_ ?_
     ·
      refine preI_read rfl ?_
      refine sxq_val 43 (.pointer (some ⟨g_1, 2, none⟩)) (by rfl) (fun W _ => (by kernel_rfl)) ?_
      refine sxq_nil ?_
      refine preI_read rfl ?_
      refine sxq_val 46 (.int .i64 (x.f0.f0 + x.f0.f1)) (by rfl) (fun W _ => (by kernel_rfl)) ?_
      refine sxq_nil ?_
      refine preI_read rfl ?_
      refine sxq_val 47 (.pointer (some ⟨g_1, 2, none⟩)) (by rfl) (fun W _ => (by kernel_rfl)) ?_
      refine sxq_nil ?_
      refine preI_read rfl ?_
      refine sxq_val 49 (.pointer (some ⟨g_1, 2, none⟩)) (by rfl) (fun W _ => (by kernel_rfl)) ?_
      refine sxq_nil ?_
      refine preI_nil ?_
      intro W_57 hp
      refine treeI_rd rfl ?_
      refine sxq_val 44 (.slice A0_2 l0_2.length c0_2) (by rfl) (fun W hp => (ld1 (t := 23) (p := (.tmp 43)) (by rfl) (by rfl) (by kernel_rfl) (hp.cell 7 (by rfl) 2 _ (by rfl)))) ?_
      refine sxq_nil ?_
      refine treeI_rd rfl ?_
      refine sxq_val 48 (.slice A0_2 l0_2.length c0_2) (by rfl) (fun W hp => (ld1 (t := 23) (p := (.tmp 47)) (by rfl) (by rfl) (by kernel_rfl) (hp.cell 7 (by rfl) 2 _ (by rfl)))) ?_
      refine sxq_nil ?_
      refine treeI_rd rfl ?_
      refine sxq_val 50 (.slice A0_2 l0_2.length c0_2) (by rfl) (fun W hp => (ld1 (t := 23) (p := (.tmp 49)) (by rfl) (by rfl) (by kernel_rfl) (hp.cell 7 (by rfl) 2 _ (by rfl)))) ?_
      refine sxq_nil ?_
      refine treeI_rd rfl ?_
      refine sxq_val 51 (.int .i64 (l0_2.length : Int)) (by rfl) (fun W hp => (by kernel_rfl)) ?_
      refine sxq_nil ?_
      refine treeI_rd rfl ?_
      refine sxq_val 52 (.int .i64 ((l0_2.length : Int) - 1)) (by rfl) (fun W hp => (wr_ok (by omega) (by kernel_rfl))) ?_
      refine sxq_nil ?_
      refine treeI_rd rfl ?_
      refine sxq_val 53 (.pointer (some (adr A0_2 ((l0_2.length : Int) - 1) 1))) (by rfl) (fun W hp => (ix_run (d := (Kd.int .i64)) (hC0_2 _ hp.tail.tail.tail.tail.tail.tail.tail.tail) (t := 23) (by rfl) (by rfl) (by rfl) Tryz.underlying23 (by kernel_rfl) (by omega) (by omega))) ?_
      refine sxq_nil ?_
      refine treeI_rd rfl ?_
      refine sxq_val 54 (.int .i64 (rd l0_2 ((l0_2.length : Int) - 1))) (by rfl) (fun W hp => (ld1 (t := 3) (p := (.tmp 53)) (by rfl) (by rfl) (by kernel_rfl) (el_cell (d := (Kd.int .i64)) (hC0_2 _ hp.tail.tail.tail.tail.tail.tail.tail.tail) 0 ((l0_2.length : Int) - 1) (by omega) (by omega) (cells := [.int .i64 (rd l0_2 ((l0_2.length : Int) - 1))]) (fun cs h => h) 0 _ (by rfl)))) ?_
      refine sxq_nil ?_
      refine treeI_rd rfl ?_
      refine sxq_val 55 (.int .i64 ((x.f0.f0 + x.f0.f1) - (rd l0_2 ((l0_2.length : Int) - 1)))) (by rfl) (fun W hp => (wr_ok (by omega) (by kernel_rfl))) ?_
      refine sxq_nil ?_
      refine treeI_alt rfl ?_ ?_
      ·
       refine sx_call 45 (by rfl) (by kernel_rfl) ((spec_l1Own.calls A0_2 c0_2 l0_2 _ _ (hC0_2 _ hp.tail.tail.tail.tail.tail.tail.tail.tail) hc0_2 (l1OwnG_eq l0_2 (by omega))).mono ?_)
       rintro _ W_63 ⟨v_59, rfl, hR_58, hb⟩
       refine ⟨_, rfl, ?_⟩
       obtain ⟨A_60, c_61, rfl, hcc_c_61, _⟩ := Kd.R_reads hR_58
       obtain ⟨F_62, hp⟩ : ∃ F, Hp w (row (Kd.int .i64) 3 w.heap.size (.slice A_60 l0_2.length c_61) l0_2 F :: row k53 53 w.heap.size (.slice A_35 ((gone1 l0_0 x.f0).length) c_36) (gone1 l0_0 x.f0) F_37 :: blk g_23 #[.slice A_35 ((gone1 l0_0 x.f0).length) c_36, .slice A_16 l0_1.length c_17, .slice A_19 l0_2.length c_20, .int .i64 (1 - a0_3), .int .i64 0] 31 :: row k53 53 w.heap.size (.slice A_13 l0_0.length c_14) l0_0 F_15 :: row k53 53 w.heap.size (.slice A_16 l0_1.length c_17) l0_1 F_18 :: row (Kd.int .i64) 3 w.heap.size (.slice A_19 l0_2.length c_20) l0_2 F_21 :: blk g_5 #[.slice none 0 0, .slice none 0 0, .slice none 0 0, .int .i64 0, .int .i64 0] 31 :: blk g_3 #[.int .i64 x.f0.f0, .int .i64 x.f0.f1, .bool x.f1, .bool x.f2] 55 :: blk g_1 #[.slice A0_0 l0_0.length c0_0, .slice A0_1 l0_1.length c0_1, .slice A0_2 l0_2.length c0_2, .int .i64 a0_3, .int .i64 a0_4] 31 :: cs) _ := ⟨_, Hp.made hp hb hR_58⟩
       refine step_fin hp.tail ?_
       refine treeI_ev rfl ?_
       refine sx_lit 56 (by rfl) (Kd.int .i64) w.heap.size 3 ([((x.f0.f0 + x.f0.f1) - (rd l0_2 ((l0_2.length : Int) - 1)))]) [.int .i64 ((x.f0.f0 + x.f0.f1) - (rd l0_2 ((l0_2.length : Int) - 1)))] (fun W => by kernel_rfl) (Reps.snoc (cs := []) (Reps.none _ _) rfl rfl) (by simp) hp.size hp ?_
       intro g_64 F_65 W_66 hp hz; clear hz
       refine step_fin hp.tail.tail ?_
       refine treeI_ev rfl ?_
       refine sx_append 57 (by rfl) (Kd.int .i64) 1 (by rfl) (.int .i64 0) 8 (by rfl) Tryz.underlying23 (by kernel_rfl) rfl (by decide) (by decide) ([((x.f0.f0 + x.f0.f1) - (rd l0_2 ((l0_2.length : Int) - 1)))]) (by rfl) (by rfl) (row_C (hp.at_ 0 _ (by rfl))) (fun x cs h => h) hp.size (by first | omega | (simp; omega)) hp ?_
       intro A_67 c_68 F_69 W_70 hp hz; clear hz; simp only [List.set_cons_succ, List.set_cons_zero] at hp
       refine step_fin hp.tail.tail ?_
       refine treeI_rd rfl ?_
       refine sxq_val 58 (.pointer (some ⟨g_23, 2, none⟩)) (by rfl) (fun W hp => (by kernel_rfl)) ?_
       refine sxq_nil ?_
       refine treeI_fin ?_
       exact ⟨_, A_67, c_68, F_69, fr_front [(4, .pointer (some ⟨g_5, 0, none⟩)), (5, .pointer (some ⟨g_23, 0, none⟩)), (57, .slice A_67 ((l0_2 ++ [((x.f0.f0 + x.f0.f1) - (rd l0_2 ((l0_2.length : Int) - 1)))]).length) c_68), (58, .pointer (some ⟨g_23, 2, none⟩))] ⟨rfl, rfl, rfl, rfl, trivial⟩, (hp.take [1, 2, 3, 4, 5, 6, 7, 8, 9] 10 (by decide) (by simp))⟩
      refine treeI_alt rfl ?_ ?_
      ·
       refine sx_lit 56 (by rfl) (Kd.int .i64) w.heap.size 3 ([((x.f0.f0 + x.f0.f1) - (rd l0_2 ((l0_2.length : Int) - 1)))]) [.int .i64 ((x.f0.f0 + x.f0.f1) - (rd l0_2 ((l0_2.length : Int) - 1)))] (fun W => by kernel_rfl) (Reps.snoc (cs := []) (Reps.none _ _) rfl rfl) (by simp) hp.size hp ?_
       intro g_74 F_75 W_76 hp hz; clear hz
       refine step_fin hp.tail ?_
       refine treeI_ev rfl ?_
       refine sx_call 45 (by rfl) (by kernel_rfl) ((spec_l1Own.calls A0_2 c0_2 l0_2 _ _ (hC0_2 _ hp.tail.tail.tail.tail.tail.tail.tail.tail.tail) hc0_2 (l1OwnG_eq l0_2 (by omega))).mono ?_)
       rintro _ W_82 ⟨v_78, rfl, hR_77, hb⟩
       refine ⟨_, rfl, ?_⟩
       obtain ⟨A_79, c_80, rfl, hcc_c_80, _⟩ := Kd.R_reads hR_77
       obtain ⟨F_81, hp⟩ : ∃ F, Hp w (row (Kd.int .i64) 3 w.heap.size (.slice A_79 l0_2.length c_80) l0_2 F :: row (Kd.int .i64) 3 w.heap.size (.slice (some ⟨g_74, 0, none⟩) ([((x.f0.f0 + x.f0.f1) - (rd l0_2 ((l0_2.length : Int) - 1)))].length) ([((x.f0.f0 + x.f0.f1) - (rd l0_2 ((l0_2.length : Int) - 1)))].length)) ([((x.f0.f0 + x.f0.f1) - (rd l0_2 ((l0_2.length : Int) - 1)))]) F_75 :: row k53 53 w.heap.size (.slice A_35 ((gone1 l0_0 x.f0).length) c_36) (gone1 l0_0 x.f0) F_37 :: blk g_23 #[.slice A_35 ((gone1 l0_0 x.f0).length) c_36, .slice A_16 l0_1.length c_17, .slice A_19 l0_2.length c_20, .int .i64 (1 - a0_3), .int .i64 0] 31 :: row k53 53 w.heap.size (.slice A_13 l0_0.length c_14) l0_0 F_15 :: row k53 53 w.heap.size (.slice A_16 l0_1.length c_17) l0_1 F_18 :: row (Kd.int .i64) 3 w.heap.size (.slice A_19 l0_2.length c_20) l0_2 F_21 :: blk g_5 #[.slice none 0 0, .slice none 0 0, .slice none 0 0, .int .i64 0, .int .i64 0] 31 :: blk g_3 #[.int .i64 x.f0.f0, .int .i64 x.f0.f1, .bool x.f1, .bool x.f2] 55 :: blk g_1 #[.slice A0_0 l0_0.length c0_0, .slice A0_1 l0_1.length c0_1, .slice A0_2 l0_2.length c0_2, .int .i64 a0_3, .int .i64 a0_4] 31 :: cs) _ := ⟨_, Hp.made hp hb hR_77⟩
       refine step_fin hp.tail.tail ?_
       refine treeI_ev rfl ?_
       refine sx_append 57 (by rfl) (Kd.int .i64) 0 (by rfl) (.int .i64 0) 8 (by rfl) Tryz.underlying23 (by kernel_rfl) rfl (by decide) (by decide) ([((x.f0.f0 + x.f0.f1) - (rd l0_2 ((l0_2.length : Int) - 1)))]) (by rfl) (by rfl) (row_C (hp.at_ 1 _ (by rfl))) (fun x cs h => h) hp.size (by first | omega | (simp; omega)) hp ?_
       intro A_83 c_84 F_85 W_86 hp hz; clear hz; simp only [List.set_cons_succ, List.set_cons_zero] at hp
       refine step_fin hp.tail.tail ?_
       refine treeI_rd rfl ?_
       refine sxq_val 58 (.pointer (some ⟨g_23, 2, none⟩)) (by rfl) (fun W hp => (by kernel_rfl)) ?_
       refine sxq_nil ?_
       refine treeI_fin ?_
       exact ⟨_, A_83, c_84, F_85, fr_front [(4, .pointer (some ⟨g_5, 0, none⟩)), (5, .pointer (some ⟨g_23, 0, none⟩)), (57, .slice A_83 ((l0_2 ++ [((x.f0.f0 + x.f0.f1) - (rd l0_2 ((l0_2.length : Int) - 1)))]).length) c_84), (58, .pointer (some ⟨g_23, 2, none⟩))] ⟨rfl, rfl, rfl, rfl, trivial⟩, (hp.take [0, 2, 3, 4, 5, 6, 7, 8, 9] 10 (by decide) (by simp))⟩
      exact treeI_non
     ·
      rintro _ W_87 ⟨r_, Am_71, cm_72, Fm_73, rfl, hp⟩
      refine tail_of [16] (by rfl) ?_
      refine tailI_op rfl ?_
      refine sx_store (t := 23) (p := (.tmp 58)) (x := (.tmp 57)) (by rfl) (by rfl) 2 (by rfl) 2 [.slice Am_71 ((l0_2 ++ [((x.f0.f0 + x.f0.f1) - (rd l0_2 ((l0_2.length : Int) - 1)))]).length) cm_72] (by rfl) (by rfl) (by kernel_rfl) (by simp [Value.oneCell']) (by show 3 ≤ 5; omega) #[.slice A_35 ((gone1 l0_0 x.f0).length) c_36, .slice A_16 l0_1.length c_17, .slice Am_71 ((l0_2 ++ [((x.f0.f0 + x.f0.f1) - (rd l0_2 ((l0_2.length : Int) - 1)))]).length) cm_72, .int .i64 (1 - a0_3), .int .i64 0] (by rfl) hp ?_
      intro W_88 hp; simp only [List.set_cons_succ, List.set_cons_zero] at hp
      refine tailI_next ?_
      refine tailI_nil ?_
      refine ex_blk_n ?_
      refine ex_then_n ?_
      refine wp_seq ?_
      refine sx_region ?_
      refine sx_rd 86 (.agg #[.slice A_35 ((gone1 l0_0 x.f0).length) c_36, .slice A_16 l0_1.length c_17, .slice Am_71 ((l0_2 ++ [((x.f0.f0 + x.f0.f1) - (rd l0_2 ((l0_2.length : Int) - 1)))]).length) cm_72, .int .i64 (1 - a0_3), .int .i64 0]) (by rfl) (ldn (t := 31) (p := (.tmp 5)) (by rfl) (by rfl) (by kernel_rfl) (by kernel_rfl) (by kernel_rfl) (hp.at_ 2 _ (by rfl))) ?_
      refine sx_store (t := 31) (p := (.tmp 4)) (x := (.tmp 86)) (by rfl) (by rfl) 6 (by rfl) 0 [.slice A_35 ((gone1 l0_0 x.f0).length) c_36, .slice A_16 l0_1.length c_17, .slice Am_71 ((l0_2 ++ [((x.f0.f0 + x.f0.f1) - (rd l0_2 ((l0_2.length : Int) - 1)))]).length) cm_72, .int .i64 (1 - a0_3), .int .i64 0] (by rfl) (by rfl) (by kernel_rfl) (by simp [Value.oneCell']) (by show 5 ≤ 5; omega) #[.slice A_35 ((gone1 l0_0 x.f0).length) c_36, .slice A_16 l0_1.length c_17, .slice Am_71 ((l0_2 ++ [((x.f0.f0 + x.f0.f1) - (rd l0_2 ((l0_2.length : Int) - 1)))]).length) cm_72, .int .i64 (1 - a0_3), .int .i64 0] (by rfl) hp ?_
      intro W_89 hp; simp only [List.set_cons_succ, List.set_cons_zero] at hp
      refine sx_nil ?_
      refine ex_then_n ?_
      refine wp_ret ?_
      refine sx_end (.agg #[.slice A_35 ((gone1 l0_0 x.f0).length) c_36, .slice A_16 l0_1.length c_17, .slice Am_71 ((l0_2 ++ [((x.f0.f0 + x.f0.f1) - (rd l0_2 ((l0_2.length : Int) - 1)))]).length) cm_72, .int .i64 (1 - a0_3), .int .i64 0]) (resc (by rfl) (by rfl) (by kernel_rfl) (by kernel_rfl) (hp.at_ 6 _ (by rfl))) ?_
      unfold Gm.makeS rowP at h; rw [if_neg (by rw [c_27]; simp)] at h; dsimp only at h
      simp only [if_pos c_31p] at h
      rw [if_neg (by omega)] at h
      rw [if_neg (by rw [c_46]; simp)] at h; unfold otherN endB at h
      simp only [Option.some.injEq, Prod.mk.injEq] at h; obtain ⟨rfl, rfl, rfl, rfl, rfl⟩ := h
      exact ⟨_, _, _, rfl, Kd.R_mono (row_R (hp.at_ 1 _ (by rfl))) (fun k_ hk_ => Hp.apart_rows hp 1 4 (by decide) (by rfl) (by rfl) k_ hk_), Kd.R_mono (row_R (hp.at_ 4 _ (by rfl))) (fun k_ hk_ => Hp.apart_rows hp 4 1 (by decide) (by rfl) (by rfl) k_ hk_), Kd.R_mono (row_R (hp.at_ 0 _ (by rfl))) (fun _ _ => trivial), hc2 _ (hp.tail.tail.tail.tail.tail.tail.tail.tail.tail)⟩
  ·
   have c_31p := ne_of_beq_ c_31
   refine sx_region ?_
   refine sx_rd 30 (.pointer (some ⟨g_1, 1, none⟩)) (by rfl) (by kernel_rfl) ?_
   refine sx_rd 31 (.slice A0_1 l0_1.length c0_1) (by rfl) (ld1 (t := 29) (p := (.tmp 30)) (by rfl) (by rfl) (by kernel_rfl) (hp.cell 6 (by rfl) 1 _ (by rfl))) ?_
   refine sx_rd 32 (.pointer (some ⟨g_3, 0, none⟩)) (by rfl) (by kernel_rfl) ?_
   refine sx_rd 33 (.agg #[.int .i64 x.f0.f0, .int .i64 x.f0.f1]) (by rfl) (ldn (t := 53) (p := (.tmp 32)) (by rfl) (by rfl) (by kernel_rfl) (by kernel_rfl) (by kernel_rfl) (hp.at_ 5 _ (by rfl))) ?_
   obtain ⟨k_90, hk_k_90⟩ := Ev.rounds (withoutT_ev l0_1 x.f0 (by omega))
   refine sx_call 34 (by rfl) (by kernel_rfl) ((spec_plWithout.calls k_90 A0_1 c0_1 l0_1 x.f0.f0 x.f0.f1 _ _ (hC0_1 _ hp.tail.tail.tail.tail.tail.tail.tail) hc0_1 hk_k_90).mono ?_)
   rintro _ W_96 ⟨v_92, rfl, hR_91, hb⟩
   refine ⟨_, rfl, ?_⟩
   obtain ⟨A_93, c_94, rfl, hcc_c_94, _⟩ := Kd.R_reads hR_91
   obtain ⟨F_95, hp⟩ : ∃ F, Hp w (row k53 53 w.heap.size (.slice A_93 (gone1 l0_1 x.f0).length c_94) (gone1 l0_1 x.f0) F :: blk g_23 #[.slice A_13 l0_0.length c_14, .slice A_16 l0_1.length c_17, .slice A_19 l0_2.length c_20, .int .i64 (1 - a0_3), .int .i64 0] 31 :: row k53 53 w.heap.size (.slice A_13 l0_0.length c_14) l0_0 F_15 :: row k53 53 w.heap.size (.slice A_16 l0_1.length c_17) l0_1 F_18 :: row (Kd.int .i64) 3 w.heap.size (.slice A_19 l0_2.length c_20) l0_2 F_21 :: blk g_5 #[.slice none 0 0, .slice none 0 0, .slice none 0 0, .int .i64 0, .int .i64 0] 31 :: blk g_3 #[.int .i64 x.f0.f0, .int .i64 x.f0.f1, .bool x.f1, .bool x.f2] 55 :: blk g_1 #[.slice A0_0 l0_0.length c0_0, .slice A0_1 l0_1.length c0_1, .slice A0_2 l0_2.length c0_2, .int .i64 a0_3, .int .i64 a0_4] 31 :: cs) _ := ⟨_, Hp.made hp hb hR_91⟩
   refine sx_rd 35 (.pointer (some ⟨g_23, 1, none⟩)) (by rfl) (by kernel_rfl) ?_
   refine sx_store (t := 29) (p := (.tmp 35)) (x := (.tmp 34)) (by rfl) (by rfl) 1 (by rfl) 1 [.slice A_93 ((gone1 l0_1 x.f0).length) c_94] (by rfl) (by rfl) (by kernel_rfl) (by simp [Value.oneCell']) (by show 2 ≤ 5; omega) #[.slice A_13 l0_0.length c_14, .slice A_93 ((gone1 l0_1 x.f0).length) c_94, .slice A_19 l0_2.length c_20, .int .i64 (1 - a0_3), .int .i64 0] (by rfl) hp ?_
   intro W_97 hp; simp only [List.set_cons_succ, List.set_cons_zero] at hp
   refine sx_nil ?_
   refine ex_then_n ?_
   refine wp_seq ?_
   refine sx_region ?_
   refine sx_rd 36 (.pointer (some ⟨g_3, 0, none⟩)) (by rfl) (by kernel_rfl) ?_
   refine sx_rd 37 (.pointer (some ⟨g_3, 0, none⟩)) (by rfl) (by kernel_rfl) ?_
   refine sx_rd 38 (.int .i64 x.f0.f0) (by rfl) (ld1 (t := 3) (p := (.tmp 37)) (by rfl) (by rfl) (by kernel_rfl) (hp.cell 6 (by rfl) 0 _ (by rfl))) ?_
   refine sx_rd 39 (.pointer (some ⟨g_3, 0, none⟩)) (by rfl) (by kernel_rfl) ?_
   refine sx_rd 40 (.pointer (some ⟨g_3, 1, none⟩)) (by rfl) (by kernel_rfl) ?_
   refine sx_rd 41 (.int .i64 x.f0.f1) (by rfl) (ld1 (t := 3) (p := (.tmp 40)) (by rfl) (by rfl) (by kernel_rfl) (hp.cell 6 (by rfl) 1 _ (by rfl))) ?_
   refine sx_rd 42 (.int .i64 (x.f0.f0 + x.f0.f1)) (by rfl) (wr_ok (by omega) (by kernel_rfl)) ?_
   refine sx_rd 6 (.int .i64 (x.f0.f0 + x.f0.f1)) (by rfl) (by kernel_rfl) ?_
   refine sx_nil ?_
   refine ex_then_n ?_
   refine wp_seq ?_
   refine wp_block ?_
   refine wp_seq ?_
   refine sx_region ?_
   refine sx_rd 60 (.pointer (some ⟨g_1, 2, none⟩)) (by rfl) (by kernel_rfl) ?_
   refine sx_rd 61 (.slice A0_2 l0_2.length c0_2) (by rfl) (ld1 (t := 23) (p := (.tmp 60)) (by rfl) (by rfl) (by kernel_rfl) (hp.cell 7 (by rfl) 2 _ (by rfl))) ?_
   refine sx_rd 62 (.int .i64 (l0_2.length : Int)) (by rfl) (by kernel_rfl) ?_
   refine sx_rd 63 (.bool ((l0_2.length : Int) == 0)) (by rfl) (by kernel_rfl) ?_
   refine sx_rd 59 (.bool ((l0_2.length : Int) == 0)) (by rfl) (by kernel_rfl) ?_
   refine sx_nil ?_
   refine ex_then_n ?_
   refine sx_cond ((l0_2.length : Int) == 0) (by rfl) (fun c_98 => ?_) (fun c_98 => ?_)
   ·
    have c_98p := eq_of_beq_ c_98
    refine sx_region ?_
    refine sx_rd 64 (.pointer (some ⟨g_3, 0, none⟩)) (by rfl) (by kernel_rfl) ?_
    refine sx_rd 65 (.pointer (some ⟨g_3, 0, none⟩)) (by rfl) (by kernel_rfl) ?_
    refine sx_rd 66 (.int .i64 x.f0.f0) (by rfl) (ld1 (t := 3) (p := (.tmp 65)) (by rfl) (by rfl) (by kernel_rfl) (hp.cell 6 (by rfl) 0 _ (by rfl))) ?_
    refine sx_rd 67 (.pointer (some ⟨g_3, 0, none⟩)) (by rfl) (by kernel_rfl) ?_
    refine sx_rd 68 (.pointer (some ⟨g_3, 1, none⟩)) (by rfl) (by kernel_rfl) ?_
    refine sx_rd 69 (.int .i64 x.f0.f1) (by rfl) (ld1 (t := 3) (p := (.tmp 68)) (by rfl) (by rfl) (by kernel_rfl) (hp.cell 6 (by rfl) 1 _ (by rfl))) ?_
    refine sx_lit 70 (by rfl) (Kd.int .i64) w.heap.size 3 ([x.f0.f0, x.f0.f1]) [.int .i64 x.f0.f0, .int .i64 x.f0.f1] (fun W => by kernel_rfl) (reps_ints [x.f0.f0, x.f0.f1]) (by simp) hp.size hp ?_
    intro g_99 F_100 W_101 hp hz; clear hz
    refine sx_rd 71 (.pointer (some ⟨g_23, 2, none⟩)) (by rfl) (by kernel_rfl) ?_
    refine sx_store (t := 23) (p := (.tmp 71)) (x := (.tmp 70)) (by rfl) (by rfl) 2 (by rfl) 2 [.slice (some ⟨g_99, 0, none⟩) ([x.f0.f0, x.f0.f1].length) ([x.f0.f0, x.f0.f1].length)] (by rfl) (by rfl) (by kernel_rfl) (by simp [Value.oneCell']) (by show 3 ≤ 5; omega) #[.slice A_13 l0_0.length c_14, .slice A_93 ((gone1 l0_1 x.f0).length) c_94, .slice (some ⟨g_99, 0, none⟩) ([x.f0.f0, x.f0.f1].length) ([x.f0.f0, x.f0.f1].length), .int .i64 (1 - a0_3), .int .i64 0] (by rfl) hp ?_
    intro W_102 hp; simp only [List.set_cons_succ, List.set_cons_zero] at hp
    refine sx_nil ?_
    refine ex_blk_n ?_
    refine ex_then_n ?_
    refine wp_seq ?_
    refine sx_region ?_
    refine sx_rd 86 (.agg #[.slice A_13 l0_0.length c_14, .slice A_93 ((gone1 l0_1 x.f0).length) c_94, .slice (some ⟨g_99, 0, none⟩) ([x.f0.f0, x.f0.f1].length) ([x.f0.f0, x.f0.f1].length), .int .i64 (1 - a0_3), .int .i64 0]) (by rfl) (ldn (t := 31) (p := (.tmp 5)) (by rfl) (by rfl) (by kernel_rfl) (by kernel_rfl) (by kernel_rfl) (hp.at_ 2 _ (by rfl))) ?_
    refine sx_store (t := 31) (p := (.tmp 4)) (x := (.tmp 86)) (by rfl) (by rfl) 6 (by rfl) 0 [.slice A_13 l0_0.length c_14, .slice A_93 ((gone1 l0_1 x.f0).length) c_94, .slice (some ⟨g_99, 0, none⟩) ([x.f0.f0, x.f0.f1].length) ([x.f0.f0, x.f0.f1].length), .int .i64 (1 - a0_3), .int .i64 0] (by rfl) (by rfl) (by kernel_rfl) (by simp [Value.oneCell']) (by show 5 ≤ 5; omega) #[.slice A_13 l0_0.length c_14, .slice A_93 ((gone1 l0_1 x.f0).length) c_94, .slice (some ⟨g_99, 0, none⟩) ([x.f0.f0, x.f0.f1].length) ([x.f0.f0, x.f0.f1].length), .int .i64 (1 - a0_3), .int .i64 0] (by rfl) hp ?_
    intro W_103 hp; simp only [List.set_cons_succ, List.set_cons_zero] at hp
    refine sx_nil ?_
    refine ex_then_n ?_
    refine wp_ret ?_
    refine sx_end (.agg #[.slice A_13 l0_0.length c_14, .slice A_93 ((gone1 l0_1 x.f0).length) c_94, .slice (some ⟨g_99, 0, none⟩) ([x.f0.f0, x.f0.f1].length) ([x.f0.f0, x.f0.f1].length), .int .i64 (1 - a0_3), .int .i64 0]) (resc (by rfl) (by rfl) (by kernel_rfl) (by kernel_rfl) (hp.at_ 6 _ (by rfl))) ?_
    unfold Gm.makeS rowP at h; rw [if_neg (by rw [c_27]; simp)] at h; dsimp only at h
    simp only [if_neg c_31p] at h
    rw [if_pos (by omega)] at h
    simp only [Option.some.injEq, Prod.mk.injEq] at h; obtain ⟨rfl, rfl, rfl, rfl, rfl⟩ := h
    exact ⟨_, _, _, rfl, Kd.R_mono (row_R (hp.at_ 3 _ (by rfl))) (fun k_ hk_ => Hp.apart_rows hp 3 1 (by decide) (by rfl) (by rfl) k_ hk_), Kd.R_mono (row_R (hp.at_ 1 _ (by rfl))) (fun k_ hk_ => Hp.apart_rows hp 1 3 (by decide) (by rfl) (by rfl) k_ hk_), Kd.R_mono (row_R (hp.at_ 0 _ (by rfl))) (fun _ _ => trivial), hc2 _ (hp.tail.tail.tail.tail.tail.tail.tail.tail.tail)⟩
   ·
    have c_98p := ne_of_beq_ c_98
    refine wp_seq ?_
    refine sx_region ?_
    refine sx_rd 73 (.pointer (some ⟨g_3, 2, none⟩)) (by rfl) (by kernel_rfl) ?_
    refine sx_rd 74 (.bool x.f1) (by rfl) (ld1 (t := 4) (p := (.tmp 73)) (by rfl) (by rfl) (by kernel_rfl) (hp.cell 6 (by rfl) 2 _ (by rfl))) ?_
    refine sx_rd 72 (.bool x.f1) (by rfl) (by kernel_rfl) ?_
    refine sx_nil ?_
    refine ex_then_n ?_
    refine sx_cond x.f1 (by rfl) (fun c_104 => ?_) (fun c_104 => ?_)
    ·
     have hxb := hxh (by omega)
     rw [if_pos c_104] at hxb
     have hbd := has_bd hgx hxb
     unfold endA at hbd
     refine sx_drawT [0, 1, 7] (.rd 2 (.rd 3 (.rd 4 (.rd 5 (.rd 8 (.alt 6 (.alt 9 (.rd 10 (.fin)) .non) .non)))))) 11 (C := Hp w (row k53 53 w.heap.size (.slice A_93 ((gone1 l0_1 x.f0).length) c_94) (gone1 l0_1 x.f0) F_95 :: blk g_23 #[.slice A_13 l0_0.length c_14, .slice A_93 ((gone1 l0_1 x.f0).length) c_94, .slice A_19 l0_2.length c_20, .int .i64 (1 - a0_3), .int .i64 0] 31 :: row k53 53 w.heap.size (.slice A_13 l0_0.length c_14) l0_0 F_15 :: row k53 53 w.heap.size (.slice A_16 l0_1.length c_17) l0_1 F_18 :: row (Kd.int .i64) 3 w.heap.size (.slice A_19 l0_2.length c_20) l0_2 F_21 :: blk g_5 #[.slice none 0 0, .slice none 0 0, .slice none 0 0, .int .i64 0, .int .i64 0] 31 :: blk g_3 #[.int .i64 x.f0.f0, .int .i64 x.f0.f1, .bool x.f1, .bool x.f2] 55 :: blk g_1 #[.slice A0_0 l0_0.length c0_0, .slice A0_1 l0_1.length c0_1, .slice A0_2 l0_2.length c0_2, .int .i64 a0_3, .int .i64 a0_4] 31 :: cs)) (by kernel_rfl) (by kernel_rfl) (fun d _ _ _ _ h => by cases d <;> exact h) (fun W h => h.drew) hp ?_
     refine preI_read rfl ?_
     refine sxq_val 75 (.int .i64 (x.f0.f0 + x.f0.f1)) (by rfl) (fun W _ => (by kernel_rfl)) ?_
     refine sxq_nil ?_
     refine preI_read rfl ?_
     refine sxq_val 76 (.pointer (some ⟨g_1, 2, none⟩)) (by rfl) (fun W _ => (by kernel_rfl)) ?_
     refine sxq_nil ?_
     refine preI_read rfl ?_
     refine sxq_val 82 (.pointer (some ⟨g_1, 2, none⟩)) (by rfl) (fun W _ => (by kernel_rfl)) ?_
     refine sxq_nil ?_
     refine preI_nil ?_
     intro W_105 hp
     refine treeI_rd rfl ?_
     refine sxq_val 77 (.slice A0_2 l0_2.length c0_2) (by rfl) (fun W hp => (ld1 (t := 23) (p := (.tmp 76)) (by rfl) (by rfl) (by kernel_rfl) (hp.cell 7 (by rfl) 2 _ (by rfl)))) ?_
     refine sxq_nil ?_
     refine treeI_rd rfl ?_
     refine sxq_val 78 (.pointer (some (adr A0_2 0 1))) (by rfl) (fun W hp => (ix_run (d := (Kd.int .i64)) (hC0_2 _ hp.tail.tail.tail.tail.tail.tail.tail.tail) (t := 23) (by rfl) (by rfl) (by rfl) Tryz.underlying23 (by kernel_rfl) (by omega) (by omega))) ?_
     refine sxq_nil ?_
     refine treeI_rd rfl ?_
     refine sxq_val 79 (.int .i64 (rd l0_2 0)) (by rfl) (fun W hp => (ld1 (t := 3) (p := (.tmp 78)) (by rfl) (by rfl) (by kernel_rfl) (el_cell (d := (Kd.int .i64)) (hC0_2 _ hp.tail.tail.tail.tail.tail.tail.tail.tail) 0 0 (by omega) (by omega) (cells := [.int .i64 (rd l0_2 0)]) (fun cs h => h) 0 _ (by rfl)))) ?_
     refine sxq_nil ?_
     refine treeI_rd rfl ?_
     refine sxq_val 80 (.int .i64 ((x.f0.f0 + x.f0.f1) - (rd l0_2 0))) (by rfl) (fun W hp => (wr_ok (by omega) (by kernel_rfl))) ?_
     refine sxq_nil ?_
     refine treeI_rd rfl ?_
     refine sxq_val 83 (.slice A0_2 l0_2.length c0_2) (by rfl) (fun W hp => (ld1 (t := 23) (p := (.tmp 82)) (by rfl) (by rfl) (by kernel_rfl) (hp.cell 7 (by rfl) 2 _ (by rfl)))) ?_
     refine sxq_nil ?_
     refine treeI_ev rfl ?_
     refine sx_lit 81 (by rfl) (Kd.int .i64) w.heap.size 3 ([((x.f0.f0 + x.f0.f1) - (rd l0_2 0))]) [.int .i64 ((x.f0.f0 + x.f0.f1) - (rd l0_2 0))] (fun W => by kernel_rfl) (Reps.snoc (cs := []) (Reps.none _ _) rfl rfl) (by simp) hp.size hp ?_
     intro g_106 F_107 W_108 hp hz; clear hz
     refine step_fin hp.tail ?_
     refine treeI_ev rfl ?_
     refine sx_append 84 (by rfl) (Kd.int .i64) 0 (by rfl) (.int .i64 0) 8 (by rfl) Tryz.underlying23 (by kernel_rfl) rfl (by decide) (by decide) l0_2 (by rfl) (by rfl) (hC0_2 _ hp.tail.tail.tail.tail.tail.tail.tail.tail.tail) (fun x cs h => h) hp.size (by first | omega | (simp; omega)) hp ?_
     intro A_109 c_110 F_111 W_112 hp hz; clear hz; simp only [List.set_cons_succ, List.set_cons_zero] at hp
     refine step_fin hp.tail ?_
     refine treeI_rd rfl ?_
     refine sxq_val 85 (.pointer (some ⟨g_23, 2, none⟩)) (by rfl) (fun W hp => (by kernel_rfl)) ?_
     refine sxq_nil ?_
     refine treeI_fin ?_
     refine tail_of [11] (by rfl) ?_
     refine tailI_op rfl ?_
     refine sx_store (t := 23) (p := (.tmp 85)) (x := (.tmp 84)) (by rfl) (by rfl) 2 (by rfl) 2 [.slice A_109 (([((x.f0.f0 + x.f0.f1) - (rd l0_2 0))] ++ l0_2).length) c_110] (by rfl) (by rfl) (by kernel_rfl) (by simp [Value.oneCell']) (by show 3 ≤ 5; omega) #[.slice A_13 l0_0.length c_14, .slice A_93 ((gone1 l0_1 x.f0).length) c_94, .slice A_109 (([((x.f0.f0 + x.f0.f1) - (rd l0_2 0))] ++ l0_2).length) c_110, .int .i64 (1 - a0_3), .int .i64 0] (by rfl) hp ?_
     intro W_113 hp; simp only [List.set_cons_succ, List.set_cons_zero] at hp
     refine tailI_next ?_
     refine tailI_nil ?_
     refine ex_blk_n ?_
     refine ex_then_n ?_
     refine wp_seq ?_
     refine sx_region ?_
     refine sx_rd 86 (.agg #[.slice A_13 l0_0.length c_14, .slice A_93 ((gone1 l0_1 x.f0).length) c_94, .slice A_109 (([((x.f0.f0 + x.f0.f1) - (rd l0_2 0))] ++ l0_2).length) c_110, .int .i64 (1 - a0_3), .int .i64 0]) (by rfl) (ldn (t := 31) (p := (.tmp 5)) (by rfl) (by rfl) (by kernel_rfl) (by kernel_rfl) (by kernel_rfl) (hp.at_ 2 _ (by rfl))) ?_
     refine sx_store (t := 31) (p := (.tmp 4)) (x := (.tmp 86)) (by rfl) (by rfl) 6 (by rfl) 0 [.slice A_13 l0_0.length c_14, .slice A_93 ((gone1 l0_1 x.f0).length) c_94, .slice A_109 (([((x.f0.f0 + x.f0.f1) - (rd l0_2 0))] ++ l0_2).length) c_110, .int .i64 (1 - a0_3), .int .i64 0] (by rfl) (by rfl) (by kernel_rfl) (by simp [Value.oneCell']) (by show 5 ≤ 5; omega) #[.slice A_13 l0_0.length c_14, .slice A_93 ((gone1 l0_1 x.f0).length) c_94, .slice A_109 (([((x.f0.f0 + x.f0.f1) - (rd l0_2 0))] ++ l0_2).length) c_110, .int .i64 (1 - a0_3), .int .i64 0] (by rfl) hp ?_
     intro W_114 hp; simp only [List.set_cons_succ, List.set_cons_zero] at hp
     refine sx_nil ?_
     refine ex_then_n ?_
     refine wp_ret ?_
     refine sx_end (.agg #[.slice A_13 l0_0.length c_14, .slice A_93 ((gone1 l0_1 x.f0).length) c_94, .slice A_109 (([((x.f0.f0 + x.f0.f1) - (rd l0_2 0))] ++ l0_2).length) c_110, .int .i64 (1 - a0_3), .int .i64 0]) (resc (by rfl) (by rfl) (by kernel_rfl) (by kernel_rfl) (hp.at_ 6 _ (by rfl))) ?_
     unfold Gm.makeS rowP at h; rw [if_neg (by rw [c_27]; simp)] at h; dsimp only at h
     simp only [if_neg c_31p] at h
     rw [if_neg (by omega)] at h
     rw [if_pos c_104] at h; unfold otherN endA at h
     simp only [Option.some.injEq, Prod.mk.injEq] at h; obtain ⟨rfl, rfl, rfl, rfl, rfl⟩ := h
     exact ⟨_, _, _, rfl, Kd.R_mono (row_R (hp.at_ 3 _ (by rfl))) (fun k_ hk_ => Hp.apart_rows hp 3 1 (by decide) (by rfl) (by rfl) k_ hk_), Kd.R_mono (row_R (hp.at_ 1 _ (by rfl))) (fun k_ hk_ => Hp.apart_rows hp 1 3 (by decide) (by rfl) (by rfl) k_ hk_), Kd.R_mono (row_R (hp.at_ 0 _ (by rfl))) (fun _ _ => trivial), hc2 _ (hp.tail.tail.tail.tail.tail.tail.tail.tail.tail)⟩
    ·
     have hxb := hxh (by omega)
     rw [if_neg (by rw [c_104]; simp)] at hxb
     have hbd := has_bd hgx hxb
     unfold endB at hbd
     refine sx_drawI (fun a_ W => ∃ (r_ : List (Nat × Value)) (Am_129 : Option Addr) (cm_130 : Nat) (Fm_131 : Nat → Prop), a_ = fr 87 ([(4, .pointer (some ⟨g_5, 0, none⟩)), (5, .pointer (some ⟨g_23, 0, none⟩)), (57, .slice Am_129 ((l0_2 ++ [((x.f0.f0 + x.f0.f1) - (rd l0_2 ((l0_2.length : Int) - 1)))]).length) cm_130), (58, .pointer (some ⟨g_23, 2, none⟩))] ++ r_) ∧ Hp w (row (Kd.int .i64) 3 w.heap.size (.slice Am_129 ((l0_2 ++ [((x.f0.f0 + x.f0.f1) - (rd l0_2 ((l0_2.length : Int) - 1)))]).length) cm_130) (l0_2 ++ [((x.f0.f0 + x.f0.f1) - (rd l0_2 ((l0_2.length : Int) - 1)))]) Fm_131 :: row k53 53 w.heap.size (.slice A_93 ((gone1 l0_1 x.f0).length) c_94) (gone1 l0_1 x.f0) F_95 :: blk g_23 #[.slice A_13 l0_0.length c_14, .slice A_93 ((gone1 l0_1 x.f0).length) c_94, .slice A_19 l0_2.length c_20, .int .i64 (1 - a0_3), .int .i64 0] 31 :: row k53 53 w.heap.size (.slice A_13 l0_0.length c_14) l0_0 F_15 :: row k53 53 w.heap.size (.slice A_16 l0_1.length c_17) l0_1 F_18 :: row (Kd.int .i64) 3 w.heap.size (.slice A_19 l0_2.length c_20) l0_2 F_21 :: blk g_5 #[.slice none 0 0, .slice none 0 0, .slice none 0 0, .int .i64 0, .int .i64 0] 31 :: blk g_3 #[.int .i64 x.f0.f0, .int .i64 x.f0.f1, .bool x.f1, .bool x.f2] 55 :: blk g_1 #[.slice A0_0 l0_0.length c0_0, .slice A0_1 l0_1.length c0_1, .slice A0_2 l0_2.length c0_2, .int .i64 a0_3, .int .i64 a0_4] 31 :: cs) W) [0, 3, 4, 6] (.rd 1 (.rd 5 (.rd 7 (.rd 8 (.rd 9 (.rd 10 (.rd 11 (.rd 12 (.alt 2 (.alt 13 (.alt 14 (.rd 15 (.fin)) .non) .non) (.alt 13 (.alt 2 (.alt 14 (.rd 15 (.fin)) .non) .non) (.non))))))))))) 16 (C := Hp w (row k53 53 w.heap.size (.slice A_93 ((gone1 l0_1 x.f0).length) c_94) (gone1 l0_1 x.f0) F_95 :: blk g_23 #[.slice A_13 l0_0.length c_14, .slice A_93 ((gone1 l0_1 x.f0).length) c_94, .slice A_19 l0_2.length c_20, .int .i64 (1 - a0_3), .int .i64 0] 31 :: row k53 53 w.heap.size (.slice A_13 l0_0.length c_14) l0_0 F_15 :: row k53 53 w.heap.size (.slice A_16 l0_1.length c_17) l0_1 F_18 :: row (Kd.int .i64) 3 w.heap.size (.slice A_19 l0_2.length c_20) l0_2 F_21 :: blk g_5 #[.slice none 0 0, .slice none 0 0, .slice none 0 0, .int .i64 0, .int .i64 0] 31 :: blk g_3 #[.int .i64 x.f0.f0, .int .i64 x.f0.f1, .bool x.f1, .bool x.f2] 55 :: blk g_1 #[.slice A0_0 l0_0.length c0_0, .slice A0_1 l0_1.length c0_1, .slice A0_2 l0_2.length c0_2, .int .i64 a0_3, .int .i64 a0_4] 31 :: cs)) (by kernel_rfl) (by kernel_rfl) (fun d _ _ _ _ h => by cases d <;> exact h) (fun W h => h.drew) hp ?_ ?_
     ·
      refine preI_read rfl ?_
      refine sxq_val 43 (.pointer (some ⟨g_1, 2, none⟩)) (by rfl) (fun W _ => (by kernel_rfl)) ?_
      refine sxq_nil ?_
      refine preI_read rfl ?_
      refine sxq_val 46 (.int .i64 (x.f0.f0 + x.f0.f1)) (by rfl) (fun W _ => (by kernel_rfl)) ?_
      refine sxq_nil ?_
      refine preI_read rfl ?_
      refine sxq_val 47 (.pointer (some ⟨g_1, 2, none⟩)) (by rfl) (fun W _ => (by kernel_rfl)) ?_
      refine sxq_nil ?_
      refine preI_read rfl ?_
      refine sxq_val 49 (.pointer (some ⟨g_1, 2, none⟩)) (by rfl) (fun W _ => (by kernel_rfl)) ?_
      refine sxq_nil ?_
      refine preI_nil ?_
      intro W_115 hp
      refine treeI_rd rfl ?_
      refine sxq_val 44 (.slice A0_2 l0_2.length c0_2) (by rfl) (fun W hp => (ld1 (t := 23) (p := (.tmp 43)) (by rfl) (by rfl) (by kernel_rfl) (hp.cell 7 (by rfl) 2 _ (by rfl)))) ?_
      refine sxq_nil ?_
      refine treeI_rd rfl ?_
      refine sxq_val 48 (.slice A0_2 l0_2.length c0_2) (by rfl) (fun W hp => (ld1 (t := 23) (p := (.tmp 47)) (by rfl) (by rfl) (by kernel_rfl) (hp.cell 7 (by rfl) 2 _ (by rfl)))) ?_
      refine sxq_nil ?_
      refine treeI_rd rfl ?_
      refine sxq_val 50 (.slice A0_2 l0_2.length c0_2) (by rfl) (fun W hp => (ld1 (t := 23) (p := (.tmp 49)) (by rfl) (by rfl) (by kernel_rfl) (hp.cell 7 (by rfl) 2 _ (by rfl)))) ?_
      refine sxq_nil ?_
      refine treeI_rd rfl ?_
      refine sxq_val 51 (.int .i64 (l0_2.length : Int)) (by rfl) (fun W hp => (by kernel_rfl)) ?_
      refine sxq_nil ?_
      refine treeI_rd rfl ?_
      refine sxq_val 52 (.int .i64 ((l0_2.length : Int) - 1)) (by rfl) (fun W hp => (wr_ok (by omega) (by kernel_rfl))) ?_
      refine sxq_nil ?_
      refine treeI_rd rfl ?_
      refine sxq_val 53 (.pointer (some (adr A0_2 ((l0_2.length : Int) - 1) 1))) (by rfl) (fun W hp => (ix_run (d := (Kd.int .i64)) (hC0_2 _ hp.tail.tail.tail.tail.tail.tail.tail.tail) (t := 23) (by rfl) (by rfl) (by rfl) Tryz.underlying23 (by kernel_rfl) (by omega) (by omega))) ?_
      refine sxq_nil ?_
      refine treeI_rd rfl ?_
      refine sxq_val 54 (.int .i64 (rd l0_2 ((l0_2.length : Int) - 1))) (by rfl) (fun W hp => (ld1 (t := 3) (p := (.tmp 53)) (by rfl) (by rfl) (by kernel_rfl) (el_cell (d := (Kd.int .i64)) (hC0_2 _ hp.tail.tail.tail.tail.tail.tail.tail.tail) 0 ((l0_2.length : Int) - 1) (by omega) (by omega) (cells := [.int .i64 (rd l0_2 ((l0_2.length : Int) - 1))]) (fun cs h => h) 0 _ (by rfl)))) ?_
      refine sxq_nil ?_
      refine treeI_rd rfl ?_
      refine sxq_val 55 (.int .i64 ((x.f0.f0 + x.f0.f1) - (rd l0_2 ((l0_2.length : Int) - 1)))) (by rfl) (fun W hp => (wr_ok (by omega) (by kernel_rfl))) ?_
      refine sxq_nil ?_
      refine treeI_alt rfl ?_ ?_
      ·
       refine sx_call 45 (by rfl) (by kernel_rfl) ((spec_l1Own.calls A0_2 c0_2 l0_2 _ _ (hC0_2 _ hp.tail.tail.tail.tail.tail.tail.tail.tail) hc0_2 (l1OwnG_eq l0_2 (by omega))).mono ?_)
       rintro _ W_121 ⟨v_117, rfl, hR_116, hb⟩
       refine ⟨_, rfl, ?_⟩
       obtain ⟨A_118, c_119, rfl, hcc_c_119, _⟩ := Kd.R_reads hR_116
       obtain ⟨F_120, hp⟩ : ∃ F, Hp w (row (Kd.int .i64) 3 w.heap.size (.slice A_118 l0_2.length c_119) l0_2 F :: row k53 53 w.heap.size (.slice A_93 ((gone1 l0_1 x.f0).length) c_94) (gone1 l0_1 x.f0) F_95 :: blk g_23 #[.slice A_13 l0_0.length c_14, .slice A_93 ((gone1 l0_1 x.f0).length) c_94, .slice A_19 l0_2.length c_20, .int .i64 (1 - a0_3), .int .i64 0] 31 :: row k53 53 w.heap.size (.slice A_13 l0_0.length c_14) l0_0 F_15 :: row k53 53 w.heap.size (.slice A_16 l0_1.length c_17) l0_1 F_18 :: row (Kd.int .i64) 3 w.heap.size (.slice A_19 l0_2.length c_20) l0_2 F_21 :: blk g_5 #[.slice none 0 0, .slice none 0 0, .slice none 0 0, .int .i64 0, .int .i64 0] 31 :: blk g_3 #[.int .i64 x.f0.f0, .int .i64 x.f0.f1, .bool x.f1, .bool x.f2] 55 :: blk g_1 #[.slice A0_0 l0_0.length c0_0, .slice A0_1 l0_1.length c0_1, .slice A0_2 l0_2.length c0_2, .int .i64 a0_3, .int .i64 a0_4] 31 :: cs) _ := ⟨_, Hp.made hp hb hR_116⟩
       refine step_fin hp.tail ?_
       refine treeI_ev rfl ?_
       refine sx_lit 56 (by rfl) (Kd.int .i64) w.heap.size 3 ([((x.f0.f0 + x.f0.f1) - (rd l0_2 ((l0_2.length : Int) - 1)))]) [.int .i64 ((x.f0.f0 + x.f0.f1) - (rd l0_2 ((l0_2.length : Int) - 1)))] (fun W => by kernel_rfl) (Reps.snoc (cs := []) (Reps.none _ _) rfl rfl) (by simp) hp.size hp ?_
       intro g_122 F_123 W_124 hp hz; clear hz
       refine step_fin hp.tail.tail ?_
       refine treeI_ev rfl ?_
       refine sx_append 57 (by rfl) (Kd.int .i64) 1 (by rfl) (.int .i64 0) 8 (by rfl) Tryz.underlying23 (by kernel_rfl) rfl (by decide) (by decide) ([((x.f0.f0 + x.f0.f1) - (rd l0_2 ((l0_2.length : Int) - 1)))]) (by rfl) (by rfl) (row_C (hp.at_ 0 _ (by rfl))) (fun x cs h => h) hp.size (by first | omega | (simp; omega)) hp ?_
       intro A_125 c_126 F_127 W_128 hp hz; clear hz; simp only [List.set_cons_succ, List.set_cons_zero] at hp
       refine step_fin hp.tail.tail ?_
       refine treeI_rd rfl ?_
       refine sxq_val 58 (.pointer (some ⟨g_23, 2, none⟩)) (by rfl) (fun W hp => (by kernel_rfl)) ?_
       refine sxq_nil ?_
       refine treeI_fin ?_
       exact ⟨_, A_125, c_126, F_127, fr_front [(4, .pointer (some ⟨g_5, 0, none⟩)), (5, .pointer (some ⟨g_23, 0, none⟩)), (57, .slice A_125 ((l0_2 ++ [((x.f0.f0 + x.f0.f1) - (rd l0_2 ((l0_2.length : Int) - 1)))]).length) c_126), (58, .pointer (some ⟨g_23, 2, none⟩))] ⟨rfl, rfl, rfl, rfl, trivial⟩, (hp.take [1, 2, 3, 4, 5, 6, 7, 8, 9] 10 (by decide) (by simp))⟩
      refine treeI_alt rfl ?_ ?_
      ·
       refine sx_lit 56 (by rfl) (Kd.int .i64) w.heap.size 3 ([((x.f0.f0 + x.f0.f1) - (rd l0_2 ((l0_2.length : Int) - 1)))]) [.int .i64 ((x.f0.f0 + x.f0.f1) - (rd l0_2 ((l0_2.length : Int) - 1)))] (fun W => by kernel_rfl) (Reps.snoc (cs := []) (Reps.none _ _) rfl rfl) (by simp) hp.size hp ?_
       intro g_132 F_133 W_134 hp hz; clear hz
       refine step_fin hp.tail ?_
       refine treeI_ev rfl ?_
       refine sx_call 45 (by rfl) (by kernel_rfl) ((spec_l1Own.calls A0_2 c0_2 l0_2 _ _ (hC0_2 _ hp.tail.tail.tail.tail.tail.tail.tail.tail.tail) hc0_2 (l1OwnG_eq l0_2 (by omega))).mono ?_)
       rintro _ W_140 ⟨v_136, rfl, hR_135, hb⟩
       refine ⟨_, rfl, ?_⟩
       obtain ⟨A_137, c_138, rfl, hcc_c_138, _⟩ := Kd.R_reads hR_135
       obtain ⟨F_139, hp⟩ : ∃ F, Hp w (row (Kd.int .i64) 3 w.heap.size (.slice A_137 l0_2.length c_138) l0_2 F :: row (Kd.int .i64) 3 w.heap.size (.slice (some ⟨g_132, 0, none⟩) ([((x.f0.f0 + x.f0.f1) - (rd l0_2 ((l0_2.length : Int) - 1)))].length) ([((x.f0.f0 + x.f0.f1) - (rd l0_2 ((l0_2.length : Int) - 1)))].length)) ([((x.f0.f0 + x.f0.f1) - (rd l0_2 ((l0_2.length : Int) - 1)))]) F_133 :: row k53 53 w.heap.size (.slice A_93 ((gone1 l0_1 x.f0).length) c_94) (gone1 l0_1 x.f0) F_95 :: blk g_23 #[.slice A_13 l0_0.length c_14, .slice A_93 ((gone1 l0_1 x.f0).length) c_94, .slice A_19 l0_2.length c_20, .int .i64 (1 - a0_3), .int .i64 0] 31 :: row k53 53 w.heap.size (.slice A_13 l0_0.length c_14) l0_0 F_15 :: row k53 53 w.heap.size (.slice A_16 l0_1.length c_17) l0_1 F_18 :: row (Kd.int .i64) 3 w.heap.size (.slice A_19 l0_2.length c_20) l0_2 F_21 :: blk g_5 #[.slice none 0 0, .slice none 0 0, .slice none 0 0, .int .i64 0, .int .i64 0] 31 :: blk g_3 #[.int .i64 x.f0.f0, .int .i64 x.f0.f1, .bool x.f1, .bool x.f2] 55 :: blk g_1 #[.slice A0_0 l0_0.length c0_0, .slice A0_1 l0_1.length c0_1, .slice A0_2 l0_2.length c0_2, .int .i64 a0_3, .int .i64 a0_4] 31 :: cs) _ := ⟨_, Hp.made hp hb hR_135⟩
       refine step_fin hp.tail.tail ?_
       refine treeI_ev rfl ?_
       refine sx_append 57 (by rfl) (Kd.int .i64) 0 (by rfl) (.int .i64 0) 8 (by rfl) Tryz.underlying23 (by kernel_rfl) rfl (by decide) (by decide) ([((x.f0.f0 + x.f0.f1) - (rd l0_2 ((l0_2.length : Int) - 1)))]) (by rfl) (by rfl) (row_C (hp.at_ 1 _ (by rfl))) (fun x cs h => h) hp.size (by first | omega | (simp; omega)) hp ?_
       intro A_141 c_142 F_143 W_144 hp hz; clear hz; simp only [List.set_cons_succ, List.set_cons_zero] at hp
       refine step_fin hp.tail.tail ?_
       refine treeI_rd rfl ?_
       refine sxq_val 58 (.pointer (some ⟨g_23, 2, none⟩)) (by rfl) (fun W hp => (by kernel_rfl)) ?_
       refine sxq_nil ?_
       refine treeI_fin ?_
       exact ⟨_, A_141, c_142, F_143, fr_front [(4, .pointer (some ⟨g_5, 0, none⟩)), (5, .pointer (some ⟨g_23, 0, none⟩)), (57, .slice A_141 ((l0_2 ++ [((x.f0.f0 + x.f0.f1) - (rd l0_2 ((l0_2.length : Int) - 1)))]).length) c_142), (58, .pointer (some ⟨g_23, 2, none⟩))] ⟨rfl, rfl, rfl, rfl, trivial⟩, (hp.take [0, 2, 3, 4, 5, 6, 7, 8, 9] 10 (by decide) (by simp))⟩
      exact treeI_non
     ·
      rintro _ W_145 ⟨r_, Am_129, cm_130, Fm_131, rfl, hp⟩
      refine tail_of [16] (by rfl) ?_
      refine tailI_op rfl ?_
      refine sx_store (t := 23) (p := (.tmp 58)) (x := (.tmp 57)) (by rfl) (by rfl) 2 (by rfl) 2 [.slice Am_129 ((l0_2 ++ [((x.f0.f0 + x.f0.f1) - (rd l0_2 ((l0_2.length : Int) - 1)))]).length) cm_130] (by rfl) (by rfl) (by kernel_rfl) (by simp [Value.oneCell']) (by show 3 ≤ 5; omega) #[.slice A_13 l0_0.length c_14, .slice A_93 ((gone1 l0_1 x.f0).length) c_94, .slice Am_129 ((l0_2 ++ [((x.f0.f0 + x.f0.f1) - (rd l0_2 ((l0_2.length : Int) - 1)))]).length) cm_130, .int .i64 (1 - a0_3), .int .i64 0] (by rfl) hp ?_
      intro W_146 hp; simp only [List.set_cons_succ, List.set_cons_zero] at hp
      refine tailI_next ?_
      refine tailI_nil ?_
      refine ex_blk_n ?_
      refine ex_then_n ?_
      refine wp_seq ?_
      refine sx_region ?_
      refine sx_rd 86 (.agg #[.slice A_13 l0_0.length c_14, .slice A_93 ((gone1 l0_1 x.f0).length) c_94, .slice Am_129 ((l0_2 ++ [((x.f0.f0 + x.f0.f1) - (rd l0_2 ((l0_2.length : Int) - 1)))]).length) cm_130, .int .i64 (1 - a0_3), .int .i64 0]) (by rfl) (ldn (t := 31) (p := (.tmp 5)) (by rfl) (by rfl) (by kernel_rfl) (by kernel_rfl) (by kernel_rfl) (hp.at_ 2 _ (by rfl))) ?_
      refine sx_store (t := 31) (p := (.tmp 4)) (x := (.tmp 86)) (by rfl) (by rfl) 6 (by rfl) 0 [.slice A_13 l0_0.length c_14, .slice A_93 ((gone1 l0_1 x.f0).length) c_94, .slice Am_129 ((l0_2 ++ [((x.f0.f0 + x.f0.f1) - (rd l0_2 ((l0_2.length : Int) - 1)))]).length) cm_130, .int .i64 (1 - a0_3), .int .i64 0] (by rfl) (by rfl) (by kernel_rfl) (by simp [Value.oneCell']) (by show 5 ≤ 5; omega) #[.slice A_13 l0_0.length c_14, .slice A_93 ((gone1 l0_1 x.f0).length) c_94, .slice Am_129 ((l0_2 ++ [((x.f0.f0 + x.f0.f1) - (rd l0_2 ((l0_2.length : Int) - 1)))]).length) cm_130, .int .i64 (1 - a0_3), .int .i64 0] (by rfl) hp ?_
      intro W_147 hp; simp only [List.set_cons_succ, List.set_cons_zero] at hp
      refine sx_nil ?_
      refine ex_then_n ?_
      refine wp_ret ?_
      refine sx_end (.agg #[.slice A_13 l0_0.length c_14, .slice A_93 ((gone1 l0_1 x.f0).length) c_94, .slice Am_129 ((l0_2 ++ [((x.f0.f0 + x.f0.f1) - (rd l0_2 ((l0_2.length : Int) - 1)))]).length) cm_130, .int .i64 (1 - a0_3), .int .i64 0]) (resc (by rfl) (by rfl) (by kernel_rfl) (by kernel_rfl) (hp.at_ 6 _ (by rfl))) ?_
      unfold Gm.makeS rowP at h; rw [if_neg (by rw [c_27]; simp)] at h; dsimp only at h
      simp only [if_neg c_31p] at h
      rw [if_neg (by omega)] at h
      rw [if_neg (by rw [c_104]; simp)] at h; unfold otherN endB at h
      simp only [Option.some.injEq, Prod.mk.injEq] at h; obtain ⟨rfl, rfl, rfl, rfl, rfl⟩ := h
      exact ⟨_, _, _, rfl, Kd.R_mono (row_R (hp.at_ 3 _ (by rfl))) (fun k_ hk_ => Hp.apart_rows hp 3 1 (by decide) (by rfl) (by rfl) k_ hk_), Kd.R_mono (row_R (hp.at_ 1 _ (by rfl))) (fun k_ hk_ => Hp.apart_rows hp 1 3 (by decide) (by rfl) (by rfl) k_ hk_), Kd.R_mono (row_R (hp.at_ 0 _ (by rfl))) (fun _ _ => trivial), hc2 _ (hp.tail.tail.tail.tail.tail.tail.tail.tail.tail)⟩
end Go.Proofs.YtjaojemmbeddfaaGreat.Hd
