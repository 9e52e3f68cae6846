/- spec.HeavyLine, by hand. -/
import Derived.Test.YtkjaahmlnbgnjaaGreatPHeavyA
import Derived.Test.YtkjaahmlnbgnjaaGreatMSx5
import Derived.Test.YtkjaahmlnbgnjaaGreatMTileR
namespace Go.Proofs.YtkjaahmlnbgnjaaGreat.Hd
open Go.RowKit Go.Proofs.YtkjaahmlnbgnjaaGreat.Pure Go.Proofs.YtkjaahmlnbgnjaaGreatW.PrintWords Go.Proofs.YtkjaahmlnbgnjaaGreatW.PrintLast Go.Proofs.YtkjaahmlnbgnjaaGreatW.PrintMore
set_option linter.unusedVariables false
set_option linter.unusedSimpArgs false
theorem gmGs {g : Gm} (ho : GmOk g) (hr : g.r.length ≤ 2000000) : gmB g.f g.s g.r g.t g.p := ⟨⟨ho.f, ho.s⟩, hr, ho.t, ho.p⟩
theorem plMake_best {g : Gm} (ho : GmOk g) (hr : g.r.length ≤ 2000000) (hov : g.over = false) : spec_plMake.f g.f g.s g.r g.t g.p (bestM g.moves).f0.f0 (bestM g.moves).f0.f1 (bestM g.moves).f1 (bestM g.moves).f2 = some ((g.make (bestM g.moves)).f, (g.make (bestM g.moves)).s, (g.make (bestM g.moves)).r, (g.make (bestM g.moves)).t, (g.make (bestM g.moves)).p) := by
 rw [plMake_eq (gmGs ho hr) (best_mem hov), makeS_eq ho (best_mem hov)]
def spec_HeavyLine.f (f s : List S_Tile) (r : List Int) (t p : Int) : Option (List ByteArray × Bool) := if f.length ≤ 1048576 ∧ s.length ≤ 1048576 ∧ r.length ≤ 1048576 then some (resHeavyLine f s r t p) else none
set_option maxRecDepth 100000 in
set_option maxHeartbeats 40000000 in
theorem spec_HeavyLine.calls (A0_0 : Option Addr) (c0_0 : Nat) (l0_0 : List S_Tile) (A0_1 : Option Addr) (c0_1 : Nat) (l0_1 : List S_Tile) (A0_2 : Option Addr) (c0_2 : Nat) (l0_2 : List Int) (a0_3 : Int) (a0_4 : Int) (r0 : List ByteArray) (r1 : Bool) (w : World) (hr0_0 : Kd.C k59 w A0_0 l0_0.length l0_0) (hc0_0 : l0_0.length ≤ c0_0) (hr0_1 : Kd.C k59 w A0_1 l0_1.length l0_1) (hc0_1 : l0_1.length ≤ c0_1) (hr0_2 : Kd.C (Kd.int .i64) w A0_2 l0_2.length l0_2) (hc0_2 : l0_2.length ≤ c0_2) (h : spec_HeavyLine.f l0_0 l0_1 l0_2 a0_3 a0_4 = some (r0, r1)) :
  Calls Tryz.prog 13 #[.agg #[.slice A0_0 l0_0.length c0_0, .slice A0_1 l0_1.length c0_1, .slice A0_2 l0_2.length c0_2, .int .i64 a0_3, .int .i64 a0_4]] w fun e w' => ∃ v0_ : Value, e = .returned (.tuple #[v0_, .bool r1]) ∧ Kd.R Kd.string 9 w' w.heap.size (fun _ => True) v0_ r0 ∧ Below w.heap.size w w' := by
 unfold spec_HeavyLine.f resHeavyLine at h
 by_cases hsz : l0_0.length ≤ 1048576 ∧ l0_1.length ≤ 1048576 ∧ l0_2.length ≤ 1048576
 case neg => rw [if_neg hsz] at h; cases h
 rw [if_pos hsz] at h
 obtain ⟨hy0, hy1, hy2⟩ := hsz
 obtain ⟨cs, hcs⟩ : ∃ cs, cs = [old w w.heap.size] := ⟨_, rfl⟩
 have hp : Hp w cs w := by rw [hcs]; exact Hp.old_start w
 have hc2 : ∀ W, Hp w cs W → Below w.heap.size w W := fun W h => by rw [hcs] at h; exact h.since 0 _ rfl
 have hC0_0 : ∀ W, Hp w cs W → Kd.C k59 W A0_0 l0_0.length l0_0 := fun W h => Kd.C_below hr0_0 (hc2 W h)
 have hC0_1 : ∀ W, Hp w cs W → Kd.C k59 W A0_1 l0_1.length l0_1 := fun W h => Kd.C_below hr0_1 (hc2 W h)
 have hC0_2 : ∀ W, Hp w cs W → Kd.C (Kd.int .i64) W A0_2 l0_2.length l0_2 := fun W h => Kd.C_below hr0_2 (hc2 W h)
 clear hcs
 refine sx_enter (N := 52) (l := [.agg #[.slice A0_0 l0_0.length c0_0, .slice A0_1 l0_1.length c0_1, .slice A0_2 l0_2.length c0_2, .int .i64 a0_3, .int .i64 a0_4]]) Tryz.func13 rfl rfl rfl ?_
 refine wp_seq ?_
 refine sx_region ?_
 refine sx_box 1 hp #[.slice A0_0 l0_0.length c0_0, .slice A0_1 l0_1.length c0_1, .slice A0_2 l0_2.length c0_2, .int .i64 a0_3, .int .i64 a0_4] 29 (by rfl) (fun W => by kernel_rfl) ?_
 intro g_1 W_2 hp
 refine sx_rd 2 (.slice none 0 0) (by rfl) (by kernel_rfl) ?_
 refine sx_rd 3 (.bool false) (by rfl) (by kernel_rfl) ?_
 refine sx_nil ?_
 refine ex_then_n ?_
 refine wp_seq ?_
 refine wp_seq ?_
 refine sx_region ?_
 refine sx_rd 9 (.agg #[.slice A0_0 l0_0.length c0_0, .slice A0_1 l0_1.length c0_1, .slice A0_2 l0_2.length c0_2, .int .i64 a0_3, .int .i64 a0_4]) (by rfl) (ldn (t := 29) (p := (.tmp 1)) (by rfl) (by rfl) (by kernel_rfl) (by kernel_rfl) (by kernel_rfl) (hp.at_ 0 _ (by rfl))) ?_
 obtain ⟨k_3, hk_k_3⟩ := Ev.rounds (plGood_ev l0_0 l0_1 l0_2 a0_3 a0_4 (by omega) (by omega) (by omega))
 refine sx_call 10 (by rfl) (by kernel_rfl) ((spec_plGood.calls k_3 A0_0 c0_0 l0_0 A0_1 c0_1 l0_1 A0_2 c0_2 l0_2 a0_3 a0_4 _ _ (hC0_0 _ hp.tail) hc0_0 (hC0_1 _ hp.tail) hc0_1 (hC0_2 _ hp.tail) hc0_2 hk_k_3).mono ?_)
 rintro _ W_4 ⟨rfl, hb⟩
 refine ⟨_, rfl, ?_⟩
 replace hp := hp.below hb
 clear hb
 refine sx_rd 11 (.bool (!(gameB l0_0 l0_1 l0_2 a0_3 a0_4))) (by rfl) (by kernel_rfl) ?_
 refine sx_nil ?_
 refine ex_then_n ?_
 refine sx_cond (!(gameB l0_0 l0_1 l0_2 a0_3 a0_4)) (by rfl) (fun c_5 => ?_) (fun c_5 => ?_)
 ·
  refine wp_seq ?_
  refine sx_region ?_
  refine sx_rd 2 (.slice none 0 0) (by rfl) (by kernel_rfl) ?_
  refine sx_rd 3 (.bool false) (by rfl) (by kernel_rfl) ?_
  refine sx_nil ?_
  refine ex_then_n ?_
  refine wp_ret ?_
  refine ex_then_r ?_
  refine sx_end (.tuple #[.slice none 0 0, .bool false]) (res2 2 3 (by rfl)) ?_
  rw [if_neg (by rw [(not_eq c_5)]; simp)] at h; simp only [Option.some.injEq, Prod.mk.injEq] at h; obtain ⟨rfl, rfl⟩ := h
  exact ⟨_, rfl, Kd.R_nil _ _ _ _ _, hc2 _ (hp.tail)⟩
 ·
  have hgB : (gameB l0_0 l0_1 l0_2 a0_3 a0_4) = true := by have q := c_5; simpa using q
  have hok0 := GmOk.of hgB
  refine wp_skip ?_
  refine ex_then_n ?_
  refine wp_seq ?_
  refine sx_region ?_
  refine sx_rd 4 (.slice none 0 0) (by rfl) (by kernel_rfl) ?_
  refine sx_nil ?_
  refine ex_then_n ?_
  refine wp_seq ?_
  refine wp_block ?_
  have hp := hp.nilrow Kd.string 9 w.heap.size
  refine wp_loop_ghost (fun n a W => ∃ (r_ : List (Nat × Value)) (i : Nat) (ds : List Chunk) (Af_ : Option Addr) (cf_ : Nat) (As_ : Option Addr) (cs_ : Nat) (Ar_ : Option Addr) (cr_ : Nat) (Ao : Option Addr) (no co : Nat) (Fo : Nat → Prop), n = nH (⟨l0_0, l0_1, l0_2, a0_3, a0_4⟩ : Gm) - i ∧ a = fr 52 ([(1, .pointer (some ⟨g_1, 0, none⟩)), (4, .slice Ao no co)] ++ r_) ∧ Hp w (row Kd.string 9 w.heap.size (.slice Ao no co) (outH (⟨l0_0, l0_1, l0_2, a0_3, a0_4⟩ : Gm) i) Fo :: blk g_1 #[.slice Af_ ((hg (⟨l0_0, l0_1, l0_2, a0_3, a0_4⟩ : Gm) i).f.length) cf_, .slice As_ ((hg (⟨l0_0, l0_1, l0_2, a0_3, a0_4⟩ : Gm) i).s.length) cs_, .slice Ar_ ((hg (⟨l0_0, l0_1, l0_2, a0_3, a0_4⟩ : Gm) i).r.length) cr_, .int .i64 ((hg (⟨l0_0, l0_1, l0_2, a0_3, a0_4⟩ : Gm) i).t), .int .i64 ((hg (⟨l0_0, l0_1, l0_2, a0_3, a0_4⟩ : Gm) i).p)] 29 :: ds) W ∧ (i ≤ nH (⟨l0_0, l0_1, l0_2, a0_3, a0_4⟩ : Gm)) ∧ (∀ W, Hp w ds W → Kd.C k59 W Af_ (hg (⟨l0_0, l0_1, l0_2, a0_3, a0_4⟩ : Gm) i).f.length (hg (⟨l0_0, l0_1, l0_2, a0_3, a0_4⟩ : Gm) i).f) ∧ ((hg (⟨l0_0, l0_1, l0_2, a0_3, a0_4⟩ : Gm) i).f.length ≤ cf_) ∧ (∀ W, Hp w ds W → Kd.C k59 W As_ (hg (⟨l0_0, l0_1, l0_2, a0_3, a0_4⟩ : Gm) i).s.length (hg (⟨l0_0, l0_1, l0_2, a0_3, a0_4⟩ : Gm) i).s) ∧ ((hg (⟨l0_0, l0_1, l0_2, a0_3, a0_4⟩ : Gm) i).s.length ≤ cs_) ∧ (∀ W, Hp w ds W → Kd.C (Kd.int .i64) W Ar_ (hg (⟨l0_0, l0_1, l0_2, a0_3, a0_4⟩ : Gm) i).r.length (hg (⟨l0_0, l0_1, l0_2, a0_3, a0_4⟩ : Gm) i).r) ∧ ((hg (⟨l0_0, l0_1, l0_2, a0_3, a0_4⟩ : Gm) i).r.length ≤ cr_) ∧ (∀ W, Hp w ds W → Below w.heap.size w W)) _ ⟨_, 0, cs, A0_0, c0_0, A0_1, c0_1, A0_2, c0_2, _, _, _, _, rfl, fr_front [(1, .pointer (some ⟨g_1, 0, none⟩)), (4, .slice none 0 0)] ⟨rfl, rfl, trivial⟩, (hp.take [0, 1] 2 (by decide) (by simp)), Nat.zero_le _, hC0_0, hc0_0, hC0_1, hc0_1, hC0_2, hc0_2, hc2⟩ ?_
  rintro _ _ W_6 ⟨r_, i, ds, Af_, cf_, As_, cs_, Ar_, cr_, Ao, no, co, Fo, rfl, rfl, hp, hi, hCf_, hcf_, hCs_, hcs_, hCr_, hcr_, hcd⟩
  obtain ⟨rfl, hcco⟩ := row_len (hp.at_ 0 _ (by rfl))
  have hoi := hg_ok hok0 i hi
  have hrw := hg_row (⟨l0_0, l0_1, l0_2, a0_3, a0_4⟩ : Gm) i
  have hNs := (nH_spec hok0).2.2
  have hol := outH_len (⟨l0_0, l0_1, l0_2, a0_3, a0_4⟩ : Gm) i
  dsimp only at hrw
  have hri : (hg (⟨l0_0, l0_1, l0_2, a0_3, a0_4⟩ : Gm) i).r.length ≤ 2000000 := by omega
  have hgm := gmGs hoi hri
  have hz3 := hand_len hoi.f
  have hz4 := hand_len hoi.s
  have hza := nH_at hok0 hi
  refine wp_seq ?_
  refine wp_seq ?_
  refine sx_region ?_
  refine sx_rd 12 (.agg #[.slice Af_ ((hg (⟨l0_0, l0_1, l0_2, a0_3, a0_4⟩ : Gm) i).f.length) cf_, .slice As_ ((hg (⟨l0_0, l0_1, l0_2, a0_3, a0_4⟩ : Gm) i).s.length) cs_, .slice Ar_ ((hg (⟨l0_0, l0_1, l0_2, a0_3, a0_4⟩ : Gm) i).r.length) cr_, .int .i64 ((hg (⟨l0_0, l0_1, l0_2, a0_3, a0_4⟩ : Gm) i).t), .int .i64 ((hg (⟨l0_0, l0_1, l0_2, a0_3, a0_4⟩ : Gm) i).p)]) (by rfl) (ldn (t := 29) (p := (.tmp 1)) (by rfl) (by rfl) (by kernel_rfl) (by kernel_rfl) (by kernel_rfl) (hp.at_ 1 _ (by rfl))) ?_
  refine sx_call 13 (by rfl) (by kernel_rfl) ((spec_plOver.calls Af_ cf_ ((hg (⟨l0_0, l0_1, l0_2, a0_3, a0_4⟩ : Gm) i).f) As_ cs_ ((hg (⟨l0_0, l0_1, l0_2, a0_3, a0_4⟩ : Gm) i).s) Ar_ cr_ ((hg (⟨l0_0, l0_1, l0_2, a0_3, a0_4⟩ : Gm) i).r) ((hg (⟨l0_0, l0_1, l0_2, a0_3, a0_4⟩ : Gm) i).t) ((hg (⟨l0_0, l0_1, l0_2, a0_3, a0_4⟩ : Gm) i).p) _ _ (hCf_ _ hp.tail.tail) hcf_ (hCs_ _ hp.tail.tail) hcs_ (hCr_ _ hp.tail.tail) hcr_ (plOver_eq (hg (⟨l0_0, l0_1, l0_2, a0_3, a0_4⟩ : Gm) i).f (hg (⟨l0_0, l0_1, l0_2, a0_3, a0_4⟩ : Gm) i).s (hg (⟨l0_0, l0_1, l0_2, a0_3, a0_4⟩ : Gm) i).r (hg (⟨l0_0, l0_1, l0_2, a0_3, a0_4⟩ : Gm) i).t (hg (⟨l0_0, l0_1, l0_2, a0_3, a0_4⟩ : Gm) i).p)).mono ?_)
  rintro _ W_7 ⟨rfl, hb⟩
  refine ⟨_, rfl, ?_⟩
  replace hp := hp.below hb
  clear hb
  refine sx_rd 14 (.bool (!(overB (hg (⟨l0_0, l0_1, l0_2, a0_3, a0_4⟩ : Gm) i).f (hg (⟨l0_0, l0_1, l0_2, a0_3, a0_4⟩ : Gm) i).s (hg (⟨l0_0, l0_1, l0_2, a0_3, a0_4⟩ : Gm) i).p))) (by rfl) (by kernel_rfl) ?_
  refine sx_nil ?_
  refine ex_then_n ?_
  refine sx_cond (!(overB (hg (⟨l0_0, l0_1, l0_2, a0_3, a0_4⟩ : Gm) i).f (hg (⟨l0_0, l0_1, l0_2, a0_3, a0_4⟩ : Gm) i).s (hg (⟨l0_0, l0_1, l0_2, a0_3, a0_4⟩ : Gm) i).p)) (by rfl) (fun c_8 => ?_) (fun c_8 => ?_)
  ·
   have hov : (hg (⟨l0_0, l0_1, l0_2, a0_3, a0_4⟩ : Gm) i).over = false := by show (overB (hg (⟨l0_0, l0_1, l0_2, a0_3, a0_4⟩ : Gm) i).f (hg (⟨l0_0, l0_1, l0_2, a0_3, a0_4⟩ : Gm) i).s (hg (⟨l0_0, l0_1, l0_2, a0_3, a0_4⟩ : Gm) i).p) = _; have q := c_8; simpa using q
   have hne := moves_ne hov
   have hLn : (hg (⟨l0_0, l0_1, l0_2, a0_3, a0_4⟩ : Gm) i).moves.length ≤ 200 := movesL_len _ _ _ _ _
   refine wp_skip ?_
   refine ex_then_n ?_
   refine wp_block ?_
   refine wp_seq ?_
   refine sx_region ?_
   refine sx_rd 15 (.agg #[.slice Af_ ((hg (⟨l0_0, l0_1, l0_2, a0_3, a0_4⟩ : Gm) i).f.length) cf_, .slice As_ ((hg (⟨l0_0, l0_1, l0_2, a0_3, a0_4⟩ : Gm) i).s.length) cs_, .slice Ar_ ((hg (⟨l0_0, l0_1, l0_2, a0_3, a0_4⟩ : Gm) i).r.length) cr_, .int .i64 ((hg (⟨l0_0, l0_1, l0_2, a0_3, a0_4⟩ : Gm) i).t), .int .i64 ((hg (⟨l0_0, l0_1, l0_2, a0_3, a0_4⟩ : Gm) i).p)]) (by rfl) (ldn (t := 29) (p := (.tmp 1)) (by rfl) (by rfl) (by kernel_rfl) (by kernel_rfl) (by kernel_rfl) (hp.at_ 1 _ (by rfl))) ?_
   refine sx_call 16 (by rfl) (by kernel_rfl) ((spec_plMoves.calls Af_ cf_ ((hg (⟨l0_0, l0_1, l0_2, a0_3, a0_4⟩ : Gm) i).f) As_ cs_ ((hg (⟨l0_0, l0_1, l0_2, a0_3, a0_4⟩ : Gm) i).s) Ar_ cr_ ((hg (⟨l0_0, l0_1, l0_2, a0_3, a0_4⟩ : Gm) i).r) ((hg (⟨l0_0, l0_1, l0_2, a0_3, a0_4⟩ : Gm) i).t) ((hg (⟨l0_0, l0_1, l0_2, a0_3, a0_4⟩ : Gm) i).p) _ _ (hCf_ _ hp.tail.tail) hcf_ (hCs_ _ hp.tail.tail) hcs_ (hCr_ _ hp.tail.tail) hcr_ (plMoves_eq (hg (⟨l0_0, l0_1, l0_2, a0_3, a0_4⟩ : Gm) i) hoi.f hoi.s hri)).mono ?_)
   rintro _ W_14 ⟨v_10, rfl, hR_9, hb⟩
   refine ⟨_, rfl, ?_⟩
   obtain ⟨A_11, c_12, rfl, hcc_c_12, _⟩ := Kd.R_reads hR_9
   obtain ⟨F_13, hp⟩ : ∃ F, Hp w (row k61 61 w.heap.size (.slice A_11 ((hg (⟨l0_0, l0_1, l0_2, a0_3, a0_4⟩ : Gm) i).moves).length c_12) ((hg (⟨l0_0, l0_1, l0_2, a0_3, a0_4⟩ : Gm) i).moves) F :: row Kd.string 9 w.heap.size (.slice Ao ((outH (⟨l0_0, l0_1, l0_2, a0_3, a0_4⟩ : Gm) i).length) co) (outH (⟨l0_0, l0_1, l0_2, a0_3, a0_4⟩ : Gm) i) Fo :: blk g_1 #[.slice Af_ ((hg (⟨l0_0, l0_1, l0_2, a0_3, a0_4⟩ : Gm) i).f.length) cf_, .slice As_ ((hg (⟨l0_0, l0_1, l0_2, a0_3, a0_4⟩ : Gm) i).s.length) cs_, .slice Ar_ ((hg (⟨l0_0, l0_1, l0_2, a0_3, a0_4⟩ : Gm) i).r.length) cr_, .int .i64 ((hg (⟨l0_0, l0_1, l0_2, a0_3, a0_4⟩ : Gm) i).t), .int .i64 ((hg (⟨l0_0, l0_1, l0_2, a0_3, a0_4⟩ : Gm) i).p)] 29 :: ds) _ := ⟨_, Hp.made hp hb hR_9⟩
   refine sx_rd 5 (.slice A_11 (((hg (⟨l0_0, l0_1, l0_2, a0_3, a0_4⟩ : Gm) i).moves).length) c_12) (by rfl) (by kernel_rfl) ?_
   refine sx_nil ?_
   refine ex_then_n ?_
   refine wp_seq ?_
   refine sx_region ?_
   refine sx_rd 17 (.slice A_11 (((hg (⟨l0_0, l0_1, l0_2, a0_3, a0_4⟩ : Gm) i).moves).length) c_12) (by rfl) (by kernel_rfl) ?_
   refine sx_rd 18 (.pointer (some (adr A_11 0 4))) (by rfl) (ix_run (d := k61) (row_C (hp.at_ 0 _ (by rfl))) (t := 56) (by rfl) (by rfl) (by rfl) Tryz.underlying56 (by kernel_rfl) (by omega) (by omega)) ?_
   refine sx_rd 19 (.agg #[.int .i64 ((rd_plLay ((hg (⟨l0_0, l0_1, l0_2, a0_3, a0_4⟩ : Gm) i).moves) 0).f0.f0), .int .i64 ((rd_plLay ((hg (⟨l0_0, l0_1, l0_2, a0_3, a0_4⟩ : Gm) i).moves) 0).f0.f1), .bool ((rd_plLay ((hg (⟨l0_0, l0_1, l0_2, a0_3, a0_4⟩ : Gm) i).moves) 0).f1), .bool ((rd_plLay ((hg (⟨l0_0, l0_1, l0_2, a0_3, a0_4⟩ : Gm) i).moves) 0).f2)]) (by rfl) (el_run (d := k61) (row_C (hp.at_ 0 _ (by rfl))) z61 0 (by omega) (by omega) (cells := [.int .i64 ((rd_plLay ((hg (⟨l0_0, l0_1, l0_2, a0_3, a0_4⟩ : Gm) i).moves) 0).f0.f0), .int .i64 ((rd_plLay ((hg (⟨l0_0, l0_1, l0_2, a0_3, a0_4⟩ : Gm) i).moves) 0).f0.f1), .bool ((rd_plLay ((hg (⟨l0_0, l0_1, l0_2, a0_3, a0_4⟩ : Gm) i).moves) 0).f1), .bool ((rd_plLay ((hg (⟨l0_0, l0_1, l0_2, a0_3, a0_4⟩ : Gm) i).moves) 0).f2)]) (fun cs h => k61_open h) 0 [.int .i64 ((rd_plLay ((hg (⟨l0_0, l0_1, l0_2, a0_3, a0_4⟩ : Gm) i).moves) 0).f0.f0), .int .i64 ((rd_plLay ((hg (⟨l0_0, l0_1, l0_2, a0_3, a0_4⟩ : Gm) i).moves) 0).f0.f1), .bool ((rd_plLay ((hg (⟨l0_0, l0_1, l0_2, a0_3, a0_4⟩ : Gm) i).moves) 0).f1), .bool ((rd_plLay ((hg (⟨l0_0, l0_1, l0_2, a0_3, a0_4⟩ : Gm) i).moves) 0).f2)] (by rfl) (t := 61) (p := (.tmp 18)) (by rfl) (by rfl) (by kernel_rfl) (by kernel_rfl)) ?_
   refine sx_box 6 hp #[.int .i64 0, .int .i64 0, .bool false, .bool false] 61 (by rfl) (fun W => by kernel_rfl) ?_
   intro g_15 W_16 hp
   refine sx_store (t := 61) (p := (.tmp 6)) (x := (.tmp 19)) (by rfl) (by rfl) 0 (by rfl) 0 [.int .i64 ((rd_plLay ((hg (⟨l0_0, l0_1, l0_2, a0_3, a0_4⟩ : Gm) i).moves) 0).f0.f0), .int .i64 ((rd_plLay ((hg (⟨l0_0, l0_1, l0_2, a0_3, a0_4⟩ : Gm) i).moves) 0).f0.f1), .bool ((rd_plLay ((hg (⟨l0_0, l0_1, l0_2, a0_3, a0_4⟩ : Gm) i).moves) 0).f1), .bool ((rd_plLay ((hg (⟨l0_0, l0_1, l0_2, a0_3, a0_4⟩ : Gm) i).moves) 0).f2)] (by rfl) (by rfl) (by kernel_rfl) (by simp [Value.oneCell']) (by show 4 ≤ 4; omega) #[.int .i64 ((rd_plLay ((hg (⟨l0_0, l0_1, l0_2, a0_3, a0_4⟩ : Gm) i).moves) 0).f0.f0), .int .i64 ((rd_plLay ((hg (⟨l0_0, l0_1, l0_2, a0_3, a0_4⟩ : Gm) i).moves) 0).f0.f1), .bool ((rd_plLay ((hg (⟨l0_0, l0_1, l0_2, a0_3, a0_4⟩ : Gm) i).moves) 0).f1), .bool ((rd_plLay ((hg (⟨l0_0, l0_1, l0_2, a0_3, a0_4⟩ : Gm) i).moves) 0).f2)] (by rfl) hp ?_
   intro W_17 hp; simp only [List.set_cons_succ, List.set_cons_zero] at hp
   refine sx_nil ?_
   refine ex_then_n ?_
   refine wp_seq ?_
   refine wp_seq ?_
   refine sx_region ?_
   refine sx_rd 20 (.slice A_11 (((hg (⟨l0_0, l0_1, l0_2, a0_3, a0_4⟩ : Gm) i).moves).length) c_12) (by rfl) (by kernel_rfl) ?_
   refine sx_rd 21 (.int .i64 (((hg (⟨l0_0, l0_1, l0_2, a0_3, a0_4⟩ : Gm) i).moves).length : Int)) (by rfl) (by kernel_rfl) ?_
   refine sx_rd 22 (.int .i64 0) (by rfl) (by kernel_rfl) ?_
   refine sx_nil ?_
   refine ex_then_n ?_
   refine wp_block ?_
   refine wp_loop_ghost (fun n a W => ∃ (r_ : List (Nat × Value)) (j : Nat) , n = (hg (⟨l0_0, l0_1, l0_2, a0_3, a0_4⟩ : Gm) i).moves.length - j ∧ a = fr 52 ([(1, .pointer (some ⟨g_1, 0, none⟩)), (4, .slice Ao ((outH (⟨l0_0, l0_1, l0_2, a0_3, a0_4⟩ : Gm) i).length) co), (6, .pointer (some ⟨g_15, 0, none⟩)), (20, .slice A_11 (((hg (⟨l0_0, l0_1, l0_2, a0_3, a0_4⟩ : Gm) i).moves).length) c_12), (21, .int .i64 (((hg (⟨l0_0, l0_1, l0_2, a0_3, a0_4⟩ : Gm) i).moves).length : Int)), (22, .int .i64 (j : Int))] ++ r_) ∧ Hp w (blk g_15 #[.int .i64 ((bestTo (hg (⟨l0_0, l0_1, l0_2, a0_3, a0_4⟩ : Gm) i).moves j).f0.f0), .int .i64 ((bestTo (hg (⟨l0_0, l0_1, l0_2, a0_3, a0_4⟩ : Gm) i).moves j).f0.f1), .bool ((bestTo (hg (⟨l0_0, l0_1, l0_2, a0_3, a0_4⟩ : Gm) i).moves j).f1), .bool ((bestTo (hg (⟨l0_0, l0_1, l0_2, a0_3, a0_4⟩ : Gm) i).moves j).f2)] 61 :: row k61 61 w.heap.size (.slice A_11 (((hg (⟨l0_0, l0_1, l0_2, a0_3, a0_4⟩ : Gm) i).moves).length) c_12) ((hg (⟨l0_0, l0_1, l0_2, a0_3, a0_4⟩ : Gm) i).moves) F_13 :: row Kd.string 9 w.heap.size (.slice Ao ((outH (⟨l0_0, l0_1, l0_2, a0_3, a0_4⟩ : Gm) i).length) co) (outH (⟨l0_0, l0_1, l0_2, a0_3, a0_4⟩ : Gm) i) Fo :: blk g_1 #[.slice Af_ ((hg (⟨l0_0, l0_1, l0_2, a0_3, a0_4⟩ : Gm) i).f.length) cf_, .slice As_ ((hg (⟨l0_0, l0_1, l0_2, a0_3, a0_4⟩ : Gm) i).s.length) cs_, .slice Ar_ ((hg (⟨l0_0, l0_1, l0_2, a0_3, a0_4⟩ : Gm) i).r.length) cr_, .int .i64 ((hg (⟨l0_0, l0_1, l0_2, a0_3, a0_4⟩ : Gm) i).t), .int .i64 ((hg (⟨l0_0, l0_1, l0_2, a0_3, a0_4⟩ : Gm) i).p)] 29 :: ds) W ∧ (j ≤ (hg (⟨l0_0, l0_1, l0_2, a0_3, a0_4⟩ : Gm) i).moves.length)) _ ⟨_, 0, rfl, fr_front [(1, .pointer (some ⟨g_1, 0, none⟩)), (4, .slice Ao ((outH (⟨l0_0, l0_1, l0_2, a0_3, a0_4⟩ : Gm) i).length) co), (6, .pointer (some ⟨g_15, 0, none⟩)), (20, .slice A_11 (((hg (⟨l0_0, l0_1, l0_2, a0_3, a0_4⟩ : Gm) i).moves).length) c_12), (21, .int .i64 (((hg (⟨l0_0, l0_1, l0_2, a0_3, a0_4⟩ : Gm) i).moves).length : Int)), (22, .int .i64 0)] ⟨rfl, rfl, rfl, rfl, rfl, rfl, trivial⟩, (hp.take [0, 1, 2, 3] 4 (by decide) (by simp)), Nat.zero_le _⟩ ?_
   rintro _ _ W_18 ⟨r_, j, rfl, rfl, hp, hj⟩
   refine wp_seq ?_
   refine sx_region ?_
   refine sx_rd 23 (.bool (decide ((j : Int) < (((hg (⟨l0_0, l0_1, l0_2, a0_3, a0_4⟩ : Gm) i).moves).length : Int)))) (by rfl) (by kernel_rfl) ?_
   refine sx_nil ?_
   refine ex_then_n ?_
   refine wp_seq ?_
   refine sx_cond (decide ((j : Int) < (((hg (⟨l0_0, l0_1, l0_2, a0_3, a0_4⟩ : Gm) i).moves).length : Int))) (by rfl) (fun c_19 => ?_) (fun c_19 => ?_)
   ·
    have c_19p := of_decide_eq_true c_19
    have hm1 : rd_plLay (hg (⟨l0_0, l0_1, l0_2, a0_3, a0_4⟩ : Gm) i).moves (j : Int) ∈ (hg (⟨l0_0, l0_1, l0_2, a0_3, a0_4⟩ : Gm) i).moves := by rw [rdL_lt (show j < (hg (⟨l0_0, l0_1, l0_2, a0_3, a0_4⟩ : Gm) i).moves.length by omega)]; exact List.getElem_mem _
    have hb1 := wt_bd hm1
    have hb2 := wt_bd (bestTo_mem hne j (by omega))
    unfold wtM at hb1 hb2
    refine wp_skip ?_
    refine ex_then_n ?_
    refine wp_seq ?_
    refine wp_block ?_
    refine wp_seq ?_
    refine sx_region ?_
    refine sx_rd 24 (.pointer (some (adr A_11 (j : Int) 4))) (by rfl) (ix_run (d := k61) (row_C (hp.at_ 1 _ (by rfl))) (t := 56) (by rfl) (by rfl) (by rfl) Tryz.underlying56 (by kernel_rfl) (by omega) (by omega)) ?_
    refine sx_rd 25 (.agg #[.int .i64 ((rd_plLay ((hg (⟨l0_0, l0_1, l0_2, a0_3, a0_4⟩ : Gm) i).moves) (j : Int)).f0.f0), .int .i64 ((rd_plLay ((hg (⟨l0_0, l0_1, l0_2, a0_3, a0_4⟩ : Gm) i).moves) (j : Int)).f0.f1), .bool ((rd_plLay ((hg (⟨l0_0, l0_1, l0_2, a0_3, a0_4⟩ : Gm) i).moves) (j : Int)).f1), .bool ((rd_plLay ((hg (⟨l0_0, l0_1, l0_2, a0_3, a0_4⟩ : Gm) i).moves) (j : Int)).f2)]) (by rfl) (el_run (d := k61) (row_C (hp.at_ 1 _ (by rfl))) z61 (j : Int) (by omega) (by omega) (cells := [.int .i64 ((rd_plLay ((hg (⟨l0_0, l0_1, l0_2, a0_3, a0_4⟩ : Gm) i).moves) (j : Int)).f0.f0), .int .i64 ((rd_plLay ((hg (⟨l0_0, l0_1, l0_2, a0_3, a0_4⟩ : Gm) i).moves) (j : Int)).f0.f1), .bool ((rd_plLay ((hg (⟨l0_0, l0_1, l0_2, a0_3, a0_4⟩ : Gm) i).moves) (j : Int)).f1), .bool ((rd_plLay ((hg (⟨l0_0, l0_1, l0_2, a0_3, a0_4⟩ : Gm) i).moves) (j : Int)).f2)]) (fun cs h => k61_open h) 0 [.int .i64 ((rd_plLay ((hg (⟨l0_0, l0_1, l0_2, a0_3, a0_4⟩ : Gm) i).moves) (j : Int)).f0.f0), .int .i64 ((rd_plLay ((hg (⟨l0_0, l0_1, l0_2, a0_3, a0_4⟩ : Gm) i).moves) (j : Int)).f0.f1), .bool ((rd_plLay ((hg (⟨l0_0, l0_1, l0_2, a0_3, a0_4⟩ : Gm) i).moves) (j : Int)).f1), .bool ((rd_plLay ((hg (⟨l0_0, l0_1, l0_2, a0_3, a0_4⟩ : Gm) i).moves) (j : Int)).f2)] (by rfl) (t := 61) (p := (.tmp 24)) (by rfl) (by rfl) (by kernel_rfl) (by kernel_rfl)) ?_
    refine sx_box 8 hp #[.int .i64 0, .int .i64 0, .bool false, .bool false] 61 (by rfl) (fun W => by kernel_rfl) ?_
    intro g_20 W_21 hp
    refine sx_store (t := 61) (p := (.tmp 8)) (x := (.tmp 25)) (by rfl) (by rfl) 0 (by rfl) 0 [.int .i64 ((rd_plLay ((hg (⟨l0_0, l0_1, l0_2, a0_3, a0_4⟩ : Gm) i).moves) (j : Int)).f0.f0), .int .i64 ((rd_plLay ((hg (⟨l0_0, l0_1, l0_2, a0_3, a0_4⟩ : Gm) i).moves) (j : Int)).f0.f1), .bool ((rd_plLay ((hg (⟨l0_0, l0_1, l0_2, a0_3, a0_4⟩ : Gm) i).moves) (j : Int)).f1), .bool ((rd_plLay ((hg (⟨l0_0, l0_1, l0_2, a0_3, a0_4⟩ : Gm) i).moves) (j : Int)).f2)] (by rfl) (by rfl) (by kernel_rfl) (by simp [Value.oneCell']) (by show 4 ≤ 4; omega) #[.int .i64 ((rd_plLay ((hg (⟨l0_0, l0_1, l0_2, a0_3, a0_4⟩ : Gm) i).moves) (j : Int)).f0.f0), .int .i64 ((rd_plLay ((hg (⟨l0_0, l0_1, l0_2, a0_3, a0_4⟩ : Gm) i).moves) (j : Int)).f0.f1), .bool ((rd_plLay ((hg (⟨l0_0, l0_1, l0_2, a0_3, a0_4⟩ : Gm) i).moves) (j : Int)).f1), .bool ((rd_plLay ((hg (⟨l0_0, l0_1, l0_2, a0_3, a0_4⟩ : Gm) i).moves) (j : Int)).f2)] (by rfl) hp ?_
    intro W_22 hp; simp only [List.set_cons_succ, List.set_cons_zero] at hp
    refine sx_nil ?_
    refine ex_then_n ?_
    refine wp_seq ?_
    refine sx_region ?_
    refine sx_rd 26 (.pointer (some ⟨g_20, 0, none⟩)) (by rfl) (by kernel_rfl) ?_
    refine sx_rd 27 (.pointer (some ⟨g_20, 0, none⟩)) (by rfl) (by kernel_rfl) ?_
    refine sx_rd 28 (.int .i64 ((rd_plLay ((hg (⟨l0_0, l0_1, l0_2, a0_3, a0_4⟩ : Gm) i).moves) (j : Int)).f0.f0)) (by rfl) (ld1 (t := 3) (p := (.tmp 27)) (by rfl) (by rfl) (by kernel_rfl) (hp.cell 0 (by rfl) 0 _ (by rfl))) ?_
    refine sx_rd 29 (.pointer (some ⟨g_20, 0, none⟩)) (by rfl) (by kernel_rfl) ?_
    refine sx_rd 30 (.pointer (some ⟨g_20, 1, none⟩)) (by rfl) (by kernel_rfl) ?_
    refine sx_rd 31 (.int .i64 ((rd_plLay ((hg (⟨l0_0, l0_1, l0_2, a0_3, a0_4⟩ : Gm) i).moves) (j : Int)).f0.f1)) (by rfl) (ld1 (t := 3) (p := (.tmp 30)) (by rfl) (by rfl) (by kernel_rfl) (hp.cell 0 (by rfl) 1 _ (by rfl))) ?_
    refine sx_rd 32 (.int .i64 ((rd_plLay ((hg (⟨l0_0, l0_1, l0_2, a0_3, a0_4⟩ : Gm) i).moves) (j : Int)).f0.f0 + (rd_plLay ((hg (⟨l0_0, l0_1, l0_2, a0_3, a0_4⟩ : Gm) i).moves) (j : Int)).f0.f1)) (by rfl) (wr_ok (by omega) (by kernel_rfl)) ?_
    refine sx_rd 33 (.pointer (some ⟨g_15, 0, none⟩)) (by rfl) (by kernel_rfl) ?_
    refine sx_rd 34 (.pointer (some ⟨g_15, 0, none⟩)) (by rfl) (by kernel_rfl) ?_
    refine sx_rd 35 (.int .i64 ((bestTo (hg (⟨l0_0, l0_1, l0_2, a0_3, a0_4⟩ : Gm) i).moves j).f0.f0)) (by rfl) (ld1 (t := 3) (p := (.tmp 34)) (by rfl) (by rfl) (by kernel_rfl) (hp.cell 1 (by rfl) 0 _ (by rfl))) ?_
    refine sx_rd 36 (.pointer (some ⟨g_15, 0, none⟩)) (by rfl) (by kernel_rfl) ?_
    refine sx_rd 37 (.pointer (some ⟨g_15, 1, none⟩)) (by rfl) (by kernel_rfl) ?_
    refine sx_rd 38 (.int .i64 ((bestTo (hg (⟨l0_0, l0_1, l0_2, a0_3, a0_4⟩ : Gm) i).moves j).f0.f1)) (by rfl) (ld1 (t := 3) (p := (.tmp 37)) (by rfl) (by rfl) (by kernel_rfl) (hp.cell 1 (by rfl) 1 _ (by rfl))) ?_
    refine sx_rd 39 (.int .i64 ((bestTo (hg (⟨l0_0, l0_1, l0_2, a0_3, a0_4⟩ : Gm) i).moves j).f0.f0 + (bestTo (hg (⟨l0_0, l0_1, l0_2, a0_3, a0_4⟩ : Gm) i).moves j).f0.f1)) (by rfl) (wr_ok (by omega) (by kernel_rfl)) ?_
    refine sx_rd 40 (.bool (decide (((rd_plLay ((hg (⟨l0_0, l0_1, l0_2, a0_3, a0_4⟩ : Gm) i).moves) (j : Int)).f0.f0 + (rd_plLay ((hg (⟨l0_0, l0_1, l0_2, a0_3, a0_4⟩ : Gm) i).moves) (j : Int)).f0.f1) > ((bestTo (hg (⟨l0_0, l0_1, l0_2, a0_3, a0_4⟩ : Gm) i).moves j).f0.f0 + (bestTo (hg (⟨l0_0, l0_1, l0_2, a0_3, a0_4⟩ : Gm) i).moves j).f0.f1)))) (by rfl) (by kernel_rfl) ?_
    refine sx_nil ?_
    refine ex_then_n ?_
    refine sx_cond (decide (((rd_plLay ((hg (⟨l0_0, l0_1, l0_2, a0_3, a0_4⟩ : Gm) i).moves) (j : Int)).f0.f0 + (rd_plLay ((hg (⟨l0_0, l0_1, l0_2, a0_3, a0_4⟩ : Gm) i).moves) (j : Int)).f0.f1) > ((bestTo (hg (⟨l0_0, l0_1, l0_2, a0_3, a0_4⟩ : Gm) i).moves j).f0.f0 + (bestTo (hg (⟨l0_0, l0_1, l0_2, a0_3, a0_4⟩ : Gm) i).moves j).f0.f1))) (by rfl) (fun c_23 => ?_) (fun c_23 => ?_)
    ·
     have c_23p := of_decide_eq_true c_23
     refine sx_region ?_
     refine sx_rd 41 (.agg #[.int .i64 ((rd_plLay ((hg (⟨l0_0, l0_1, l0_2, a0_3, a0_4⟩ : Gm) i).moves) (j : Int)).f0.f0), .int .i64 ((rd_plLay ((hg (⟨l0_0, l0_1, l0_2, a0_3, a0_4⟩ : Gm) i).moves) (j : Int)).f0.f1), .bool ((rd_plLay ((hg (⟨l0_0, l0_1, l0_2, a0_3, a0_4⟩ : Gm) i).moves) (j : Int)).f1), .bool ((rd_plLay ((hg (⟨l0_0, l0_1, l0_2, a0_3, a0_4⟩ : Gm) i).moves) (j : Int)).f2)]) (by rfl) (ldn (t := 61) (p := (.tmp 8)) (by rfl) (by rfl) (by kernel_rfl) (by kernel_rfl) (by kernel_rfl) (hp.at_ 0 _ (by rfl))) ?_
     refine sx_store (t := 61) (p := (.tmp 6)) (x := (.tmp 41)) (by rfl) (by rfl) 1 (by rfl) 0 [.int .i64 ((rd_plLay ((hg (⟨l0_0, l0_1, l0_2, a0_3, a0_4⟩ : Gm) i).moves) (j : Int)).f0.f0), .int .i64 ((rd_plLay ((hg (⟨l0_0, l0_1, l0_2, a0_3, a0_4⟩ : Gm) i).moves) (j : Int)).f0.f1), .bool ((rd_plLay ((hg (⟨l0_0, l0_1, l0_2, a0_3, a0_4⟩ : Gm) i).moves) (j : Int)).f1), .bool ((rd_plLay ((hg (⟨l0_0, l0_1, l0_2, a0_3, a0_4⟩ : Gm) i).moves) (j : Int)).f2)] (by rfl) (by rfl) (by kernel_rfl) (by simp [Value.oneCell']) (by show 4 ≤ 4; omega) #[.int .i64 ((rd_plLay ((hg (⟨l0_0, l0_1, l0_2, a0_3, a0_4⟩ : Gm) i).moves) (j : Int)).f0.f0), .int .i64 ((rd_plLay ((hg (⟨l0_0, l0_1, l0_2, a0_3, a0_4⟩ : Gm) i).moves) (j : Int)).f0.f1), .bool ((rd_plLay ((hg (⟨l0_0, l0_1, l0_2, a0_3, a0_4⟩ : Gm) i).moves) (j : Int)).f1), .bool ((rd_plLay ((hg (⟨l0_0, l0_1, l0_2, a0_3, a0_4⟩ : Gm) i).moves) (j : Int)).f2)] (by rfl) hp ?_
     intro W_24 hp; simp only [List.set_cons_succ, List.set_cons_zero] at hp
     refine sx_nil ?_
     refine ex_blk_n ?_
     refine ex_then_n ?_
     refine sx_region ?_
     refine sx_rd 42 (.int .i64 ((j : Int) + 1)) (by rfl) (wr_ok (by omega) (by kernel_rfl)) ?_
     refine sx_rd 22 (.int .i64 ((j : Int) + 1)) (by rfl) (by kernel_rfl) ?_
     refine sx_nil ?_
     refine ex_then_n ?_
     have hq_25 : (rd_plLay ((hg (⟨l0_0, l0_1, l0_2, a0_3, a0_4⟩ : Gm) i).moves) (j : Int)).f0.f0 = (bestTo (hg (⟨l0_0, l0_1, l0_2, a0_3, a0_4⟩ : Gm) i).moves (j + 1)).f0.f0 := by simp only [bestTo]; rw [if_pos (by unfold wtM; omega)]
     rw [hq_25] at hp
     have hq_26 : (rd_plLay ((hg (⟨l0_0, l0_1, l0_2, a0_3, a0_4⟩ : Gm) i).moves) (j : Int)).f0.f1 = (bestTo (hg (⟨l0_0, l0_1, l0_2, a0_3, a0_4⟩ : Gm) i).moves (j + 1)).f0.f1 := by simp only [bestTo]; rw [if_pos (by unfold wtM; omega)]
     rw [hq_26] at hp
     have hq_27 : (rd_plLay ((hg (⟨l0_0, l0_1, l0_2, a0_3, a0_4⟩ : Gm) i).moves) (j : Int)).f1 = (bestTo (hg (⟨l0_0, l0_1, l0_2, a0_3, a0_4⟩ : Gm) i).moves (j + 1)).f1 := by simp only [bestTo]; rw [if_pos (by unfold wtM; omega)]
     rw [hq_27] at hp
     have hq_28 : (rd_plLay ((hg (⟨l0_0, l0_1, l0_2, a0_3, a0_4⟩ : Gm) i).moves) (j : Int)).f2 = (bestTo (hg (⟨l0_0, l0_1, l0_2, a0_3, a0_4⟩ : Gm) i).moves (j + 1)).f2 := by simp only [bestTo]; rw [if_pos (by unfold wtM; omega)]
     rw [hq_28] at hp
     exact ⟨_, (by omega), _, (j + 1), rfl, fr_front [(1, .pointer (some ⟨g_1, 0, none⟩)), (4, .slice Ao ((outH (⟨l0_0, l0_1, l0_2, a0_3, a0_4⟩ : Gm) i).length) co), (6, .pointer (some ⟨g_15, 0, none⟩)), (20, .slice A_11 (((hg (⟨l0_0, l0_1, l0_2, a0_3, a0_4⟩ : Gm) i).moves).length) c_12), (21, .int .i64 (((hg (⟨l0_0, l0_1, l0_2, a0_3, a0_4⟩ : Gm) i).moves).length : Int)), (22, .int .i64 ((j + 1 : Nat) : Int))] ⟨rfl, rfl, rfl, rfl, rfl, rfl, trivial⟩, (hp.take [1, 2, 3, 4] 5 (by decide) (by simp)), (by omega)⟩
    ·
     have c_23p := of_decide_eq_false c_23
     refine wp_skip ?_
     refine ex_blk_n ?_
     refine ex_then_n ?_
     refine sx_region ?_
     refine sx_rd 42 (.int .i64 ((j : Int) + 1)) (by rfl) (wr_ok (by omega) (by kernel_rfl)) ?_
     refine sx_rd 22 (.int .i64 ((j : Int) + 1)) (by rfl) (by kernel_rfl) ?_
     refine sx_nil ?_
     refine ex_then_n ?_
     have hq_29 : (bestTo (hg (⟨l0_0, l0_1, l0_2, a0_3, a0_4⟩ : Gm) i).moves j).f0.f0 = (bestTo (hg (⟨l0_0, l0_1, l0_2, a0_3, a0_4⟩ : Gm) i).moves (j + 1)).f0.f0 := by simp only [bestTo]; rw [if_neg (by unfold wtM; omega)]
     rw [hq_29] at hp
     have hq_30 : (bestTo (hg (⟨l0_0, l0_1, l0_2, a0_3, a0_4⟩ : Gm) i).moves j).f0.f1 = (bestTo (hg (⟨l0_0, l0_1, l0_2, a0_3, a0_4⟩ : Gm) i).moves (j + 1)).f0.f1 := by simp only [bestTo]; rw [if_neg (by unfold wtM; omega)]
     rw [hq_30] at hp
     have hq_31 : (bestTo (hg (⟨l0_0, l0_1, l0_2, a0_3, a0_4⟩ : Gm) i).moves j).f1 = (bestTo (hg (⟨l0_0, l0_1, l0_2, a0_3, a0_4⟩ : Gm) i).moves (j + 1)).f1 := by simp only [bestTo]; rw [if_neg (by unfold wtM; omega)]
     rw [hq_31] at hp
     have hq_32 : (bestTo (hg (⟨l0_0, l0_1, l0_2, a0_3, a0_4⟩ : Gm) i).moves j).f2 = (bestTo (hg (⟨l0_0, l0_1, l0_2, a0_3, a0_4⟩ : Gm) i).moves (j + 1)).f2 := by simp only [bestTo]; rw [if_neg (by unfold wtM; omega)]
     rw [hq_32] at hp
     exact ⟨_, (by omega), _, (j + 1), rfl, fr_front [(1, .pointer (some ⟨g_1, 0, none⟩)), (4, .slice Ao ((outH (⟨l0_0, l0_1, l0_2, a0_3, a0_4⟩ : Gm) i).length) co), (6, .pointer (some ⟨g_15, 0, none⟩)), (20, .slice A_11 (((hg (⟨l0_0, l0_1, l0_2, a0_3, a0_4⟩ : Gm) i).moves).length) c_12), (21, .int .i64 (((hg (⟨l0_0, l0_1, l0_2, a0_3, a0_4⟩ : Gm) i).moves).length : Int)), (22, .int .i64 ((j + 1 : Nat) : Int))] ⟨rfl, rfl, rfl, rfl, rfl, rfl, trivial⟩, (hp.take [1, 2, 3, 4] 5 (by decide) (by simp)), (by omega)⟩
   ·
    have c_19p := of_decide_eq_false c_19
    obtain rfl : j = (hg (⟨l0_0, l0_1, l0_2, a0_3, a0_4⟩ : Gm) i).moves.length := by omega
    refine wp_exit ?_
    refine ex_then_e (ex_then_e (ex_blk_here ?_))
    refine ex_then_n ?_
    refine wp_seq ?_
    refine sx_region ?_
    refine sx_rd 43 (.slice Ao ((outH (⟨l0_0, l0_1, l0_2, a0_3, a0_4⟩ : Gm) i).length) co) (by rfl) (by kernel_rfl) ?_
    refine sx_rd 44 (.agg #[.int .i64 ((bestTo (hg (⟨l0_0, l0_1, l0_2, a0_3, a0_4⟩ : Gm) i).moves (hg (⟨l0_0, l0_1, l0_2, a0_3, a0_4⟩ : Gm) i).moves.length).f0.f0), .int .i64 ((bestTo (hg (⟨l0_0, l0_1, l0_2, a0_3, a0_4⟩ : Gm) i).moves (hg (⟨l0_0, l0_1, l0_2, a0_3, a0_4⟩ : Gm) i).moves.length).f0.f1), .bool ((bestTo (hg (⟨l0_0, l0_1, l0_2, a0_3, a0_4⟩ : Gm) i).moves (hg (⟨l0_0, l0_1, l0_2, a0_3, a0_4⟩ : Gm) i).moves.length).f1), .bool ((bestTo (hg (⟨l0_0, l0_1, l0_2, a0_3, a0_4⟩ : Gm) i).moves (hg (⟨l0_0, l0_1, l0_2, a0_3, a0_4⟩ : Gm) i).moves.length).f2)]) (by rfl) (ldn (t := 61) (p := (.tmp 6)) (by rfl) (by rfl) (by kernel_rfl) (by kernel_rfl) (by kernel_rfl) (hp.at_ 0 _ (by rfl))) ?_
    refine sx_call 45 (by rfl) (by kernel_rfl) ((spec_plText.calls ((bestTo (hg (⟨l0_0, l0_1, l0_2, a0_3, a0_4⟩ : Gm) i).moves (hg (⟨l0_0, l0_1, l0_2, a0_3, a0_4⟩ : Gm) i).moves.length).f0.f0) ((bestTo (hg (⟨l0_0, l0_1, l0_2, a0_3, a0_4⟩ : Gm) i).moves (hg (⟨l0_0, l0_1, l0_2, a0_3, a0_4⟩ : Gm) i).moves.length).f0.f1) ((bestTo (hg (⟨l0_0, l0_1, l0_2, a0_3, a0_4⟩ : Gm) i).moves (hg (⟨l0_0, l0_1, l0_2, a0_3, a0_4⟩ : Gm) i).moves.length).f1) ((bestTo (hg (⟨l0_0, l0_1, l0_2, a0_3, a0_4⟩ : Gm) i).moves (hg (⟨l0_0, l0_1, l0_2, a0_3, a0_4⟩ : Gm) i).moves.length).f2) _ _ (plText_eq (bestM (hg (⟨l0_0, l0_1, l0_2, a0_3, a0_4⟩ : Gm) i).moves) (movesL_good _ _ _ _ _ _ (best_mem hov)))).mono ?_)
    rintro _ W_33 ⟨rfl, hb⟩
    refine ⟨_, rfl, ?_⟩
    replace hp := hp.below hb
    clear hb
    refine sx_lit 46 (by rfl) Kd.string w.heap.size 9 ([(txt (bestM (hg (⟨l0_0, l0_1, l0_2, a0_3, a0_4⟩ : Gm) i).moves))]) [.string (txt (bestM (hg (⟨l0_0, l0_1, l0_2, a0_3, a0_4⟩ : Gm) i).moves))] (fun W => by kernel_rfl) (Reps.snoc (cs := []) (Reps.none _ _) rfl rfl) (by simp) hp.size hp ?_
    intro g_34 F_35 W_36 hp hz; clear hz
    refine sx_append 47 (by rfl) Kd.string 3 (by rfl) (.string ByteArray.empty) 16 (by rfl) Tryz.underlying36 (by kernel_rfl) rfl (by decide) (by decide) ([(txt (bestM (hg (⟨l0_0, l0_1, l0_2, a0_3, a0_4⟩ : Gm) i).moves))]) (by rfl) (by rfl) (row_C (hp.at_ 0 _ (by rfl))) (fun x cs h => h) hp.size (by first | omega | (simp; omega)) hp ?_
    intro A_37 c_38 F_39 W_40 hp hz; clear hz; simp only [List.set_cons_succ, List.set_cons_zero] at hp
    refine sx_rd 4 (.slice A_37 (((outH (⟨l0_0, l0_1, l0_2, a0_3, a0_4⟩ : Gm) i) ++ [(txt (bestM (hg (⟨l0_0, l0_1, l0_2, a0_3, a0_4⟩ : Gm) i).moves))]).length) c_38) (by rfl) (by kernel_rfl) ?_
    refine sx_nil ?_
    refine ex_then_n ?_
    refine sx_region ?_
    refine sx_rd 48 (.agg #[.slice Af_ ((hg (⟨l0_0, l0_1, l0_2, a0_3, a0_4⟩ : Gm) i).f.length) cf_, .slice As_ ((hg (⟨l0_0, l0_1, l0_2, a0_3, a0_4⟩ : Gm) i).s.length) cs_, .slice Ar_ ((hg (⟨l0_0, l0_1, l0_2, a0_3, a0_4⟩ : Gm) i).r.length) cr_, .int .i64 ((hg (⟨l0_0, l0_1, l0_2, a0_3, a0_4⟩ : Gm) i).t), .int .i64 ((hg (⟨l0_0, l0_1, l0_2, a0_3, a0_4⟩ : Gm) i).p)]) (by rfl) (ldn (t := 29) (p := (.tmp 1)) (by rfl) (by rfl) (by kernel_rfl) (by kernel_rfl) (by kernel_rfl) (hp.at_ 4 _ (by rfl))) ?_
    refine sx_rd 49 (.agg #[.int .i64 ((bestTo (hg (⟨l0_0, l0_1, l0_2, a0_3, a0_4⟩ : Gm) i).moves (hg (⟨l0_0, l0_1, l0_2, a0_3, a0_4⟩ : Gm) i).moves.length).f0.f0), .int .i64 ((bestTo (hg (⟨l0_0, l0_1, l0_2, a0_3, a0_4⟩ : Gm) i).moves (hg (⟨l0_0, l0_1, l0_2, a0_3, a0_4⟩ : Gm) i).moves.length).f0.f1), .bool ((bestTo (hg (⟨l0_0, l0_1, l0_2, a0_3, a0_4⟩ : Gm) i).moves (hg (⟨l0_0, l0_1, l0_2, a0_3, a0_4⟩ : Gm) i).moves.length).f1), .bool ((bestTo (hg (⟨l0_0, l0_1, l0_2, a0_3, a0_4⟩ : Gm) i).moves (hg (⟨l0_0, l0_1, l0_2, a0_3, a0_4⟩ : Gm) i).moves.length).f2)]) (by rfl) (ldn (t := 61) (p := (.tmp 6)) (by rfl) (by rfl) (by kernel_rfl) (by kernel_rfl) (by kernel_rfl) (hp.at_ 1 _ (by rfl))) ?_
    refine sx_call 50 (by rfl) (by kernel_rfl) ((spec_plMake.calls Af_ cf_ ((hg (⟨l0_0, l0_1, l0_2, a0_3, a0_4⟩ : Gm) i).f) As_ cs_ ((hg (⟨l0_0, l0_1, l0_2, a0_3, a0_4⟩ : Gm) i).s) Ar_ cr_ ((hg (⟨l0_0, l0_1, l0_2, a0_3, a0_4⟩ : Gm) i).r) ((hg (⟨l0_0, l0_1, l0_2, a0_3, a0_4⟩ : Gm) i).t) ((hg (⟨l0_0, l0_1, l0_2, a0_3, a0_4⟩ : Gm) i).p) ((bestTo (hg (⟨l0_0, l0_1, l0_2, a0_3, a0_4⟩ : Gm) i).moves (hg (⟨l0_0, l0_1, l0_2, a0_3, a0_4⟩ : Gm) i).moves.length).f0.f0) ((bestTo (hg (⟨l0_0, l0_1, l0_2, a0_3, a0_4⟩ : Gm) i).moves (hg (⟨l0_0, l0_1, l0_2, a0_3, a0_4⟩ : Gm) i).moves.length).f0.f1) ((bestTo (hg (⟨l0_0, l0_1, l0_2, a0_3, a0_4⟩ : Gm) i).moves (hg (⟨l0_0, l0_1, l0_2, a0_3, a0_4⟩ : Gm) i).moves.length).f1) ((bestTo (hg (⟨l0_0, l0_1, l0_2, a0_3, a0_4⟩ : Gm) i).moves (hg (⟨l0_0, l0_1, l0_2, a0_3, a0_4⟩ : Gm) i).moves.length).f2) _ _ _ _ _ _ (hCf_ _ hp.tail.tail.tail.tail.tail) hcf_ (hCs_ _ hp.tail.tail.tail.tail.tail) hcs_ (hCr_ _ hp.tail.tail.tail.tail.tail) hcr_ (plMake_best hoi hri hov)).mono ?_)
    rintro _ W_56 ⟨v_44, v_45, v_46, rfl, hR_41, hR_42, hR_43, hb⟩
    refine ⟨_, rfl, ?_⟩
    obtain ⟨A_47, c_48, rfl, hcc_c_48, _⟩ := Kd.R_reads hR_41
    obtain ⟨A_50, c_51, rfl, hcc_c_51, _⟩ := Kd.R_reads hR_42
    obtain ⟨A_53, c_54, rfl, hcc_c_54, _⟩ := Kd.R_reads hR_43
    obtain ⟨F_49, F_52, F_55, hp⟩ : ∃ F_49 F_52 F_55, Hp w (row k59 59 w.heap.size (.slice A_47 (((hg (⟨l0_0, l0_1, l0_2, a0_3, a0_4⟩ : Gm) i).make (bestM (hg (⟨l0_0, l0_1, l0_2, a0_3, a0_4⟩ : Gm) i).moves)).f).length c_48) (((hg (⟨l0_0, l0_1, l0_2, a0_3, a0_4⟩ : Gm) i).make (bestM (hg (⟨l0_0, l0_1, l0_2, a0_3, a0_4⟩ : Gm) i).moves)).f) F_49 :: row k59 59 w.heap.size (.slice A_50 (((hg (⟨l0_0, l0_1, l0_2, a0_3, a0_4⟩ : Gm) i).make (bestM (hg (⟨l0_0, l0_1, l0_2, a0_3, a0_4⟩ : Gm) i).moves)).s).length c_51) (((hg (⟨l0_0, l0_1, l0_2, a0_3, a0_4⟩ : Gm) i).make (bestM (hg (⟨l0_0, l0_1, l0_2, a0_3, a0_4⟩ : Gm) i).moves)).s) F_52 :: row (Kd.int .i64) 3 w.heap.size (.slice A_53 (((hg (⟨l0_0, l0_1, l0_2, a0_3, a0_4⟩ : Gm) i).make (bestM (hg (⟨l0_0, l0_1, l0_2, a0_3, a0_4⟩ : Gm) i).moves)).r).length c_54) (((hg (⟨l0_0, l0_1, l0_2, a0_3, a0_4⟩ : Gm) i).make (bestM (hg (⟨l0_0, l0_1, l0_2, a0_3, a0_4⟩ : Gm) i).moves)).r) F_55 :: row Kd.string 9 w.heap.size (.slice (some ⟨g_34, 0, none⟩) ([(txt (bestM (hg (⟨l0_0, l0_1, l0_2, a0_3, a0_4⟩ : Gm) i).moves))].length) ([(txt (bestM (hg (⟨l0_0, l0_1, l0_2, a0_3, a0_4⟩ : Gm) i).moves))].length)) ([(txt (bestM (hg (⟨l0_0, l0_1, l0_2, a0_3, a0_4⟩ : Gm) i).moves))]) F_35 :: blk g_15 #[.int .i64 ((bestTo (hg (⟨l0_0, l0_1, l0_2, a0_3, a0_4⟩ : Gm) i).moves (hg (⟨l0_0, l0_1, l0_2, a0_3, a0_4⟩ : Gm) i).moves.length).f0.f0), .int .i64 ((bestTo (hg (⟨l0_0, l0_1, l0_2, a0_3, a0_4⟩ : Gm) i).moves (hg (⟨l0_0, l0_1, l0_2, a0_3, a0_4⟩ : Gm) i).moves.length).f0.f1), .bool ((bestTo (hg (⟨l0_0, l0_1, l0_2, a0_3, a0_4⟩ : Gm) i).moves (hg (⟨l0_0, l0_1, l0_2, a0_3, a0_4⟩ : Gm) i).moves.length).f1), .bool ((bestTo (hg (⟨l0_0, l0_1, l0_2, a0_3, a0_4⟩ : Gm) i).moves (hg (⟨l0_0, l0_1, l0_2, a0_3, a0_4⟩ : Gm) i).moves.length).f2)] 61 :: row k61 61 w.heap.size (.slice A_11 (((hg (⟨l0_0, l0_1, l0_2, a0_3, a0_4⟩ : Gm) i).moves).length) c_12) ((hg (⟨l0_0, l0_1, l0_2, a0_3, a0_4⟩ : Gm) i).moves) F_13 :: row Kd.string 9 w.heap.size (.slice A_37 (((outH (⟨l0_0, l0_1, l0_2, a0_3, a0_4⟩ : Gm) i) ++ [(txt (bestM (hg (⟨l0_0, l0_1, l0_2, a0_3, a0_4⟩ : Gm) i).moves))]).length) c_38) ((outH (⟨l0_0, l0_1, l0_2, a0_3, a0_4⟩ : Gm) i) ++ [(txt (bestM (hg (⟨l0_0, l0_1, l0_2, a0_3, a0_4⟩ : Gm) i).moves))]) F_39 :: blk g_1 #[.slice Af_ ((hg (⟨l0_0, l0_1, l0_2, a0_3, a0_4⟩ : Gm) i).f.length) cf_, .slice As_ ((hg (⟨l0_0, l0_1, l0_2, a0_3, a0_4⟩ : Gm) i).s.length) cs_, .slice Ar_ ((hg (⟨l0_0, l0_1, l0_2, a0_3, a0_4⟩ : Gm) i).r.length) cr_, .int .i64 ((hg (⟨l0_0, l0_1, l0_2, a0_3, a0_4⟩ : Gm) i).t), .int .i64 ((hg (⟨l0_0, l0_1, l0_2, a0_3, a0_4⟩ : Gm) i).p)] 29 :: ds) _ := ⟨_, _, _, Hp.made3 hp hb rfl rfl rfl hR_41 hR_42 hR_43 (ok_apart hR_41 (fun k hk => hk)) (typed_apart hR_41 hR_43 (by decide)) (typed_apart hR_42 hR_43 (by decide))⟩
    refine sx_store (t := 29) (p := (.tmp 1)) (x := (.tmp 50)) (by rfl) (by rfl) 7 (by rfl) 0 [.slice A_47 ((((hg (⟨l0_0, l0_1, l0_2, a0_3, a0_4⟩ : Gm) i).make (bestM (hg (⟨l0_0, l0_1, l0_2, a0_3, a0_4⟩ : Gm) i).moves)).f).length) c_48, .slice A_50 ((((hg (⟨l0_0, l0_1, l0_2, a0_3, a0_4⟩ : Gm) i).make (bestM (hg (⟨l0_0, l0_1, l0_2, a0_3, a0_4⟩ : Gm) i).moves)).s).length) c_51, .slice A_53 ((((hg (⟨l0_0, l0_1, l0_2, a0_3, a0_4⟩ : Gm) i).make (bestM (hg (⟨l0_0, l0_1, l0_2, a0_3, a0_4⟩ : Gm) i).moves)).r).length) c_54, .int .i64 (((hg (⟨l0_0, l0_1, l0_2, a0_3, a0_4⟩ : Gm) i).make (bestM (hg (⟨l0_0, l0_1, l0_2, a0_3, a0_4⟩ : Gm) i).moves)).t), .int .i64 (((hg (⟨l0_0, l0_1, l0_2, a0_3, a0_4⟩ : Gm) i).make (bestM (hg (⟨l0_0, l0_1, l0_2, a0_3, a0_4⟩ : Gm) i).moves)).p)] (by rfl) (by rfl) (by kernel_rfl) (by simp [Value.oneCell']) (by show 5 ≤ 5; omega) #[.slice A_47 ((((hg (⟨l0_0, l0_1, l0_2, a0_3, a0_4⟩ : Gm) i).make (bestM (hg (⟨l0_0, l0_1, l0_2, a0_3, a0_4⟩ : Gm) i).moves)).f).length) c_48, .slice A_50 ((((hg (⟨l0_0, l0_1, l0_2, a0_3, a0_4⟩ : Gm) i).make (bestM (hg (⟨l0_0, l0_1, l0_2, a0_3, a0_4⟩ : Gm) i).moves)).s).length) c_51, .slice A_53 ((((hg (⟨l0_0, l0_1, l0_2, a0_3, a0_4⟩ : Gm) i).make (bestM (hg (⟨l0_0, l0_1, l0_2, a0_3, a0_4⟩ : Gm) i).moves)).r).length) c_54, .int .i64 (((hg (⟨l0_0, l0_1, l0_2, a0_3, a0_4⟩ : Gm) i).make (bestM (hg (⟨l0_0, l0_1, l0_2, a0_3, a0_4⟩ : Gm) i).moves)).t), .int .i64 (((hg (⟨l0_0, l0_1, l0_2, a0_3, a0_4⟩ : Gm) i).make (bestM (hg (⟨l0_0, l0_1, l0_2, a0_3, a0_4⟩ : Gm) i).moves)).p)] (by rfl) hp ?_
    intro W_57 hp; simp only [List.set_cons_succ, List.set_cons_zero] at hp
    refine sx_nil ?_
    refine ex_blk_n ?_
    refine ex_then_n ?_
    exact ⟨_, (by have := hza.2 hov; omega), _, (i + 1), (row k59 59 w.heap.size (.slice A_47 ((((hg (⟨l0_0, l0_1, l0_2, a0_3, a0_4⟩ : Gm) i).make (bestM (hg (⟨l0_0, l0_1, l0_2, a0_3, a0_4⟩ : Gm) i).moves)).f).length) c_48) (((hg (⟨l0_0, l0_1, l0_2, a0_3, a0_4⟩ : Gm) i).make (bestM (hg (⟨l0_0, l0_1, l0_2, a0_3, a0_4⟩ : Gm) i).moves)).f) F_49 :: row k59 59 w.heap.size (.slice A_50 ((((hg (⟨l0_0, l0_1, l0_2, a0_3, a0_4⟩ : Gm) i).make (bestM (hg (⟨l0_0, l0_1, l0_2, a0_3, a0_4⟩ : Gm) i).moves)).s).length) c_51) (((hg (⟨l0_0, l0_1, l0_2, a0_3, a0_4⟩ : Gm) i).make (bestM (hg (⟨l0_0, l0_1, l0_2, a0_3, a0_4⟩ : Gm) i).moves)).s) F_52 :: row (Kd.int .i64) 3 w.heap.size (.slice A_53 ((((hg (⟨l0_0, l0_1, l0_2, a0_3, a0_4⟩ : Gm) i).make (bestM (hg (⟨l0_0, l0_1, l0_2, a0_3, a0_4⟩ : Gm) i).moves)).r).length) c_54) (((hg (⟨l0_0, l0_1, l0_2, a0_3, a0_4⟩ : Gm) i).make (bestM (hg (⟨l0_0, l0_1, l0_2, a0_3, a0_4⟩ : Gm) i).moves)).r) F_55 :: ds), A_47, c_48, A_50, c_51, A_53, c_54, _, _, _, _, rfl, fr_front [(1, .pointer (some ⟨g_1, 0, none⟩)), (4, .slice A_37 ((outH (⟨l0_0, l0_1, l0_2, a0_3, a0_4⟩ : Gm) (i + 1)).length) c_38)] ⟨rfl, rfl, trivial⟩, (hp.take [6, 7, 0, 1, 2] 8 (by decide) (by simp)), (by have := hza.2 hov; omega), (fun W h => row_C (h.at_ 0 _ (by rfl))), (row_len (((hp.take [0, 1, 2] 8 (by decide) (by simp))).at_ 0 _ (by rfl))).2, (fun W h => row_C (h.at_ 1 _ (by rfl))), (row_len (((hp.take [0, 1, 2] 8 (by decide) (by simp))).at_ 1 _ (by rfl))).2, (fun W h => row_C (h.at_ 2 _ (by rfl))), (row_len (((hp.take [0, 1, 2] 8 (by decide) (by simp))).at_ 2 _ (by rfl))).2, (fun W h => hcd W h.tail.tail.tail)⟩
  ·
   have hov : (hg (⟨l0_0, l0_1, l0_2, a0_3, a0_4⟩ : Gm) i).over = true := by show (overB (hg (⟨l0_0, l0_1, l0_2, a0_3, a0_4⟩ : Gm) i).f (hg (⟨l0_0, l0_1, l0_2, a0_3, a0_4⟩ : Gm) i).s (hg (⟨l0_0, l0_1, l0_2, a0_3, a0_4⟩ : Gm) i).p) = _; have q := c_8; simpa using q
   refine wp_exit ?_
   refine ex_then_e (ex_then_e (ex_blk_here ?_))
   refine ex_then_n ?_
   refine wp_seq ?_
   refine sx_region ?_
   refine sx_rd 51 (.slice Ao ((outH (⟨l0_0, l0_1, l0_2, a0_3, a0_4⟩ : Gm) i).length) co) (by rfl) (by kernel_rfl) ?_
   refine sx_rd 2 (.slice Ao ((outH (⟨l0_0, l0_1, l0_2, a0_3, a0_4⟩ : Gm) i).length) co) (by rfl) (by kernel_rfl) ?_
   refine sx_rd 3 (.bool true) (by rfl) (by kernel_rfl) ?_
   refine sx_nil ?_
   refine ex_then_n ?_
   refine wp_ret ?_
   refine sx_end (.tuple #[.slice Ao ((outH (⟨l0_0, l0_1, l0_2, a0_3, a0_4⟩ : Gm) i).length) co, .bool true]) (res2 2 3 (by rfl)) ?_
   obtain rfl := hza.1 hov
   rw [if_pos hgB] at h; simp only [Option.some.injEq, Prod.mk.injEq] at h; obtain ⟨rfl, rfl⟩ := h
   exact ⟨_, rfl, Kd.R_mono (row_R (hp.at_ 0 _ (by rfl))) (fun _ _ => trivial), hcd _ (hp.tail.tail)⟩
end Go.Proofs.YtkjaahmlnbgnjaaGreat.Hd
