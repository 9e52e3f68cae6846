/- impl.line with the choice of HeavyLine, by hand. -/
import Derived.Test.YtkjaahmlnbgnjaaGreatMHeavyM
namespace Go.Proofs.YtkjaahmlnbgnjaaGreat.Hd
open Go.RowKit Go.Proofs.YtkjaahmlnbgnjaaGreat.Pure Go.Proofs.YtkjaahmlnbgnjaaGreatW.PrintWords Go.Proofs.YtkjaahmlnbgnjaaGreatW.PrintLast Go.Proofs.YtkjaahmlnbgnjaaGreatW.PrintMore
set_option linter.unusedVariables false
set_option linter.unusedSimpArgs false
theorem gmG {g : Gm} (ho : GmOk g) (hr : g.r.length ≤ 2000000) : gmB g.f g.s g.r g.t g.p := ⟨⟨ho.f, ho.s⟩, hr, ho.t, ho.p⟩
theorem choose_eq {g : Gm} (hg : gmB g.f g.s g.r g.t g.p) (ho : g.over = false) : impl_HeavyLine_1.f g.f g.s g.r g.t g.p = some (txt (bestM g.moves)) := by
  unfold impl_HeavyLine_1.f
  rw [if_pos ⟨hg, ho⟩]
theorem findM_best {L : List S_plLay} {x : S_plLay} (h : x ∈ L) : ∃ y, findM L (txt x) = some y ∧ txt y = txt x := by
  obtain ⟨y, hy⟩ := (findM_mem L (txt x)).1 (List.mem_map.2 ⟨x, h, rfl⟩)
  exact ⟨y, hy, (findM_some hy).2⟩
theorem txt_make {g : Gm} {x y : S_plLay} (hx : x ∈ g.moves) (hy : y ∈ g.moves) (h : txt y = txt x) : g.make y = g.make x := by
  have h1 := txt_pass_iff x
  rw [← h, txt_pass_iff y] at h1
  cases hp : x.f2 with
  | true => unfold Gm.make; rw [h1, hp, if_pos rfl, if_pos rfl]
  | false =>
    rw [hp] at h1
    rcases wok hx with q | q
    · rw [q.1] at hp; cases hp
    · rcases wok hy with q2 | q2
      · rw [q2.1] at h1; cases h1
      · have m1 := moved_eq q.1 q.2
        have m2 := moved_eq q2.1 q2.2
        rw [h] at m2
        have e := m1.1.symm.trans m2.1
        simp only [Option.some.injEq, Prod.mk.injEq] at e
        have e2 := m1.2.symm.trans m2.2
        have e3 : x.f1 = y.f1 := by
          cases hx1 : x.f1 <;> cases hy1 : y.f1 <;> simp [hx1, hy1] at e2 ⊢
        have e4 : y = x := by
          obtain ⟨⟨a, b⟩, c, d⟩ := x
          obtain ⟨⟨a2, b2⟩, c2, d2⟩ := y
          dsimp only at e e3 hp h1
          rw [e.1, e.2, e3, hp, h1]
        rw [e4]
theorem behind_best {g : Gm} (ho : GmOk g) (hr : g.r.length ≤ 2000000) (hov : g.over = false) : impl_Game_behind.f g.f g.s g.r g.t g.p (txt (bestM g.moves)) = some ((g.make (bestM g.moves)).f, (g.make (bestM g.moves)).s, (g.make (bestM g.moves)).r, (g.make (bestM g.moves)).t, (g.make (bestM g.moves)).p) := by
  obtain ⟨y, hy, ht⟩ := findM_best (best_mem hov)
  rw [behind_eq (gmG ho hr) hy, txt_make (best_mem hov) (findM_some hy).1 ht]
def impl_line.f (f s : List S_Tile) (r : List Int) (t p : Int) : Option (List ByteArray) := if gameB f s r t p = true ∧ r.length ≤ 1048576 then some (outH ⟨f, s, r, t, p⟩ (nH ⟨f, s, r, t, p⟩)) else none
set_option maxRecDepth 100000 in
set_option maxHeartbeats 40000000 in
theorem impl_line.calls (A0_0 : Option Addr) (c0_0 : Nat) (l0_0 : List S_Tile) (A0_1 : Option Addr) (c0_1 : Nat) (l0_1 : List S_Tile) (A0_2 : Option Addr) (c0_2 : Nat) (l0_2 : List Int) (a0_3 : Int) (a0_4 : Int) (r : List ByteArray) (w : World) (hr0_0 : Kd.C k59 w A0_0 l0_0.length l0_0) (hc0_0 : l0_0.length ≤ c0_0) (hr0_1 : Kd.C k59 w A0_1 l0_1.length l0_1) (hc0_1 : l0_1.length ≤ c0_1) (hr0_2 : Kd.C (Kd.int .i64) w A0_2 l0_2.length l0_2) (hc0_2 : l0_2.length ≤ c0_2) (h : impl_line.f l0_0 l0_1 l0_2 a0_3 a0_4 = some r) :
    Calls Tryz.prog 42 #[.agg #[.slice A0_0 l0_0.length c0_0, .slice A0_1 l0_1.length c0_1, .slice A0_2 l0_2.length c0_2, .int .i64 a0_3, .int .i64 a0_4], .func (.func 43) #[] #[]] w fun e w' => ∃ v0_ : Value, e = .returned (v0_) ∧ Kd.R Kd.string 9 w' w.heap.size (fun _ => True) v0_ r ∧ Below w.heap.size w w' := by
  unfold impl_line.f at h
  by_cases hsz : gameB l0_0 l0_1 l0_2 a0_3 a0_4 = true ∧ l0_2.length ≤ 1048576
  case neg => rw [if_neg hsz] at h; cases h
  rw [if_pos hsz] at h
  obtain ⟨hgB, hz2⟩ := hsz
  have hok0 := GmOk.of hgB
  obtain ⟨cs, hcs⟩ : ∃ cs, cs = [old w w.heap.size] := ⟨_, rfl⟩
  have hp : Hp w cs w := by rw [hcs]; exact Hp.old_start w
  have hc2 : ∀ W, Hp w cs W → Below w.heap.size w W := fun W h => by rw [hcs] at h; exact h.since 0 _ rfl
  have hC0_0 : ∀ W, Hp w cs W → Kd.C k59 W A0_0 l0_0.length l0_0 := fun W h => Kd.C_below hr0_0 (hc2 W h)
  have hC0_1 : ∀ W, Hp w cs W → Kd.C k59 W A0_1 l0_1.length l0_1 := fun W h => Kd.C_below hr0_1 (hc2 W h)
  have hC0_2 : ∀ W, Hp w cs W → Kd.C (Kd.int .i64) W A0_2 l0_2.length l0_2 := fun W h => Kd.C_below hr0_2 (hc2 W h)
  clear hcs
  refine sx_enter (N := 22) (l := [.agg #[.slice A0_0 l0_0.length c0_0, .slice A0_1 l0_1.length c0_1, .slice A0_2 l0_2.length c0_2, .int .i64 a0_3, .int .i64 a0_4], .func (.func 43) #[] #[]]) Tryz.func42 rfl rfl rfl ?_
  refine wp_seq ?_
  refine sx_region ?_
  refine sx_box 2 hp #[.slice A0_0 l0_0.length c0_0, .slice A0_1 l0_1.length c0_1, .slice A0_2 l0_2.length c0_2, .int .i64 a0_3, .int .i64 a0_4] 29 (by rfl) (fun W => by kernel_rfl) ?_
  intro g_1 W_2 hp
  refine sx_rd 4 (.slice none 0 0) (by rfl) (by kernel_rfl) ?_
  refine sx_nil ?_
  refine ex_then_n ?_
  refine wp_seq ?_
  refine sx_region ?_
  refine sx_lit 7 (by rfl) Kd.string w.heap.size 9 ([] : List ByteArray) [] (fun W => by kernel_rfl) (Reps.none _ _) (by simp) hp.size hp ?_
  intro g_3 F_4 W_5 hp hz; clear hz
  refine sx_rd 5 (.slice (some ⟨g_3, 0, none⟩) (([] : List ByteArray).length) (([] : List ByteArray).length)) (by rfl) (by kernel_rfl) ?_
  refine sx_nil ?_
  refine ex_then_n ?_
  refine wp_seq ?_
  refine wp_block ?_
  refine wp_loop_ghost (fun n a W => ∃ (r_ : List (Nat × Value)) (i : Nat) (ds : List Chunk) (Af_ : Option Addr) (cf_ : Nat) (As_ : Option Addr) (cs_ : Nat) (Ar_ : Option Addr) (cr_ : Nat) (Ao : Option Addr) (no co : Nat) (Fo : Nat → Prop), n = nH (⟨l0_0, l0_1, l0_2, a0_3, a0_4⟩ : Gm) - i ∧ a = fr 22 ([(1, .func (.func 43) #[] #[]), (2, .pointer (some ⟨g_1, 0, none⟩)), (5, .slice Ao no co)] ++ r_) ∧ Hp w (row Kd.string 9 w.heap.size (.slice Ao no co) (outH (⟨l0_0, l0_1, l0_2, a0_3, a0_4⟩ : Gm) i) Fo :: blk g_1 #[.slice Af_ ((hg (⟨l0_0, l0_1, l0_2, a0_3, a0_4⟩ : Gm) i).f.length) cf_, .slice As_ ((hg (⟨l0_0, l0_1, l0_2, a0_3, a0_4⟩ : Gm) i).s.length) cs_, .slice Ar_ ((hg (⟨l0_0, l0_1, l0_2, a0_3, a0_4⟩ : Gm) i).r.length) cr_, .int .i64 ((hg (⟨l0_0, l0_1, l0_2, a0_3, a0_4⟩ : Gm) i).t), .int .i64 ((hg (⟨l0_0, l0_1, l0_2, a0_3, a0_4⟩ : Gm) i).p)] 29 :: ds) W ∧ (i ≤ nH (⟨l0_0, l0_1, l0_2, a0_3, a0_4⟩ : Gm)) ∧ (∀ W, Hp w ds W → Kd.C k59 W Af_ (hg (⟨l0_0, l0_1, l0_2, a0_3, a0_4⟩ : Gm) i).f.length (hg (⟨l0_0, l0_1, l0_2, a0_3, a0_4⟩ : Gm) i).f) ∧ ((hg (⟨l0_0, l0_1, l0_2, a0_3, a0_4⟩ : Gm) i).f.length ≤ cf_) ∧ (∀ W, Hp w ds W → Kd.C k59 W As_ (hg (⟨l0_0, l0_1, l0_2, a0_3, a0_4⟩ : Gm) i).s.length (hg (⟨l0_0, l0_1, l0_2, a0_3, a0_4⟩ : Gm) i).s) ∧ ((hg (⟨l0_0, l0_1, l0_2, a0_3, a0_4⟩ : Gm) i).s.length ≤ cs_) ∧ (∀ W, Hp w ds W → Kd.C (Kd.int .i64) W Ar_ (hg (⟨l0_0, l0_1, l0_2, a0_3, a0_4⟩ : Gm) i).r.length (hg (⟨l0_0, l0_1, l0_2, a0_3, a0_4⟩ : Gm) i).r) ∧ ((hg (⟨l0_0, l0_1, l0_2, a0_3, a0_4⟩ : Gm) i).r.length ≤ cr_) ∧ (∀ W, Hp w ds W → Below w.heap.size w W)) _ ⟨_, 0, cs, A0_0, c0_0, A0_1, c0_1, A0_2, c0_2, _, _, _, _, rfl, fr_front [(1, .func (.func 43) #[] #[]), (2, .pointer (some ⟨g_1, 0, none⟩)), (5, .slice (some ⟨g_3, 0, none⟩) (([] : List ByteArray).length) (([] : List ByteArray).length))] ⟨rfl, rfl, rfl, trivial⟩, (hp.take [0, 1] 2 (by decide) (by simp)), Nat.zero_le _, hC0_0, hc0_0, hC0_1, hc0_1, hC0_2, hc0_2, hc2⟩ ?_
  rintro _ _ W_6 ⟨r_, i, ds, Af_, cf_, As_, cs_, Ar_, cr_, Ao, no, co, Fo, rfl, rfl, hp, hi, hCf_, hcf_, hCs_, hcs_, hCr_, hcr_, hcd⟩
  obtain ⟨rfl, hcco⟩ := row_len (hp.at_ 0 _ (by rfl))
  have hoi := hg_ok hok0 i hi
  have hrw := hg_row (⟨l0_0, l0_1, l0_2, a0_3, a0_4⟩ : Gm) i
  have hNs := (nH_spec hok0).2.2
  have hol := outH_len (⟨l0_0, l0_1, l0_2, a0_3, a0_4⟩ : Gm) i
  dsimp only at hrw
  have hri : (hg (⟨l0_0, l0_1, l0_2, a0_3, a0_4⟩ : Gm) i).r.length ≤ 2000000 := by omega
  have hgm := gmG hoi hri
  have hz3 := hand_len hoi.f
  have hz4 := hand_len hoi.s
  have hza := nH_at hok0 hi
  refine wp_seq ?_
  refine wp_seq ?_
  refine sx_region ?_
  refine sx_rd 8 (.agg #[.slice Af_ ((hg (⟨l0_0, l0_1, l0_2, a0_3, a0_4⟩ : Gm) i).f.length) cf_, .slice As_ ((hg (⟨l0_0, l0_1, l0_2, a0_3, a0_4⟩ : Gm) i).s.length) cs_, .slice Ar_ ((hg (⟨l0_0, l0_1, l0_2, a0_3, a0_4⟩ : Gm) i).r.length) cr_, .int .i64 ((hg (⟨l0_0, l0_1, l0_2, a0_3, a0_4⟩ : Gm) i).t), .int .i64 ((hg (⟨l0_0, l0_1, l0_2, a0_3, a0_4⟩ : Gm) i).p)]) (by rfl) (ldn (t := 29) (p := (.tmp 2)) (by rfl) (by rfl) (by kernel_rfl) (by kernel_rfl) (by kernel_rfl) (hp.at_ 1 _ (by rfl))) ?_
  refine sx_call 9 (by rfl) (by kernel_rfl) ((impl_Game_isOver.calls Af_ cf_ ((hg (⟨l0_0, l0_1, l0_2, a0_3, a0_4⟩ : Gm) i).f) As_ cs_ ((hg (⟨l0_0, l0_1, l0_2, a0_3, a0_4⟩ : Gm) i).s) Ar_ cr_ ((hg (⟨l0_0, l0_1, l0_2, a0_3, a0_4⟩ : Gm) i).r) ((hg (⟨l0_0, l0_1, l0_2, a0_3, a0_4⟩ : Gm) i).t) ((hg (⟨l0_0, l0_1, l0_2, a0_3, a0_4⟩ : Gm) i).p) _ _ (hCf_ _ hp.tail.tail) hcf_ (hCs_ _ hp.tail.tail) hcs_ (hCr_ _ hp.tail.tail) hcr_ (isOver_eq (hg (⟨l0_0, l0_1, l0_2, a0_3, a0_4⟩ : Gm) i).f (hg (⟨l0_0, l0_1, l0_2, a0_3, a0_4⟩ : Gm) i).s (hg (⟨l0_0, l0_1, l0_2, a0_3, a0_4⟩ : Gm) i).r (hg (⟨l0_0, l0_1, l0_2, a0_3, a0_4⟩ : Gm) i).t (hg (⟨l0_0, l0_1, l0_2, a0_3, a0_4⟩ : Gm) i).p)).mono ?_)
  rintro _ W_7 ⟨rfl, hb⟩
  refine ⟨_, rfl, ?_⟩
  replace hp := hp.below hb
  clear hb
  refine sx_rd 10 (.bool (!(overB (hg (⟨l0_0, l0_1, l0_2, a0_3, a0_4⟩ : Gm) i).f (hg (⟨l0_0, l0_1, l0_2, a0_3, a0_4⟩ : Gm) i).s (hg (⟨l0_0, l0_1, l0_2, a0_3, a0_4⟩ : Gm) i).p))) (by rfl) (by kernel_rfl) ?_
  refine sx_nil ?_
  refine ex_then_n ?_
  refine sx_cond (!(overB (hg (⟨l0_0, l0_1, l0_2, a0_3, a0_4⟩ : Gm) i).f (hg (⟨l0_0, l0_1, l0_2, a0_3, a0_4⟩ : Gm) i).s (hg (⟨l0_0, l0_1, l0_2, a0_3, a0_4⟩ : Gm) i).p)) (by rfl) (fun c_8 => ?_) (fun c_8 => ?_)
  ·
    have hov : (hg (⟨l0_0, l0_1, l0_2, a0_3, a0_4⟩ : Gm) i).over = false := by show (overB (hg (⟨l0_0, l0_1, l0_2, a0_3, a0_4⟩ : Gm) i).f (hg (⟨l0_0, l0_1, l0_2, a0_3, a0_4⟩ : Gm) i).s (hg (⟨l0_0, l0_1, l0_2, a0_3, a0_4⟩ : Gm) i).p) = _; have q := c_8; simpa using q
    refine wp_skip ?_
    refine ex_then_n ?_
    refine wp_block ?_
    refine wp_seq ?_
    refine sx_region ?_
    refine sx_rd 11 (.func (.func 43) #[] #[]) (by rfl) (by kernel_rfl) ?_
    refine sx_rd 12 (.agg #[.slice Af_ ((hg (⟨l0_0, l0_1, l0_2, a0_3, a0_4⟩ : Gm) i).f.length) cf_, .slice As_ ((hg (⟨l0_0, l0_1, l0_2, a0_3, a0_4⟩ : Gm) i).s.length) cs_, .slice Ar_ ((hg (⟨l0_0, l0_1, l0_2, a0_3, a0_4⟩ : Gm) i).r.length) cr_, .int .i64 ((hg (⟨l0_0, l0_1, l0_2, a0_3, a0_4⟩ : Gm) i).t), .int .i64 ((hg (⟨l0_0, l0_1, l0_2, a0_3, a0_4⟩ : Gm) i).p)]) (by rfl) (ldn (t := 29) (p := (.tmp 2)) (by rfl) (by rfl) (by kernel_rfl) (by kernel_rfl) (by kernel_rfl) (hp.at_ 1 _ (by rfl))) ?_
    refine sx_call 13 (by rfl) (by kernel_rfl) ((impl_HeavyLine_1.calls Af_ cf_ ((hg (⟨l0_0, l0_1, l0_2, a0_3, a0_4⟩ : Gm) i).f) As_ cs_ ((hg (⟨l0_0, l0_1, l0_2, a0_3, a0_4⟩ : Gm) i).s) Ar_ cr_ ((hg (⟨l0_0, l0_1, l0_2, a0_3, a0_4⟩ : Gm) i).r) ((hg (⟨l0_0, l0_1, l0_2, a0_3, a0_4⟩ : Gm) i).t) ((hg (⟨l0_0, l0_1, l0_2, a0_3, a0_4⟩ : Gm) i).p) _ _ (hCf_ _ hp.tail.tail) hcf_ (hCs_ _ hp.tail.tail) hcs_ (hCr_ _ hp.tail.tail) hcr_ (choose_eq hgm hov)).mono ?_)
    rintro _ W_9 ⟨rfl, hb⟩
    refine ⟨_, rfl, ?_⟩
    replace hp := hp.below hb
    clear hb
    refine sx_rd 6 (.string (txt (bestM (hg (⟨l0_0, l0_1, l0_2, a0_3, a0_4⟩ : Gm) i).moves))) (by rfl) (by kernel_rfl) ?_
    refine sx_nil ?_
    refine ex_then_n ?_
    refine sx_drawT2 [0, 1, 5] (.rd 4 (.alt 2 (.alt 3 (.alt 6 (.rd 7 (.fin)) .non) .non) .non)) 8 (C := Hp w (blk g_1 #[.slice Af_ ((hg (⟨l0_0, l0_1, l0_2, a0_3, a0_4⟩ : Gm) i).f.length) cf_, .slice As_ ((hg (⟨l0_0, l0_1, l0_2, a0_3, a0_4⟩ : Gm) i).s.length) cs_, .slice Ar_ ((hg (⟨l0_0, l0_1, l0_2, a0_3, a0_4⟩ : Gm) i).r.length) cr_, .int .i64 ((hg (⟨l0_0, l0_1, l0_2, a0_3, a0_4⟩ : Gm) i).t), .int .i64 ((hg (⟨l0_0, l0_1, l0_2, a0_3, a0_4⟩ : Gm) i).p)] 29 :: ds)) (Hp w (row Kd.string 9 w.heap.size (.slice Ao ((outH (⟨l0_0, l0_1, l0_2, a0_3, a0_4⟩ : Gm) i).length) co) (outH (⟨l0_0, l0_1, l0_2, a0_3, a0_4⟩ : Gm) i) Fo :: blk g_1 #[.slice Af_ ((hg (⟨l0_0, l0_1, l0_2, a0_3, a0_4⟩ : Gm) i).f.length) cf_, .slice As_ ((hg (⟨l0_0, l0_1, l0_2, a0_3, a0_4⟩ : Gm) i).s.length) cs_, .slice Ar_ ((hg (⟨l0_0, l0_1, l0_2, a0_3, a0_4⟩ : Gm) i).r.length) cr_, .int .i64 ((hg (⟨l0_0, l0_1, l0_2, a0_3, a0_4⟩ : Gm) i).t), .int .i64 ((hg (⟨l0_0, l0_1, l0_2, a0_3, a0_4⟩ : Gm) i).p)] 29 :: ds)) (fun W h => h.take [1] 2 (by decide) (by simp)) (by kernel_rfl) (by kernel_rfl) (fun d _ _ _ _ h => by cases d <;> exact h) (fun W h => h.drew) hp ?_
    refine preI_read rfl ?_
    refine sxq_val 14 (.slice Ao ((outH (⟨l0_0, l0_1, l0_2, a0_3, a0_4⟩ : Gm) i).length) co) (by rfl) (fun W _ => (by kernel_rfl)) ?_
    refine sxq_nil ?_
    refine preI_read rfl ?_
    refine sxq_val 15 (.string (txt (bestM (hg (⟨l0_0, l0_1, l0_2, a0_3, a0_4⟩ : Gm) i).moves))) (by rfl) (fun W _ => (by kernel_rfl)) ?_
    refine sxq_nil ?_
    refine preI_read rfl ?_
    refine sxq_val 19 (.string (txt (bestM (hg (⟨l0_0, l0_1, l0_2, a0_3, a0_4⟩ : Gm) i).moves))) (by rfl) (fun W _ => (by kernel_rfl)) ?_
    refine sxq_nil ?_
    refine preI_nil ?_
    intro W_10 hp
    refine treeI_rd rfl ?_
    refine sxq_val 18 (.agg #[.slice Af_ ((hg (⟨l0_0, l0_1, l0_2, a0_3, a0_4⟩ : Gm) i).f.length) cf_, .slice As_ ((hg (⟨l0_0, l0_1, l0_2, a0_3, a0_4⟩ : Gm) i).s.length) cs_, .slice Ar_ ((hg (⟨l0_0, l0_1, l0_2, a0_3, a0_4⟩ : Gm) i).r.length) cr_, .int .i64 ((hg (⟨l0_0, l0_1, l0_2, a0_3, a0_4⟩ : Gm) i).t), .int .i64 ((hg (⟨l0_0, l0_1, l0_2, a0_3, a0_4⟩ : Gm) i).p)]) (by rfl) (fun W hp => (ldn (t := 29) (p := (.tmp 2)) (by rfl) (by rfl) (by kernel_rfl) (by kernel_rfl) (by kernel_rfl) (hp.at_ 0 _ (by rfl)))) ?_
    refine sxq_nil ?_
    refine treeI_ev rfl ?_
    refine sx_lit 16 (by rfl) Kd.string w.heap.size 9 ([(txt (bestM (hg (⟨l0_0, l0_1, l0_2, a0_3, a0_4⟩ : Gm) i).moves))]) [.string (txt (bestM (hg (⟨l0_0, l0_1, l0_2, a0_3, a0_4⟩ : Gm) i).moves))] (fun W => by kernel_rfl) (Reps.snoc (cs := []) (Reps.none _ _) rfl rfl) (by simp) hp.size hp ?_
    intro g_11 F_12 W_13 hp hz; clear hz
    refine step_fin hp.tail.tail ?_
    refine treeI_ev rfl ?_
    refine sx_append 17 (by rfl) Kd.string 1 (by rfl) (.string ByteArray.empty) 16 (by rfl) Tryz.underlying36 (by kernel_rfl) rfl (by decide) (by decide) ([(txt (bestM (hg (⟨l0_0, l0_1, l0_2, a0_3, a0_4⟩ : Gm) i).moves))]) (by rfl) (by rfl) (row_C (hp.at_ 0 _ (by rfl))) (fun x cs h => h) hp.size (by first | omega | (simp; omega)) hp ?_
    intro A_14 c_15 F_16 W_17 hp hz; clear hz; simp only [List.set_cons_succ, List.set_cons_zero] at hp
    refine step_fin hp.tail.tail ?_
    refine treeI_ev rfl ?_
    refine sx_call 20 (by rfl) (by kernel_rfl) ((impl_Game_behind.calls Af_ cf_ ((hg (⟨l0_0, l0_1, l0_2, a0_3, a0_4⟩ : Gm) i).f) As_ cs_ ((hg (⟨l0_0, l0_1, l0_2, a0_3, a0_4⟩ : Gm) i).s) Ar_ cr_ ((hg (⟨l0_0, l0_1, l0_2, a0_3, a0_4⟩ : Gm) i).r) ((hg (⟨l0_0, l0_1, l0_2, a0_3, a0_4⟩ : Gm) i).t) ((hg (⟨l0_0, l0_1, l0_2, a0_3, a0_4⟩ : Gm) i).p) (txt (bestM (hg (⟨l0_0, l0_1, l0_2, a0_3, a0_4⟩ : Gm) i).moves)) _ _ _ _ _ _ (hCf_ _ hp.tail.tail.tail) hcf_ (hCs_ _ hp.tail.tail.tail) hcs_ (hCr_ _ hp.tail.tail.tail) hcr_ (behind_best hoi hri hov)).mono ?_)
    rintro _ W_33 ⟨v_21, v_22, v_23, rfl, hR_18, hR_19, hR_20, hb⟩
    refine ⟨_, rfl, ?_⟩
    obtain ⟨A_24, c_25, rfl, hcc_c_25, _⟩ := Kd.R_reads hR_18
    obtain ⟨A_27, c_28, rfl, hcc_c_28, _⟩ := Kd.R_reads hR_19
    obtain ⟨A_30, c_31, rfl, hcc_c_31, _⟩ := Kd.R_reads hR_20
    obtain ⟨F_26, F_29, F_32, hp⟩ : ∃ F_26 F_29 F_32, Hp w (row k59 59 w.heap.size (.slice A_24 (((hg (⟨l0_0, l0_1, l0_2, a0_3, a0_4⟩ : Gm) i).make (bestM (hg (⟨l0_0, l0_1, l0_2, a0_3, a0_4⟩ : Gm) i).moves)).f).length c_25) (((hg (⟨l0_0, l0_1, l0_2, a0_3, a0_4⟩ : Gm) i).make (bestM (hg (⟨l0_0, l0_1, l0_2, a0_3, a0_4⟩ : Gm) i).moves)).f) F_26 :: row k59 59 w.heap.size (.slice A_27 (((hg (⟨l0_0, l0_1, l0_2, a0_3, a0_4⟩ : Gm) i).make (bestM (hg (⟨l0_0, l0_1, l0_2, a0_3, a0_4⟩ : Gm) i).moves)).s).length c_28) (((hg (⟨l0_0, l0_1, l0_2, a0_3, a0_4⟩ : Gm) i).make (bestM (hg (⟨l0_0, l0_1, l0_2, a0_3, a0_4⟩ : Gm) i).moves)).s) F_29 :: row (Kd.int .i64) 3 w.heap.size (.slice A_30 (((hg (⟨l0_0, l0_1, l0_2, a0_3, a0_4⟩ : Gm) i).make (bestM (hg (⟨l0_0, l0_1, l0_2, a0_3, a0_4⟩ : Gm) i).moves)).r).length c_31) (((hg (⟨l0_0, l0_1, l0_2, a0_3, a0_4⟩ : Gm) i).make (bestM (hg (⟨l0_0, l0_1, l0_2, a0_3, a0_4⟩ : Gm) i).moves)).r) F_32 :: row Kd.string 9 w.heap.size (.slice (some ⟨g_11, 0, none⟩) ([(txt (bestM (hg (⟨l0_0, l0_1, l0_2, a0_3, a0_4⟩ : Gm) i).moves))].length) ([(txt (bestM (hg (⟨l0_0, l0_1, l0_2, a0_3, a0_4⟩ : Gm) i).moves))].length)) ([(txt (bestM (hg (⟨l0_0, l0_1, l0_2, a0_3, a0_4⟩ : Gm) i).moves))]) F_12 :: row Kd.string 9 w.heap.size (.slice A_14 (((outH (⟨l0_0, l0_1, l0_2, a0_3, a0_4⟩ : Gm) i) ++ [(txt (bestM (hg (⟨l0_0, l0_1, l0_2, a0_3, a0_4⟩ : Gm) i).moves))]).length) c_15) ((outH (⟨l0_0, l0_1, l0_2, a0_3, a0_4⟩ : Gm) i) ++ [(txt (bestM (hg (⟨l0_0, l0_1, l0_2, a0_3, a0_4⟩ : Gm) i).moves))]) F_16 :: blk g_1 #[.slice Af_ ((hg (⟨l0_0, l0_1, l0_2, a0_3, a0_4⟩ : Gm) i).f.length) cf_, .slice As_ ((hg (⟨l0_0, l0_1, l0_2, a0_3, a0_4⟩ : Gm) i).s.length) cs_, .slice Ar_ ((hg (⟨l0_0, l0_1, l0_2, a0_3, a0_4⟩ : Gm) i).r.length) cr_, .int .i64 ((hg (⟨l0_0, l0_1, l0_2, a0_3, a0_4⟩ : Gm) i).t), .int .i64 ((hg (⟨l0_0, l0_1, l0_2, a0_3, a0_4⟩ : Gm) i).p)] 29 :: ds) _ := ⟨_, _, _, Hp.made3 hp hb rfl rfl rfl hR_18 hR_19 hR_20 (ok_apart hR_18 (fun k hk => hk)) (typed_apart hR_18 hR_20 (by decide)) (typed_apart hR_19 hR_20 (by decide))⟩
    refine step_fin hp.tail.tail.tail.tail.tail ?_
    refine treeI_rd rfl ?_
    refine sxq_val 5 (.slice A_14 (((outH (⟨l0_0, l0_1, l0_2, a0_3, a0_4⟩ : Gm) i) ++ [(txt (bestM (hg (⟨l0_0, l0_1, l0_2, a0_3, a0_4⟩ : Gm) i).moves))]).length) c_15) (by rfl) (fun W hp => (by kernel_rfl)) ?_
    refine sxq_nil ?_
    refine treeI_fin ?_
    refine tail_of [8] (by rfl) ?_
    refine tailI_op rfl ?_
    refine sx_store (t := 29) (p := (.tmp 2)) (x := (.tmp 20)) (by rfl) (by rfl) 5 (by rfl) 0 [.slice A_24 ((((hg (⟨l0_0, l0_1, l0_2, a0_3, a0_4⟩ : Gm) i).make (bestM (hg (⟨l0_0, l0_1, l0_2, a0_3, a0_4⟩ : Gm) i).moves)).f).length) c_25, .slice A_27 ((((hg (⟨l0_0, l0_1, l0_2, a0_3, a0_4⟩ : Gm) i).make (bestM (hg (⟨l0_0, l0_1, l0_2, a0_3, a0_4⟩ : Gm) i).moves)).s).length) c_28, .slice A_30 ((((hg (⟨l0_0, l0_1, l0_2, a0_3, a0_4⟩ : Gm) i).make (bestM (hg (⟨l0_0, l0_1, l0_2, a0_3, a0_4⟩ : Gm) i).moves)).r).length) c_31, .int .i64 (((hg (⟨l0_0, l0_1, l0_2, a0_3, a0_4⟩ : Gm) i).make (bestM (hg (⟨l0_0, l0_1, l0_2, a0_3, a0_4⟩ : Gm) i).moves)).t), .int .i64 (((hg (⟨l0_0, l0_1, l0_2, a0_3, a0_4⟩ : Gm) i).make (bestM (hg (⟨l0_0, l0_1, l0_2, a0_3, a0_4⟩ : Gm) i).moves)).p)] (by rfl) (by rfl) (by kernel_rfl) (by simp [Value.oneCell']) (by show 5 ≤ 5; omega) #[.slice A_24 ((((hg (⟨l0_0, l0_1, l0_2, a0_3, a0_4⟩ : Gm) i).make (bestM (hg (⟨l0_0, l0_1, l0_2, a0_3, a0_4⟩ : Gm) i).moves)).f).length) c_25, .slice A_27 ((((hg (⟨l0_0, l0_1, l0_2, a0_3, a0_4⟩ : Gm) i).make (bestM (hg (⟨l0_0, l0_1, l0_2, a0_3, a0_4⟩ : Gm) i).moves)).s).length) c_28, .slice A_30 ((((hg (⟨l0_0, l0_1, l0_2, a0_3, a0_4⟩ : Gm) i).make (bestM (hg (⟨l0_0, l0_1, l0_2, a0_3, a0_4⟩ : Gm) i).moves)).r).length) c_31, .int .i64 (((hg (⟨l0_0, l0_1, l0_2, a0_3, a0_4⟩ : Gm) i).make (bestM (hg (⟨l0_0, l0_1, l0_2, a0_3, a0_4⟩ : Gm) i).moves)).t), .int .i64 (((hg (⟨l0_0, l0_1, l0_2, a0_3, a0_4⟩ : Gm) i).make (bestM (hg (⟨l0_0, l0_1, l0_2, a0_3, a0_4⟩ : Gm) i).moves)).p)] (by rfl) hp ?_
    intro W_34 hp; simp only [List.set_cons_succ, List.set_cons_zero] at hp
    refine tailI_next ?_
    refine tailI_nil ?_
    refine ex_blk_n ?_
    refine ex_then_n ?_
    exact ⟨_, (by have := hza.2 hov; omega), _, (i + 1), (row k59 59 w.heap.size (.slice A_24 ((((hg (⟨l0_0, l0_1, l0_2, a0_3, a0_4⟩ : Gm) i).make (bestM (hg (⟨l0_0, l0_1, l0_2, a0_3, a0_4⟩ : Gm) i).moves)).f).length) c_25) (((hg (⟨l0_0, l0_1, l0_2, a0_3, a0_4⟩ : Gm) i).make (bestM (hg (⟨l0_0, l0_1, l0_2, a0_3, a0_4⟩ : Gm) i).moves)).f) F_26 :: row k59 59 w.heap.size (.slice A_27 ((((hg (⟨l0_0, l0_1, l0_2, a0_3, a0_4⟩ : Gm) i).make (bestM (hg (⟨l0_0, l0_1, l0_2, a0_3, a0_4⟩ : Gm) i).moves)).s).length) c_28) (((hg (⟨l0_0, l0_1, l0_2, a0_3, a0_4⟩ : Gm) i).make (bestM (hg (⟨l0_0, l0_1, l0_2, a0_3, a0_4⟩ : Gm) i).moves)).s) F_29 :: row (Kd.int .i64) 3 w.heap.size (.slice A_30 ((((hg (⟨l0_0, l0_1, l0_2, a0_3, a0_4⟩ : Gm) i).make (bestM (hg (⟨l0_0, l0_1, l0_2, a0_3, a0_4⟩ : Gm) i).moves)).r).length) c_31) (((hg (⟨l0_0, l0_1, l0_2, a0_3, a0_4⟩ : Gm) i).make (bestM (hg (⟨l0_0, l0_1, l0_2, a0_3, a0_4⟩ : Gm) i).moves)).r) F_32 :: ds), A_24, c_25, A_27, c_28, A_30, c_31, _, _, _, _, rfl, fr_front [(1, .func (.func 43) #[] #[]), (2, .pointer (some ⟨g_1, 0, none⟩)), (5, .slice A_14 ((outH (⟨l0_0, l0_1, l0_2, a0_3, a0_4⟩ : Gm) (i + 1)).length) c_15)] ⟨rfl, rfl, rfl, trivial⟩, (hp.take [4, 5, 0, 1, 2] 6 (by decide) (by simp)), (by have := hza.2 hov; omega), (fun W h => row_C (h.at_ 0 _ (by rfl))), (row_len (((hp.take [0, 1, 2] 6 (by decide) (by simp))).at_ 0 _ (by rfl))).2, (fun W h => row_C (h.at_ 1 _ (by rfl))), (row_len (((hp.take [0, 1, 2] 6 (by decide) (by simp))).at_ 1 _ (by rfl))).2, (fun W h => row_C (h.at_ 2 _ (by rfl))), (row_len (((hp.take [0, 1, 2] 6 (by decide) (by simp))).at_ 2 _ (by rfl))).2, (fun W h => hcd W h.tail.tail.tail)⟩
  ·
    have hov : (hg (⟨l0_0, l0_1, l0_2, a0_3, a0_4⟩ : Gm) i).over = true := by show (overB (hg (⟨l0_0, l0_1, l0_2, a0_3, a0_4⟩ : Gm) i).f (hg (⟨l0_0, l0_1, l0_2, a0_3, a0_4⟩ : Gm) i).s (hg (⟨l0_0, l0_1, l0_2, a0_3, a0_4⟩ : Gm) i).p) = _; have q := c_8; simpa using q
    refine wp_exit ?_
    refine ex_then_e (ex_then_e (ex_blk_here ?_))
    refine ex_then_n ?_
    refine wp_seq ?_
    refine sx_region ?_
    refine sx_rd 21 (.slice Ao ((outH (⟨l0_0, l0_1, l0_2, a0_3, a0_4⟩ : Gm) i).length) co) (by rfl) (by kernel_rfl) ?_
    refine sx_rd 4 (.slice Ao ((outH (⟨l0_0, l0_1, l0_2, a0_3, a0_4⟩ : Gm) i).length) co) (by rfl) (by kernel_rfl) ?_
    refine sx_nil ?_
    refine ex_then_n ?_
    refine wp_ret ?_
    refine sx_end (.slice Ao ((outH (⟨l0_0, l0_1, l0_2, a0_3, a0_4⟩ : Gm) i).length) co) (res1 4 (by rfl)) ?_
    obtain rfl := hza.1 hov
    obtain rfl := Option.some.inj h
    exact ⟨_, rfl, Kd.R_mono (row_R (hp.at_ 0 _ (by rfl))) (fun _ _ => trivial), hcd _ (hp.tail.tail)⟩
end Go.Proofs.YtkjaahmlnbgnjaaGreat.Hd
