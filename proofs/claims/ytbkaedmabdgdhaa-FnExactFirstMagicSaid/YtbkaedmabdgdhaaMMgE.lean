/- The closure of impl.magic that looks at each list, by hand. -/
import Derived.Test.YtbkaedmabdgdhaaPMgA
import Derived.Test.YtbkaedmabdgdhaaMSxW
import Derived.Test.YtbkaedmabdgdhaaMMgA
import Derived.Test.YtbkaedmabdgdhaaMSx2
import Derived.Test.YtbkaedmabdgdhaaMMx
import Derived.Test.YtbkaedmabdgdhaaPEv
namespace Go.Proofs.Ytbkaedmabdgdhaa.Hd
open Go.RowKit Go.Proofs.Ytbkaedmabdgdhaa.Pure Go.Proofs.YtbkaedmabdgdhaaW.PrintWords Go.Proofs.YtbkaedmabdgdhaaW.PrintLast Go.Proofs.YtbkaedmabdgdhaaW.PrintMore
set_option linter.unusedVariables false
set_option linter.unusedSimpArgs false
set_option maxRecDepth 100000 in
set_option maxHeartbeats 40000000 in
theorem chunk_sx (gl nl cl wd : Nat) (w0 W : World) (cs : List Chunk) (hw : 1 ≤ wd) (hp : Hp w0 cs W) :
    Calls Try.prog 48 #[.slice (some ⟨gl, 0, none⟩) nl cl, .int .i64 (wd : Int)] W fun e W' => ∃ g1 g2, e = .returned (.func (.func 76) #[] #[.pointer (some ⟨g1, 0, none⟩), .pointer (some ⟨g2, 0, none⟩)]) ∧ Hp w0 (blk g1 #[.slice (some ⟨gl, 0, none⟩) nl cl] 39 :: blk g2 #[.int .i64 (wd : Int)] 3 :: cs) W' := by
  have hw1 : (decide ((wd : Int) < 1)) = false := decide_eq_false (by omega)
  refine sx_enter (N := 9) (l := [.slice (some ⟨gl, 0, none⟩) nl cl, .int .i64 (wd : Int)]) Try.func48 rfl rfl rfl ?_
  refine wp_seq ?_
  refine sx_region ?_
  refine sx_box 2 hp #[.slice (some ⟨gl, 0, none⟩) nl cl] 39 (by rfl) (fun W => by kernel_rfl) ?_
  intro g_1 W_2 hp
  refine sx_box 3 hp #[.int .i64 (wd : Int)] 3 (by rfl) (fun W => by kernel_rfl) ?_
  intro g_3 W_4 hp
  refine sx_rd 4 .nilFunc (by rfl) (by kernel_rfl) ?_
  refine sx_nil ?_
  refine ex_then_n ?_
  refine wp_seq ?_
  refine wp_seq ?_
  refine sx_region ?_
  refine sx_rd 5 (.int .i64 (wd : Int)) (by rfl) (ld1 (t := 3) (p := (.tmp 3)) (by rfl) (by rfl) (by kernel_rfl) (hp.cell 0 (by rfl) 0 _ (by rfl))) ?_
  refine sx_rd 6 (.bool false) (by rfl) (bv hw1 (by kernel_rfl)) ?_
  refine sx_nil ?_
  refine ex_then_n ?_
  refine sx_else false (by rfl) rfl ?_
  refine wp_skip ?_
  refine ex_then_n ?_
  refine wp_seq ?_
  refine sx_region ?_
  refine sx_rd 8 (.func (.func 76) #[] #[.pointer (some ⟨g_1, 0, none⟩), .pointer (some ⟨g_3, 0, none⟩)]) (by rfl) (by kernel_rfl) ?_
  refine sx_rd 4 (.func (.func 76) #[] #[.pointer (some ⟨g_1, 0, none⟩), .pointer (some ⟨g_3, 0, none⟩)]) (by rfl) (by kernel_rfl) ?_
  refine sx_nil ?_
  refine ex_then_n ?_
  refine wp_ret ?_
  refine sx_end (.func (.func 76) #[] #[.pointer (some ⟨g_1, 0, none⟩), .pointer (some ⟨g_3, 0, none⟩)]) (res1 4 (by rfl)) ?_
  exact ⟨_, _, rfl, (hp.take [1, 0] 2 (by decide) (by simp))⟩
set_option maxRecDepth 100000 in
set_option maxHeartbeats 40000000 in
theorem split_sx (gR : Nat) (gl : Nat) (w0 W : World) (cs : List Chunk) (l : List Int) (cl : Nat) (Fl : Nat → Prop) (R wd : Nat) (hw : 1 ≤ wd) (hw2 : wd ≤ 1000) (hR : 1 ≤ R) (hN : R * wd = l.length) (hN2 : l.length ≤ 1000000) (hp : Hp w0 (row (Kd.int .i64) 3 w0.heap.size (.slice (some ⟨gl, 0, none⟩) l.length cl) l Fl :: blk gR #[.int .i64 (R : Int)] 3 :: cs) W) :
    Calls Try.prog 46 #[.slice (some ⟨gl, 0, none⟩) l.length cl, .pointer (some ⟨gR, 0, none⟩)] W fun e W' => ∃ A' c' F', e = .returned (.slice A' (chunksL R wd l).length c') ∧ Hp w0 (row hdrK 39 w0.heap.size (.slice A' (hdrsL gl wd R).length c') (hdrsL gl wd R) F' :: row (Kd.int .i64) 3 w0.heap.size (.slice (some ⟨gl, 0, none⟩) l.length cl) l Fl :: blk gR #[.int .i64 (R : Int)] 3 :: cs) W' := by
  have hquo : wrap64 (Int.tdiv (l.length : Int) (R : Int)) = (wd : Int) := by
    rw [← hN, Int.natCast_mul, Int.mul_tdiv_cancel_left _ (by omega)]; exact w64 (by unfold small; omega)
  refine sx_enter (N := 11) (l := [.slice (some ⟨gl, 0, none⟩) l.length cl, .pointer (some ⟨gR, 0, none⟩)]) Try.func46 rfl rfl rfl ?_
  refine wp_seq ?_
  refine sx_region ?_
  refine sx_rd 3 (.slice none 0 0) (by rfl) (by kernel_rfl) ?_
  refine sx_nil ?_
  refine ex_then_n ?_
  refine wp_seq ?_
  refine sx_region ?_
  refine sx_rd 4 (.slice (some ⟨gl, 0, none⟩) l.length cl) (by rfl) (by kernel_rfl) ?_
  refine sx_rd 5 (.slice (some ⟨gl, 0, none⟩) l.length cl) (by rfl) (by kernel_rfl) ?_
  refine sx_rd 6 (.int .i64 (l.length : Int)) (by rfl) (by kernel_rfl) ?_
  refine sx_rd 7 (.int .i64 (R : Int)) (by rfl) (ld1 (t := 3) (p := (.tmp 1)) (by rfl) (by rfl) (by kernel_rfl) (hp.cell 1 (by rfl) 0 _ (by rfl))) ?_
  refine sx_rd 8 (.int .i64 (wd : Int)) (by rfl) (by rw [← hquo]; exact quov_run (by rfl) (by rfl) (by rfl) (by omega)) ?_
  refine sx_call 9 (by rfl) (by kernel_rfl) ((chunk_sx gl l.length cl wd w0 _ (row (Kd.int .i64) 3 w0.heap.size (.slice (some ⟨gl, 0, none⟩) l.length cl) l Fl :: blk gR #[.int .i64 (R : Int)] 3 :: cs) hw hp).mono ?_)
  rintro _ W_1 ⟨g1, g2, rfl, hp⟩
  refine ⟨_, rfl, ?_⟩
  refine sx_call 10 (by rfl) (by kernel_rfl) ((collect_C g1 g2 gl wd R l.length cl hw hN (by omega) (row_len (hp.at_ 2 _ (by rfl))).2 (row_capM (hp.at_ 2 _ (by rfl))) _ (blk_lt (hp.at_ 0 _ (by rfl))) (blk_lt (hp.at_ 1 _ (by rfl))) (hp.cell 0 (by rfl) 0 _ (by rfl)) (hp.cell 1 (by rfl) 0 _ (by rfl))).mono ?_)
  rintro _ W_2 ⟨v, rfl, hO, hb⟩
  refine ⟨_, rfl, ?_⟩
  have hKR := own_hdrs hO
  obtain ⟨AK, cK, rfl, hcK, _⟩ := Kd.R_reads hKR
  obtain ⟨FK, hp⟩ : ∃ F, Hp w0 (row hdrK 39 w0.heap.size (.slice AK (hdrsL gl wd R).length cK) (hdrsL gl wd R) F :: blk g1 #[.slice (some ⟨gl, 0, none⟩) l.length cl] 39 :: blk g2 #[.int .i64 (wd : Int)] 3 :: row (Kd.int .i64) 3 w0.heap.size (.slice (some ⟨gl, 0, none⟩) l.length cl) l Fl :: blk gR #[.int .i64 (R : Int)] 3 :: cs) _ := ⟨_, Hp.made hp hb hKR⟩
  refine sx_rd 3 (.slice AK ((hdrsL gl wd R).length) cK) (by rfl) (by kernel_rfl) ?_
  refine sx_nil ?_
  refine ex_then_n ?_
  refine wp_ret ?_
  refine sx_end (.slice AK ((hdrsL gl wd R).length) cK) (res1 3 (by rfl)) ?_
  exact ⟨AK, cK, FK, by rw [chunksL_len, hdrsL_len], (hp.take [0, 3, 4] 5 (by decide) (by simp))⟩
end Go.Proofs.Ytbkaedmabdgdhaa.Hd
namespace Go.Proofs.Ytbkaedmabdgdhaa.Hd
open Go.RowKit Go.Proofs.Ytbkaedmabdgdhaa.Pure Go.Proofs.YtbkaedmabdgdhaaW.PrintWords Go.Proofs.YtbkaedmabdgdhaaW.PrintLast Go.Proofs.YtbkaedmabdgdhaaW.PrintMore
set_option linter.unusedVariables false
set_option linter.unusedSimpArgs false
set_option maxRecDepth 100000 in
set_option maxHeartbeats 40000000 in
theorem each_sx (gM gB gS gR : Nat) (w0 W : World) (cs : List Chunk) (l : List Int) (Al : Option Addr) (cl : Nat) (Fl : Nat → Prop) (R wd : Nat) (hw : 1 ≤ wd) (hw4 : wd ≤ 4) (hR : 1 ≤ R) (hR3 : R ≤ 3) (hN : R * wd = l.length) (b : List Int) (hlb : b ≠ [] → b.length = l.length) (m : Nat) (hm : m ≤ 1000000000) (Ab : Option Addr) (cb : Nat) (Fb : Nat → Prop) (hnil : b = [] → Ab = none ∧ cb = 0) (hp : Hp w0 (row (Kd.int .i64) 3 w0.heap.size (.slice Al l.length cl) l Fl :: blk gM #[.int .i64 (m : Int)] 3 :: blk gB #[.slice Ab (b.length) cb] 39 :: row (Kd.int .i64) 3 w0.heap.size (.slice Ab (b.length) cb) (b) Fb :: blk gS #[.func (.func 46) #[] #[.pointer (some ⟨gR, 0, none⟩)]] 67 :: blk gR #[.int .i64 (R : Int)] 3 :: cs) W) :
    Calls Try.prog 50 #[.slice Al l.length cl, .pointer (some ⟨gS, 0, none⟩), .pointer (some ⟨gM, 0, none⟩), .pointer (some ⟨gB, 0, none⟩)] W fun e W' => ∃ A' c' F', e = .returned (.tuple #[]) ∧ ((stepM R wd (b, m) l).1 = [] → A' = none ∧ c' = 0) ∧ Hp w0 (blk gM #[.int .i64 ((stepM R wd (b, m) l).2 : Int)] 3 :: blk gB #[.slice A' ((stepM R wd (b, m) l).1.length) c'] 39 :: row (Kd.int .i64) 3 w0.heap.size (.slice A' ((stepM R wd (b, m) l).1.length) c') ((stepM R wd (b, m) l).1) F' :: blk gS #[.func (.func 46) #[] #[.pointer (some ⟨gR, 0, none⟩)]] 67 :: blk gR #[.int .i64 (R : Int)] 3 :: cs) W' := by
  have hw2 : wd ≤ 1000 := by omega
  have hll : l.length ≤ 12 := by rw [← hN]; exact Nat.le_trans (Nat.mul_le_mul hR3 hw4) (by omega)
  have hlne : l ≠ [] := by
    intro q
    subst q
    have : 0 < R * wd := Nat.mul_pos hR hw
    simp at hN; omega
  by_cases hbne : b = []
  · subst hbne
    obtain ⟨rfl, rfl⟩ := hnil rfl
    obtain ⟨gl, rfl⟩ := row_form (hp.at_ 0 _ (by rfl)) (List.length_pos_iff.2 hlne)
    refine sx_enter (N := 21) (l := [.slice (some ⟨gl, 0, none⟩) l.length cl, .pointer (some ⟨gS, 0, none⟩), .pointer (some ⟨gM, 0, none⟩), .pointer (some ⟨gB, 0, none⟩)]) Try.func50 rfl rfl rfl ?_
    refine wp_seq ?_
    refine wp_seq ?_
    refine sx_region ?_
    refine sx_rd 5 (.func (.func 46) #[] #[.pointer (some ⟨gR, 0, none⟩)]) (by rfl) (ld1 (t := 67) (p := (.tmp 1)) (by rfl) (by rfl) (by kernel_rfl) (hp.cell 4 (by rfl) 0 _ (by rfl))) ?_
    refine sx_rd 6 (.slice (some ⟨gl, 0, none⟩) l.length cl) (by rfl) (by kernel_rfl) ?_
    refine sx_call 7 (by rfl) (by kernel_rfl) ((split_sx gR gl w0 _ (blk gM #[.int .i64 (m : Int)] 3 :: blk gB #[.slice none 0 0] 39 :: row (Kd.int .i64) 3 w0.heap.size (.slice none 0 0) ([] : List Int) Fb :: blk gS #[.func (.func 46) #[] #[.pointer (some ⟨gR, 0, none⟩)]] 67 :: cs) l cl Fl R wd hw hw2 hR hN (by omega) (hp.take [0, 5, 1, 2, 3, 4] 6 (by decide) (by simp))).mono ?_)
    rintro _ W_1 ⟨AK, cK, FK, rfl, hp⟩
    refine ⟨_, rfl, ?_⟩
    have hkC : Kd.C (Kd.slice 3 (Kd.int .i64)) W_1 AK (chunksL R wd l).length (chunksL R wd l) := hdrs_C (row_C (hp.at_ 0 _ (by rfl))) (row_C (hp.at_ 1 _ (by rfl))) hN
    have hkc : (chunksL R wd l).length ≤ cK := by have q := (row_len (hp.at_ 0 _ (by rfl))).2; rw [hdrsL_len] at q; rw [chunksL_len]; exact q
    obtain ⟨k_2, hk_k_2⟩ := Ev.rounds (isMagicR_ev (chunks_rect hR hR3 hw4 hN) (chunks_pos hR hw hN))
    refine sx_call 8 (by rfl) (by kernel_rfl) ((impl_isMagic.calls k_2 AK cK (chunksL R wd l) _ _ hkC hkc hk_k_2).mono ?_)
    rintro _ W_3 ⟨rfl, hb⟩
    refine ⟨_, rfl, ?_⟩
    replace hp := hp.below hb
    clear hb
    refine sx_rd 9 (.bool (!(magicB (chunksL R wd l)))) (by rfl) (by kernel_rfl) ?_
    refine sx_nil ?_
    refine ex_then_n ?_
    refine sx_cond (!(magicB (chunksL R wd l))) (by rfl) (fun c_4 => ?_) (fun c_4 => ?_)
    ·
      refine wp_ret ?_
      refine ex_then_r ?_
      refine sx_end (.tuple #[]) (res0 (by rfl)) ?_
      have hs : stepM R wd ([], m) l = ([], m) := if_neg (by rw [(not_eq c_4)]; exact Bool.false_ne_true)
      rw [hs]
      exact ⟨_, _, _, rfl, fun q => ⟨rfl, rfl⟩, (hp.take [3, 4, 5, 6, 2] 7 (by decide) (by simp))⟩
    ·
      refine wp_skip ?_
      refine ex_then_n ?_
      refine wp_seq ?_
      refine sx_region ?_
      refine sx_rd 10 (.int .i64 (m : Int)) (by rfl) (ld1 (t := 3) (p := (.tmp 2)) (by rfl) (by rfl) (by kernel_rfl) (hp.cell 3 (by rfl) 0 _ (by rfl))) ?_
      refine sx_rd 11 (.int .i64 ((m : Int) + 1)) (by rfl) (wr_ok (by omega) (by kernel_rfl)) ?_
      refine sx_store (t := 3) (p := (.tmp 2)) (x := (.tmp 11)) (by rfl) (by rfl) 3 (by rfl) 0 [.int .i64 ((m : Int) + 1)] (by rfl) (by rfl) (by kernel_rfl) (by simp [Value.oneCell']) (by show 1 ≤ 1; omega) #[.int .i64 ((m : Int) + 1)] (by rfl) hp ?_
      intro W_5 hp; simp only [List.set_cons_succ, List.set_cons_zero] at hp
      refine sx_nil ?_
      refine ex_then_n ?_
      refine wp_seq ?_
      refine sx_region ?_
      refine sx_rd 12 (.slice none 0 0) (by rfl) (ld1 (t := 39) (p := (.tmp 3)) (by rfl) (by rfl) (by kernel_rfl) (hp.cell 4 (by rfl) 0 _ (by rfl))) ?_
      refine sx_rd 13 (.bool true) (by rfl) (by kernel_rfl) ?_
      refine sx_rd 14 (.bool true) (by rfl) (by kernel_rfl) ?_
      refine sx_skip 15 (by rfl) (by rfl) (by rfl) ?_
      refine sx_skip 16 (by rfl) (by rfl) (by rfl) ?_
      refine sx_skip 17 (by rfl) (by rfl) (by rfl) ?_
      refine sx_skip 18 (by rfl) (by rfl) (by rfl) ?_
      refine sx_rd 19 (.bool true) (by rfl) (by kernel_rfl) ?_
      refine sx_nil ?_
      refine ex_then_n ?_
      refine sx_then true (by rfl) rfl ?_
      refine sx_region ?_
      refine sx_rd 20 (.slice (some ⟨gl, 0, none⟩) l.length cl) (by rfl) (by kernel_rfl) ?_
      refine sx_store (t := 39) (p := (.tmp 3)) (x := (.tmp 20)) (by rfl) (by rfl) 4 (by rfl) 0 [.slice (some ⟨gl, 0, none⟩) l.length cl] (by rfl) (by rfl) (by kernel_rfl) (by simp [Value.oneCell']) (by show 1 ≤ 1; omega) #[.slice (some ⟨gl, 0, none⟩) l.length cl] (by rfl) hp ?_
      intro W_6 hp; simp only [List.set_cons_succ, List.set_cons_zero] at hp
      refine sx_nil ?_
      refine sx_end_n (.tuple #[]) (res0 (by rfl)) ?_
      have hs : stepM R wd ([], m) l = (l, (m + 1)) := (if_pos (not_eq c_4)).trans (if_pos (.inl rfl))
      rw [hs]
      exact ⟨_, _, _, rfl, fun q => (hlne q).elim, (hp.take [3, 4, 1, 6, 2] 7 (by decide) (by simp))⟩
  · have hlb := hlb hbne
    obtain ⟨gb, rfl⟩ := row_form (hp.at_ 3 _ (by rfl)) (List.length_pos_iff.2 hbne)
    obtain ⟨gl, rfl⟩ := row_form (hp.at_ 0 _ (by rfl)) (List.length_pos_iff.2 hlne)
    refine sx_enter (N := 21) (l := [.slice (some ⟨gl, 0, none⟩) l.length cl, .pointer (some ⟨gS, 0, none⟩), .pointer (some ⟨gM, 0, none⟩), .pointer (some ⟨gB, 0, none⟩)]) Try.func50 rfl rfl rfl ?_
    refine wp_seq ?_
    refine wp_seq ?_
    refine sx_region ?_
    refine sx_rd 5 (.func (.func 46) #[] #[.pointer (some ⟨gR, 0, none⟩)]) (by rfl) (ld1 (t := 67) (p := (.tmp 1)) (by rfl) (by rfl) (by kernel_rfl) (hp.cell 4 (by rfl) 0 _ (by rfl))) ?_
    refine sx_rd 6 (.slice (some ⟨gl, 0, none⟩) l.length cl) (by rfl) (by kernel_rfl) ?_
    refine sx_call 7 (by rfl) (by kernel_rfl) ((split_sx gR gl w0 _ (blk gM #[.int .i64 (m : Int)] 3 :: blk gB #[.slice (some ⟨gb, 0, none⟩) b.length cb] 39 :: row (Kd.int .i64) 3 w0.heap.size (.slice (some ⟨gb, 0, none⟩) b.length cb) b Fb :: blk gS #[.func (.func 46) #[] #[.pointer (some ⟨gR, 0, none⟩)]] 67 :: cs) l cl Fl R wd hw hw2 hR hN (by omega) (hp.take [0, 5, 1, 2, 3, 4] 6 (by decide) (by simp))).mono ?_)
    rintro _ W_1 ⟨AK, cK, FK, rfl, hp⟩
    refine ⟨_, rfl, ?_⟩
    have hkC : Kd.C (Kd.slice 3 (Kd.int .i64)) W_1 AK (chunksL R wd l).length (chunksL R wd l) := hdrs_C (row_C (hp.at_ 0 _ (by rfl))) (row_C (hp.at_ 1 _ (by rfl))) hN
    have hkc : (chunksL R wd l).length ≤ cK := by have q := (row_len (hp.at_ 0 _ (by rfl))).2; rw [hdrsL_len] at q; rw [chunksL_len]; exact q
    obtain ⟨k_2, hk_k_2⟩ := Ev.rounds (isMagicR_ev (chunks_rect hR hR3 hw4 hN) (chunks_pos hR hw hN))
    refine sx_call 8 (by rfl) (by kernel_rfl) ((impl_isMagic.calls k_2 AK cK (chunksL R wd l) _ _ hkC hkc hk_k_2).mono ?_)
    rintro _ W_3 ⟨rfl, hb⟩
    refine ⟨_, rfl, ?_⟩
    replace hp := hp.below hb
    clear hb
    refine sx_rd 9 (.bool (!(magicB (chunksL R wd l)))) (by rfl) (by kernel_rfl) ?_
    refine sx_nil ?_
    refine ex_then_n ?_
    refine sx_cond (!(magicB (chunksL R wd l))) (by rfl) (fun c_4 => ?_) (fun c_4 => ?_)
    ·
      refine wp_ret ?_
      refine ex_then_r ?_
      refine sx_end (.tuple #[]) (res0 (by rfl)) ?_
      have hs : stepM R wd (b, m) l = (b, m) := if_neg (by rw [(not_eq c_4)]; exact Bool.false_ne_true)
      rw [hs]
      exact ⟨_, _, _, rfl, fun q => (hbne q).elim, (hp.take [3, 4, 5, 6, 2] 7 (by decide) (by simp))⟩
    ·
      refine wp_skip ?_
      refine ex_then_n ?_
      refine wp_seq ?_
      refine sx_region ?_
      refine sx_rd 10 (.int .i64 (m : Int)) (by rfl) (ld1 (t := 3) (p := (.tmp 2)) (by rfl) (by rfl) (by kernel_rfl) (hp.cell 3 (by rfl) 0 _ (by rfl))) ?_
      refine sx_rd 11 (.int .i64 ((m : Int) + 1)) (by rfl) (wr_ok (by omega) (by kernel_rfl)) ?_
      refine sx_store (t := 3) (p := (.tmp 2)) (x := (.tmp 11)) (by rfl) (by rfl) 3 (by rfl) 0 [.int .i64 ((m : Int) + 1)] (by rfl) (by rfl) (by kernel_rfl) (by simp [Value.oneCell']) (by show 1 ≤ 1; omega) #[.int .i64 ((m : Int) + 1)] (by rfl) hp ?_
      intro W_5 hp; simp only [List.set_cons_succ, List.set_cons_zero] at hp
      refine sx_nil ?_
      refine ex_then_n ?_
      refine wp_seq ?_
      refine sx_region ?_
      refine sx_rd 12 (.slice (some ⟨gb, 0, none⟩) b.length cb) (by rfl) (ld1 (t := 39) (p := (.tmp 3)) (by rfl) (by rfl) (by kernel_rfl) (hp.cell 4 (by rfl) 0 _ (by rfl))) ?_
      refine sx_rd 13 (.bool false) (by rfl) (by kernel_rfl) ?_
      refine sx_rd 14 (.bool false) (by rfl) (by kernel_rfl) ?_
      refine sx_want (by rfl) ?_
      refine sx_rd 15 (.slice (some ⟨gl, 0, none⟩) l.length cl) (by rfl) (by kernel_rfl) ?_
      refine sx_want (by rfl) ?_
      refine sx_rd 16 (.slice (some ⟨gb, 0, none⟩) b.length cb) (by rfl) (ld1 (t := 39) (p := (.tmp 3)) (by rfl) (by rfl) (by kernel_rfl) (hp.cell 4 (by rfl) 0 _ (by rfl))) ?_
      refine sx_want (by rfl) ?_
      obtain ⟨k_6, hk_k_6⟩ := Ev.rounds (compareL_ev l b hlb.symm (by omega))
      refine sx_call 17 (by rfl) (by kernel_rfl) ((slices_Compare_int_int.calls k_6 (some ⟨gl, 0, none⟩) cl l (some ⟨gb, 0, none⟩) cb b _ _ (row_C (hp.at_ 1 _ (by rfl))) (row_len (hp.at_ 1 _ (by rfl))).2 (row_C (hp.at_ 5 _ (by rfl))) (row_len (hp.at_ 5 _ (by rfl))).2 hk_k_6).mono ?_)
      rintro _ W_7 ⟨rfl, hb⟩
      refine ⟨_, rfl, ?_⟩
      replace hp := hp.below hb.below
      clear hb
      refine sx_want (by rfl) ?_
      refine sx_rd 18 (.bool (decide ((cmpL l b) < 0))) (by rfl) (by kernel_rfl) ?_
      refine sx_rd 19 (.bool (decide ((cmpL l b) < 0))) (by rfl) (by kernel_rfl) ?_
      refine sx_nil ?_
      refine ex_then_n ?_
      refine sx_cond (decide ((cmpL l b) < 0)) (by rfl) (fun c_8 => ?_) (fun c_8 => ?_)
      ·
        have c_8p := of_decide_eq_true c_8
        refine sx_region ?_
        refine sx_rd 20 (.slice (some ⟨gl, 0, none⟩) l.length cl) (by rfl) (by kernel_rfl) ?_
        refine sx_store (t := 39) (p := (.tmp 3)) (x := (.tmp 20)) (by rfl) (by rfl) 4 (by rfl) 0 [.slice (some ⟨gl, 0, none⟩) l.length cl] (by rfl) (by rfl) (by kernel_rfl) (by simp [Value.oneCell']) (by show 1 ≤ 1; omega) #[.slice (some ⟨gl, 0, none⟩) l.length cl] (by rfl) hp ?_
        intro W_9 hp; simp only [List.set_cons_succ, List.set_cons_zero] at hp
        refine sx_nil ?_
        refine sx_end_n (.tuple #[]) (res0 (by rfl)) ?_
        have hs : stepM R wd (b, m) l = (l, (m + 1)) := (if_pos (not_eq c_4)).trans (if_pos (.inr c_8p))
        rw [hs]
        exact ⟨_, _, _, rfl, fun q => (hlne q).elim, (hp.take [3, 4, 1, 6, 2] 7 (by decide) (by simp))⟩
      ·
        have c_8p := of_decide_eq_false c_8
        refine wp_skip ?_
        refine sx_end_n (.tuple #[]) (res0 (by rfl)) ?_
        have hs : stepM R wd (b, m) l = (b, (m + 1)) := (if_pos (not_eq c_4)).trans (if_neg (fun q => q.elim hbne c_8p))
        rw [hs]
        exact ⟨_, _, _, rfl, fun q => (hbne q).elim, (hp.take [3, 4, 5, 6, 2] 7 (by decide) (by simp))⟩
end Go.Proofs.Ytbkaedmabdgdhaa.Hd
