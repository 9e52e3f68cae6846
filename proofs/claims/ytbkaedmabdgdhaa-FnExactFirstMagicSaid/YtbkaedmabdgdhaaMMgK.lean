/- (*spec.wiMagic).look, by hand. -/
import Derived.Test.YtbkaedmabdgdhaaPMgB
import Derived.Test.YtbkaedmabdgdhaaMSxW
import Derived.Test.YtbkaedmabdgdhaaMSx3
import Derived.Test.YtbkaedmabdgdhaaMTileR
import Derived.Test.YtbkaedmabdgdhaaMSxM
import Derived.Test.YtbkaedmabdgdhaaMSxS
namespace Go.Proofs.Ytbkaedmabdgdhaa.Hd
open Go Go.RowKit Go.Proofs.YtbkaedmabdgdhaaW.PrintWords Go.Proofs.YtbkaedmabdgdhaaW.PrintLast Go.Proofs.YtbkaedmabdgdhaaW.PrintMore
set_option linter.unusedVariables false
section
variable {P : Program} {N : Nat} {s : List (Nat × Value)} {o o2 : Oper} {rest : List Oper} {ops : Array Oper} {Q : Exit → Act → World → Prop} {W w0 : World} {cs : List Chunk} {α : Type}
theorem sx_blit (q : Nat) (hk : okB o q N = true) {hv : Value} {e : TypeId} (hr : ∀ W : World, (execOp (evl N s) o).run P W = .ok (.value (.slice (some ⟨W.heap.size, 0, none⟩) 1 1)) (W.alloc (.cells #[hv] e (0, 0)))) (hp : Hp w0 cs W)
    (h : ∀ g W', Hp w0 (blk g #[hv] e :: cs) W' → WL P ops Q rest (fr N ((q, .slice (some ⟨g, 0, none⟩) 1 1) :: s)) W') : WL P ops Q (o :: rest) (fr N s) W :=
  sx_val q _ hk (hr W) (h W.heap.size _ (hp.add (Mv.quiet (below_alloc (Below.refl _ _) _)) (blk _ _ _) (heap_alloc_new W _) (fun k hk => by have : k = W.heap.size := hk; omega)))
theorem sx_pushP (q2 : Nat) (hk2 : okB o2 q2 N = true) {di : Kd α} {ei e base g : Nat} {v hv : Value} {xs : List (List α)} {ys : List α} {F G : Nat → Prop} {T : TypeId}
    {S X : Operand} {t : TypeId} (z : Value) (bytes : Nat) (ho : o2.op = .call { callee := .builtin .append, args := #[S, X], argTypes := #[t, t] }) (ht : P.underlying t = some (.slice e)) (hinfo : (P.info? e).map (fun i => (i.zero, i.size, i.bytes)) = some (some z, 1, bytes)) (hz : z.cells.size = 1) (hb0 : 0 < bytes)
    (hs : evl N s S = v) (hx : evl N s X = .slice (some ⟨g, 0, none⟩) 1 1)
    (hbase : base ≤ W.heap.size) (hl : (xs.length + 1) * bytes ≤ 140737488355328) (hp : Hp w0 (rowS (Kd.slice ei di) e base v xs F :: row di ei base hv ys G :: blk g #[hv] T :: cs) W)
    (h : ∀ A' c' F' W', Hp w0 (rowS (Kd.slice ei di) e base (.slice A' (xs ++ [ys]).length c') (xs ++ [ys]) F' :: blk g #[hv] T :: cs) W' → WL P ops Q rest (fr N ((q2, .slice A' (xs ++ [ys]).length c') :: s)) W') : WL P ops Q (o2 :: rest) (fr N s) W := by
  refine ⟨?_⟩
  obtain ⟨h1, h2, h3⟩ := okB_spec hk2
  have hS := hp.at_ 0 _ rfl
  have hR := hp.at_ 1 _ rfl
  have hap : ∀ k, F k → G k → False := fun k a b => hp.ap 0 1 _ _ (by omega) rfl rfl k a b
  have hown : ∀ k, G k → some k ≠ v.ownBlock := fun k hk e => hap k (by obtain ⟨f, hf, _⟩ := hS.1; exact hf k e.symm) hk
  obtain ⟨f, hf, hT⟩ := Kd.S_tag hS.1 xs.length G (fun k hk hF => hap k hF hk)
  have hM : (Kd.slice ei di).M W base G ys [hv] := ⟨hv, rfl, hR.1⟩
  refine Kd.R_append_rows (Kd.tag f (Kd.slice ei di)) (Rr := fun x cs => x = (ys, xs.length) ∧ cs = [hv]) (w0 := W) (W := W) base h1 S X t e z bytes ho ht hinfo hz (Nat.lt_succ_self 0) hb0 v xs.zipIdx [(ys, xs.length)] (some ⟨g, 0, none⟩) 1 1 (fun k => F k ∨ G k ∨ W.heap.size ≤ k) G (by rw [fr_eval]; exact hs) (by rw [fr_eval]; exact hx)
    (Kd.R_mono hT (fun k hk => .inl hk)) ⟨rfl, by omega, fun _ => ⟨_, rfl, fun j p hj => ?_⟩⟩ (fun x cs hx => ?_) (fun k hk => ⟨.inr (.inl hk), hown k hk⟩) (fun k hk => .inr (.inr hk)) (Below.refl _ _) hbase (by rw [List.length_zipIdx]; exact hl) ?_
  · cases j with
    | succ j => simp at hj
    | zero =>
      injection hj with hj
      refine ⟨[hv], rfl, ⟨hj.symm, rfl⟩, fun i u hu => ?_⟩
      cases i with
      | succ i => simp at hu
      | zero =>
        injection hu with hu
        subst hu
        exact hp.cell 2 (by rfl) 0 _ rfl
  · obtain ⟨rfl, rfl⟩ := hx
    exact (Kd.slice ei di).M_mono (fun k hk => ⟨hk, hf k hk⟩) hM
  intro v1 w1 hr hB hG hat
  rw [← Kd.zip_snoc] at hr
  have hS1 : Kd.S (Kd.slice ei di) e w1 base (fun k => F k ∨ G k ∨ W.heap.size ≤ k) v1 (xs ++ [ys]) := ⟨f, hr⟩
  obtain ⟨A', c', rfl, hc'⟩ := Kd.S_reads hS1
  rw [h2, fr_put _ _ h3]
  refine (h A' c' (fun k => (F k ∨ G k ∨ W.heap.size ≤ k) ∧ base ≤ k ∧ k < w1.heap.size) w1 ?_).out
  exact hp.join.upd 0 _ (rowS (Kd.slice ei di) e base (.slice A' (xs ++ [ys]).length c') (xs ++ [ys]) (fun k => (F k ∨ G k ∨ W.heap.size ≤ k) ∧ base ≤ k ∧ k < w1.heap.size)) rfl ((Mv.of_grown hG).mono (fun k hk => .inl (by obtain ⟨f, hf, _⟩ := hS.1; exact hf k hk))) ⟨Kd.S_mono (Kd.S_bound hS1) (fun k hk => ⟨hk.1, hk.2.1, hk.2.2.1⟩), fun k hk => hk.2.2⟩ (fun k hk => hk.1.elim (fun a => .inl (.inl a)) (fun a => a.elim (fun b => .inl (.inr b)) .inr))
end
end Go.Proofs.Ytbkaedmabdgdhaa.Hd
namespace Go.Proofs.Ytbkaedmabdgdhaa.Hd
open Go.RowKit Go.Proofs.Ytbkaedmabdgdhaa.Pure Go.Proofs.YtbkaedmabdgdhaaW.PrintWords Go.Proofs.YtbkaedmabdgdhaaW.PrintLast Go.Proofs.YtbkaedmabdgdhaaW.PrintMore
set_option linter.unusedVariables false
set_option linter.unusedSimpArgs false
set_option maxRecDepth 100000 in
set_option maxHeartbeats 40000000 in
theorem lookM_sx (g R wd : Nat) (hw : 1 ≤ wd) (hw4 : wd ≤ 4) (hR : 1 ≤ R) (hR3 : R ≤ 3) : ∀ (d : Nat) (w0 W : World) (cs : List Chunk) (H : List S_Tile) (AH : Option Addr) (cH : Nat) (hHd : H.length = d) (hnd : H.Nodup) (hgd : ∀ t ∈ H, goodT t = true) (hcH : H.length ≤ cH) (hH : ∀ W, Hp w0 cs W → Kd.C k50 W AH H.length H) (l : List Int) (Al : Option Addr) (cl : Nat) (hl : l.length + 2 * d = R * wd) (hcl : l.length ≤ cl) (hL : ∀ W, Hp w0 cs W → Kd.C (Kd.int .i64) W Al l.length l)
  (s : List (List Int) × Nat) (Ao : Option Addr) (co : Nat) (Fo : Nat → Prop) (hbd : ((lookS (stepF R wd) stpE d l H s)).2 ≤ 1000000000) (hp : Hp w0 (blk g #[.int .i64 (R : Int), .int .i64 (wd : Int), .int .i64 (s.2 : Int), .slice Ao s.1.length co] 48 :: rowS (Kd.slice 3 (Kd.int .i64)) 39 w0.heap.size (.slice Ao s.1.length co) s.1 Fo :: cs) W),
  Calls Try.prog 42 #[.pointer (some ⟨g, 0, none⟩), .slice AH H.length cH, .slice Al l.length cl] W fun e W' => ∃ A' c' F', e = .returned (.tuple #[]) ∧ Hp w0 (blk g #[.int .i64 (R : Int), .int .i64 (wd : Int), .int .i64 ((lookS (stepF R wd) stpE d l H s).2 : Int), .slice A' ((lookS (stepF R wd) stpE d l H s).1.length) c'] 48 :: rowS (Kd.slice 3 (Kd.int .i64)) 39 w0.heap.size (.slice A' ((lookS (stepF R wd) stpE d l H s).1.length) c') ((lookS (stepF R wd) stpE d l H s).1) F' :: cs) W' := by
 intro d
 induction d using Nat.strongRecOn with
 | ind d ih =>
  intro w0 W cs H AH cH hHd hnd hgd hcH hH l Al cl hl hcl hL s Ao co Fo hbd hp
  have hRw : R * wd ≤ 12 := Nat.le_trans (Nat.mul_le_mul hR3 hw4) (by omega)
  refine sx_enter (N := 92) (l := [.pointer (some ⟨g, 0, none⟩), .slice AH H.length cH, .slice Al l.length cl]) Try.func42 rfl rfl rfl ?_
  refine wp_seq ?_
  refine wp_seq ?_
  refine sx_region ?_
  refine sx_rd 11 (.slice AH H.length cH) (by rfl) (by kernel_rfl) ?_
  refine sx_rd 12 (.int .i64 (H.length : Int)) (by rfl) (by kernel_rfl) ?_
  refine sx_rd 13 (.bool ((H.length : Int) == 0)) (by rfl) (by kernel_rfl) ?_
  refine sx_nil ?_
  refine ex_then_n ?_
  refine sx_cond ((H.length : Int) == 0) (by rfl) (fun c_1 => ?_) (fun c_1 => ?_)
  ·
   have c_1p := eq_of_beq_ c_1
   have hst1 : stpE l H = true := decide_eq_true (by omega)
   have hbE := hbd
   rw [lookS_end _ _ _ _ _ _ hst1] at hbE
   have hbE2 := (stepF_q R wd s l).1
   have hN : R * wd = l.length := by omega
   have hchl := chunksL_len R wd l
   have hl12 : l.length ≤ 12 := by rw [← hN]; exact Nat.le_trans (Nat.mul_le_mul hR3 hw4) (by omega)
   refine wp_seq ?_
   refine sx_region ?_
   refine sx_rd 6 (.slice none 0 0) (by rfl) (by kernel_rfl) ?_
   refine sx_nil ?_
   refine ex_then_n ?_
   refine wp_seq ?_
   refine wp_seq ?_
   refine sx_region ?_
   refine sx_rd 7 (.int .i64 0) (by rfl) (by kernel_rfl) ?_
   refine sx_nil ?_
   refine ex_then_n ?_
   refine wp_block ?_
   have hp := hp.nilrowS (Kd.slice 3 (Kd.int .i64)) 39 w0.heap.size
   have e0_2 : ([] : List (List Int)) = ((chunksL R wd l).take 0) := rfl
   have hp : Hp w0 (rowS (Kd.slice 3 (Kd.int .i64)) 39 w0.heap.size (.slice none 0 0) ((chunksL R wd l).take 0) (fun _ => False) :: blk g #[.int .i64 (R : Int), .int .i64 (wd : Int), .int .i64 (s.2 : Int), .slice Ao s.1.length co] 48 :: rowS (Kd.slice 3 (Kd.int .i64)) 39 w0.heap.size (.slice Ao s.1.length co) s.1 Fo :: cs) W := by rw [← e0_2]; exact hp
   refine wp_loop_ghost (fun n_ a_ W => ∃ (r_ : List (Nat × Value)) (i : Nat) (Ai6 : Option Addr) (ni6 ci6 : Nat) (Fi6 : Nat → Prop), n_ = R - i ∧ a_ = fr 92 ([(0, .pointer (some ⟨g, 0, none⟩)), (2, .slice Al l.length cl), (6, .slice Ai6 ni6 ci6), (7, .int .i64 (i : Int))] ++ r_) ∧ Hp w0 (rowS (Kd.slice 3 (Kd.int .i64)) 39 w0.heap.size (.slice Ai6 ni6 ci6) ((chunksL R wd l).take i) Fi6 :: blk g #[.int .i64 (R : Int), .int .i64 (wd : Int), .int .i64 (s.2 : Int), .slice Ao s.1.length co] 48 :: rowS (Kd.slice 3 (Kd.int .i64)) 39 w0.heap.size (.slice Ao s.1.length co) s.1 Fo :: cs) W ∧ (i ≤ R)) _ ⟨_, 0, _, _, _, _, rfl, fr_front [(0, .pointer (some ⟨g, 0, none⟩)), (2, .slice Al l.length cl), (6, .slice none 0 0), (7, .int .i64 0)] ⟨rfl, rfl, rfl, rfl, trivial⟩, (hp.take [0, 1, 2] 3 (by decide) (by simp)), Nat.zero_le _⟩ ?_
   rintro _ _ W_3 ⟨r_, i, Ai6, ni6, ci6, Fi6, rfl, rfl, hp, hi⟩
   obtain ⟨rfl, hcci6⟩ := rowS_len (hp.at_ 0 _ (by rfl))
   have hol : ((chunksL R wd l).take i).length ≤ i := by rw [List.length_take]; omega
   refine wp_seq ?_
   refine wp_seq ?_
   refine sx_region ?_
   refine sx_rd 14 (.int .i64 (i : Int)) (by rfl) (by kernel_rfl) ?_
   refine sx_rd 15 (.pointer (some ⟨g, 0, none⟩)) (by rfl) (by kernel_rfl) ?_
   refine sx_rd 16 (.pointer (some ⟨g, 0, none⟩)) (by rfl) (by kernel_rfl) ?_
   refine sx_rd 17 (.pointer (some ⟨g, 0, none⟩)) (by rfl) (by kernel_rfl) ?_
   refine sx_rd 18 (.int .i64 (R : Int)) (by rfl) (ld1 (t := 3) (p := (.tmp 17)) (by rfl) (by rfl) (by kernel_rfl) (hp.cell 1 (by rfl) 0 _ (by rfl))) ?_
   refine sx_rd 19 (.bool (decide ((i : Int) < (R : Int)))) (by rfl) (by kernel_rfl) ?_
   refine sx_nil ?_
   refine ex_then_n ?_
   refine sx_cond (decide ((i : Int) < (R : Int))) (by rfl) (fun c_4 => ?_) (fun c_4 => ?_)
   ·
    have c_4p := of_decide_eq_true c_4
    obtain ⟨hq1, hq2⟩ := chunk_le hN (j := i) (by omega)
    refine wp_skip ?_
    refine ex_then_n ?_
    refine wp_seq ?_
    refine wp_block ?_
    refine sx_drawT [0, 1, 2, 3, 4, 5, 8, 9, 10, 11, 12] (.rd 6 (.rd 7 (.rd 13 (.rd 14 (.alt 15 (.alt 16 (.alt 17 (.fin) .non) .non) .non))))) 18 (C := Hp w0 (rowS (Kd.slice 3 (Kd.int .i64)) 39 w0.heap.size (.slice Ai6 (((chunksL R wd l).take i).length) ci6) ((chunksL R wd l).take i) Fi6 :: blk g #[.int .i64 (R : Int), .int .i64 (wd : Int), .int .i64 (s.2 : Int), .slice Ao s.1.length co] 48 :: rowS (Kd.slice 3 (Kd.int .i64)) 39 w0.heap.size (.slice Ao s.1.length co) s.1 Fo :: cs)) (by kernel_rfl) (by kernel_rfl) (fun d _ _ _ _ h => by cases d <;> exact h) (fun W h => h.drew) hp ?_
    refine preI_read rfl ?_
    refine sxq_val 22 (.slice Ai6 (((chunksL R wd l).take i).length) ci6) (by rfl) (fun W _ => (by kernel_rfl)) ?_
    refine sxq_nil ?_
    refine preI_read rfl ?_
    refine sxq_val 23 (.slice Al l.length cl) (by rfl) (fun W _ => (by kernel_rfl)) ?_
    refine sxq_nil ?_
    refine preI_read rfl ?_
    refine sxq_val 24 (.int .i64 (i : Int)) (by rfl) (fun W _ => (by kernel_rfl)) ?_
    refine sxq_nil ?_
    refine preI_read rfl ?_
    refine sxq_val 25 (.pointer (some ⟨g, 0, none⟩)) (by rfl) (fun W _ => (by kernel_rfl)) ?_
    refine sxq_nil ?_
    refine preI_read rfl ?_
    refine sxq_val 26 (.pointer (some ⟨g, 0, none⟩)) (by rfl) (fun W _ => (by kernel_rfl)) ?_
    refine sxq_nil ?_
    refine preI_read rfl ?_
    refine sxq_val 27 (.pointer (some ⟨g, 1, none⟩)) (by rfl) (fun W _ => (by kernel_rfl)) ?_
    refine sxq_nil ?_
    refine preI_read rfl ?_
    refine sxq_val 30 (.int .i64 (i : Int)) (by rfl) (fun W _ => (by kernel_rfl)) ?_
    refine sxq_nil ?_
    refine preI_read rfl ?_
    refine sxq_val 31 (.int .i64 ((i : Int) + 1)) (by rfl) (fun W _ => (wr_ok (by omega) (by kernel_rfl))) ?_
    refine sxq_nil ?_
    refine preI_read rfl ?_
    refine sxq_val 32 (.pointer (some ⟨g, 0, none⟩)) (by rfl) (fun W _ => (by kernel_rfl)) ?_
    refine sxq_nil ?_
    refine preI_read rfl ?_
    refine sxq_val 33 (.pointer (some ⟨g, 0, none⟩)) (by rfl) (fun W _ => (by kernel_rfl)) ?_
    refine sxq_nil ?_
    refine preI_read rfl ?_
    refine sxq_val 34 (.pointer (some ⟨g, 1, none⟩)) (by rfl) (fun W _ => (by kernel_rfl)) ?_
    refine sxq_nil ?_
    refine preI_nil ?_
    intro W_5 hp
    refine treeI_rd rfl ?_
    refine sxq_val 28 (.int .i64 (wd : Int)) (by rfl) (fun W hp => (ld1 (t := 3) (p := (.tmp 27)) (by rfl) (by rfl) (by kernel_rfl) (hp.cell 1 (by rfl) 1 _ (by rfl)))) ?_
    refine sxq_nil ?_
    refine treeI_rd rfl ?_
    refine sxq_val 29 (.int .i64 ((i * wd : Nat) : Int)) (by rfl) (fun W hp => (mul_run (by rfl) (by rfl) (by rfl) (Int.natCast_mul i wd).symm (by omega))) ?_
    refine sxq_nil ?_
    refine treeI_rd rfl ?_
    refine sxq_val 35 (.int .i64 (wd : Int)) (by rfl) (fun W hp => (ld1 (t := 3) (p := (.tmp 34)) (by rfl) (by rfl) (by kernel_rfl) (hp.cell 1 (by rfl) 1 _ (by rfl)))) ?_
    refine sxq_nil ?_
    refine treeI_rd rfl ?_
    refine sxq_val 36 (.int .i64 (((i + 1) * wd : Nat) : Int)) (by rfl) (fun W hp => (mul_run (by rfl) (by rfl) (by rfl) (Int.natCast_mul (i + 1) wd).symm (by omega))) ?_
    refine sxq_nil ?_
    refine treeI_ev rfl ?_
    have hcap_6 : l.length ≤ cl := hcl
    refine sx_rd 37 (.slice (if cl = (i * wd : Nat) then Al else Option.map (fun x => x.add ((i * wd : Nat) * 1)) Al) (((l.take ((i + 1) * wd : Nat)).drop (i * wd : Nat)).length) (cl - (i * wd : Nat))) (by rfl) (sl_lh (i * wd : Nat) ((i + 1) * wd : Nat) (sz := 1) (xs := l) (by rfl) (by rfl) (by rfl) (by omega) (by rfl) (by omega) Try.underlying39 (by kernel_rfl) (by omega) (by omega) hcap_6) ?_
    refine step_fin hp ?_
    refine treeI_ev rfl ?_
    refine sx_call 38 (by rfl) (by kernel_rfl) ((spec_l1Own.calls (if cl = (i * wd : Nat) then Al else Option.map (fun x => x.add ((i * wd : Nat) * 1)) Al) (cl - (i * wd : Nat)) ((l.take ((i + 1) * wd : Nat)).drop (i * wd : Nat)) _ _ (Kd.C_drop (Kd.C_take (hL _ hp.tail.tail.tail) (by omega)) (by simp; omega) (show (l.take ((i + 1) * wd : Nat)).length ≤ cl by simp; omega)) (show ((l.take ((i + 1) * wd : Nat)).drop (i * wd : Nat)).length ≤ cl - (i * wd : Nat) by simp; omega) (l1Own_eq ((l.take ((i + 1) * wd : Nat)).drop (i * wd : Nat)) (by first | omega | (simp; omega)))).mono ?_)
    rintro _ W_12 ⟨v_8, rfl, hR_7, hb⟩
    refine ⟨_, rfl, ?_⟩
    obtain ⟨A_9, c_10, rfl, hcc_c_10, _⟩ := Kd.R_reads hR_7
    obtain ⟨F_11, hp⟩ : ∃ F, Hp w0 (row (Kd.int .i64) 3 w0.heap.size (.slice A_9 ((l.take ((i + 1) * wd : Nat)).drop (i * wd : Nat)).length c_10) ((l.take ((i + 1) * wd : Nat)).drop (i * wd : Nat)) F :: rowS (Kd.slice 3 (Kd.int .i64)) 39 w0.heap.size (.slice Ai6 (((chunksL R wd l).take i).length) ci6) ((chunksL R wd l).take i) Fi6 :: blk g #[.int .i64 (R : Int), .int .i64 (wd : Int), .int .i64 (s.2 : Int), .slice Ao s.1.length co] 48 :: rowS (Kd.slice 3 (Kd.int .i64)) 39 w0.heap.size (.slice Ao s.1.length co) s.1 Fo :: cs) _ := ⟨_, Hp.made hp hb hR_7⟩
    refine step_fin hp.tail ?_
    refine treeI_ev rfl ?_
    refine sx_blit 39 (by rfl) (hv := .slice A_9 (((l.take ((i + 1) * wd : Nat)).drop (i * wd : Nat)).length) c_10) (e := 39) (fun W => by kernel_rfl) hp ?_
    intro g_13 W_14 hp
    refine step_fin hp.tail.tail ?_
    refine treeI_fin ?_
    refine tail_of [18, 19] (by rfl) ?_
    refine tailI_op rfl ?_
    have hp := (hp.take [2, 1, 0, 3, 4] 5 (by decide) (by simp))
    refine sx_pushP 40 (by rfl) (t := 30) (.slice none 0 0) 24 (by rfl) Try.underlying30 (by kernel_rfl) rfl (by decide) (by rfl) (by rfl) hp.size (by omega) hp ?_
    intro A_15 c_16 F_17 W_18 hp
    refine tailI_next ?_
    refine tailI_op rfl ?_
    refine sx_rd 6 (.slice A_15 ((((chunksL R wd l).take i) ++ [((l.take ((i + 1) * wd : Nat)).drop (i * wd : Nat))]).length) c_16) (by rfl) (by kernel_rfl) ?_
    refine tailI_next ?_
    refine tailI_nil ?_
    refine ex_blk_n ?_
    refine ex_then_n ?_
    refine sx_region ?_
    refine sx_rd 20 (.int .i64 (i : Int)) (by rfl) (by kernel_rfl) ?_
    refine sx_rd 21 (.int .i64 ((i : Int) + 1)) (by rfl) (wr_ok (by omega) (by kernel_rfl)) ?_
    refine sx_rd 7 (.int .i64 ((i : Int) + 1)) (by rfl) (by kernel_rfl) ?_
    refine sx_nil ?_
    refine ex_then_n ?_
    have hq_19 : (((chunksL R wd l).take i) ++ [((l.take ((i + 1) * wd : Nat)).drop (i * wd : Nat))]) = ((chunksL R wd l).take (i + 1)) := (chunk_push R wd l i (by omega))
    rw [hq_19] at hp
    exact ⟨_, (by omega), _, (i + 1), _, _, _, _, rfl, fr_front [(0, .pointer (some ⟨g, 0, none⟩)), (2, .slice Al l.length cl), (6, .slice A_15 (((chunksL R wd l).take (i + 1)).length) c_16), (7, .int .i64 ((i + 1 : Nat) : Int))] ⟨rfl, rfl, congrArg (fun z : List (List Int) => Value.slice A_15 z.length c_16) hq_19, rfl, trivial⟩, (hp.take [0, 2, 3] 4 (by decide) (by simp)), (by omega)⟩
   ·
    have c_4p := of_decide_eq_false c_4
    have hq : ((chunksL R wd l).take i) = (chunksL R wd l) := List.take_of_length_le (by omega)
    rw [hq] at hp
    rw [hq]
    refine wp_exit ?_
    refine ex_then_e (ex_then_e (ex_blk_here ?_))
    refine ex_then_n ?_
    refine wp_seq ?_
    refine wp_seq ?_
    rcases Bool.eq_false_or_eq_true (allEq (rowsV (chunksL R wd l))) with c_20 | c_20
    ·
     refine sx_region ?_
     refine sx_rd 41 (.slice Ai6 ((chunksL R wd l).length) ci6) (by rfl) (by kernel_rfl) ?_
     obtain ⟨k_21, hk_k_21⟩ := Ev.rounds (wiRows_ev (chunksL R wd l) (by omega) (chunks_le hw4 hN))
     refine sx_call 42 (by rfl) (by kernel_rfl) ((spec_wiRows.calls k_21 Ai6 ci6 (chunksL R wd l) _ _ (rowS_C (hp.at_ 0 _ (by rfl))) (rowS_len (hp.at_ 0 _ (by rfl))).2 hk_k_21).mono ?_)
     rintro _ W_27 ⟨v_23, rfl, hR_22, hb⟩
     refine ⟨_, rfl, ?_⟩
     obtain ⟨A_24, c_25, rfl, hcc_c_25, _⟩ := Kd.R_reads hR_22
     obtain ⟨F_26, hp⟩ : ∃ F, Hp w0 (row (Kd.int .i64) 3 w0.heap.size (.slice A_24 (rowsV (chunksL R wd l)).length c_25) (rowsV (chunksL R wd l)) F :: rowS (Kd.slice 3 (Kd.int .i64)) 39 w0.heap.size (.slice Ai6 ((chunksL R wd l).length) ci6) (chunksL R wd l) Fi6 :: blk g #[.int .i64 (R : Int), .int .i64 (wd : Int), .int .i64 (s.2 : Int), .slice Ao s.1.length co] 48 :: rowS (Kd.slice 3 (Kd.int .i64)) 39 w0.heap.size (.slice Ao s.1.length co) s.1 Fo :: cs) _ := ⟨_, Hp.made hp hb hR_22⟩
     obtain ⟨k_28, hk_k_28⟩ := Ev.rounds (equal_ev (rowsV (chunksL R wd l)) (by rw [rowsV_len]; omega))
     refine sx_call 43 (by rfl) (by kernel_rfl) ((spec_wiEqual.calls k_28 A_24 c_25 (rowsV (chunksL R wd l)) _ _ (row_C (hp.at_ 0 _ (by rfl))) (row_len (hp.at_ 0 _ (by rfl))).2 hk_k_28).mono ?_)
     rintro _ W_29 ⟨rfl, hb⟩
     refine ⟨.bool true, congrArg (fun b => Ending.returned (.bool b)) c_20, ?_⟩
     replace hp := hp.below hb.below
     clear hb
     refine sx_rd 44 (.bool true) (by rfl) (by kernel_rfl) ?_
     refine sx_want (by rfl) ?_
     refine sx_rd 45 (.slice Ai6 ((chunksL R wd l).length) ci6) (by rfl) (by kernel_rfl) ?_
     refine sx_want (by rfl) ?_
     obtain ⟨k_30, hk_k_30⟩ := Ev.rounds (wiColumnsR_ev (chunks_rect hR hR3 hw4 hN))
     refine sx_call 46 (by rfl) (by kernel_rfl) ((spec_wiColumns.calls k_30 Ai6 ci6 (chunksL R wd l) _ _ (rowS_C (hp.at_ 1 _ (by rfl))) (rowS_len (hp.at_ 1 _ (by rfl))).2 hk_k_30).mono ?_)
     rintro _ W_36 ⟨v_32, rfl, hR_31, hb⟩
     refine ⟨_, rfl, ?_⟩
     obtain ⟨A_33, c_34, rfl, hcc_c_34, _⟩ := Kd.R_reads hR_31
     obtain ⟨F_35, hp⟩ : ∃ F, Hp w0 (row (Kd.int .i64) 3 w0.heap.size (.slice A_33 (colsV (chunksL R wd l)).length c_34) (colsV (chunksL R wd l)) F :: row (Kd.int .i64) 3 w0.heap.size (.slice A_24 ((rowsV (chunksL R wd l)).length) c_25) (rowsV (chunksL R wd l)) F_26 :: rowS (Kd.slice 3 (Kd.int .i64)) 39 w0.heap.size (.slice Ai6 ((chunksL R wd l).length) ci6) (chunksL R wd l) Fi6 :: blk g #[.int .i64 (R : Int), .int .i64 (wd : Int), .int .i64 (s.2 : Int), .slice Ao s.1.length co] 48 :: rowS (Kd.slice 3 (Kd.int .i64)) 39 w0.heap.size (.slice Ao s.1.length co) s.1 Fo :: cs) _ := ⟨_, Hp.made hp hb hR_31⟩
     refine sx_want (by rfl) ?_
     obtain ⟨k_37, hk_k_37⟩ := Ev.rounds (equal_ev (colsV (chunksL R wd l)) (by rw [colsV_len]; have := (chunks_rect hR hR3 hw4 hN).2 _ (chunks_mem0 (l := l) (wd := wd) hR); omega))
     refine sx_call 47 (by rfl) (by kernel_rfl) ((spec_wiEqual.calls k_37 A_33 c_34 (colsV (chunksL R wd l)) _ _ (row_C (hp.at_ 0 _ (by rfl))) (row_len (hp.at_ 0 _ (by rfl))).2 hk_k_37).mono ?_)
     rintro _ W_38 ⟨rfl, hb⟩
     refine ⟨_, rfl, ?_⟩
     replace hp := hp.below hb.below
     clear hb
     refine sx_rd 48 (.bool (allEq (colsV (chunksL R wd l)))) (by rfl) (by kernel_rfl) ?_
     refine sx_nil ?_
     refine ex_then_n ?_
     refine sx_cond (allEq (colsV (chunksL R wd l))) (by rfl) (fun c_39 => ?_) (fun c_39 => ?_)
     ·
      refine wp_seq ?_
      refine wp_seq ?_
      refine sx_region ?_
      refine sx_rd 49 (.pointer (some ⟨g, 0, none⟩)) (by rfl) (by kernel_rfl) ?_
      refine sx_rd 50 (.pointer (some ⟨g, 0, none⟩)) (by rfl) (by kernel_rfl) ?_
      refine sx_rd 51 (.pointer (some ⟨g, 2, none⟩)) (by rfl) (by kernel_rfl) ?_
      refine sx_rd 52 (.int .i64 (s.2 : Int)) (by rfl) (ld1 (t := 3) (p := (.tmp 51)) (by rfl) (by rfl) (by kernel_rfl) (hp.cell 3 (by rfl) 2 _ (by rfl))) ?_
      refine sx_rd 53 (.bool ((s.2 : Int) == 0)) (by rfl) (by kernel_rfl) ?_
      refine sx_nil ?_
      refine ex_then_n ?_
      refine sx_cond ((s.2 : Int) == 0) (by rfl) (fun c_40 => ?_) (fun c_40 => ?_)
      ·
       have c_40p := eq_of_beq_ c_40
       refine sx_region ?_
       refine sx_rd 54 (.pointer (some ⟨g, 0, none⟩)) (by rfl) (by kernel_rfl) ?_
       refine sx_rd 55 (.slice Ai6 ((chunksL R wd l).length) ci6) (by rfl) (by kernel_rfl) ?_
       refine sx_rd 56 (.pointer (some ⟨g, 0, none⟩)) (by rfl) (by kernel_rfl) ?_
       refine sx_rd 57 (.pointer (some ⟨g, 3, none⟩)) (by rfl) (by kernel_rfl) ?_
       refine sx_store (t := 30) (p := (.tmp 57)) (x := (.tmp 55)) (by rfl) (by rfl) 3 (by rfl) 3 [.slice Ai6 ((chunksL R wd l).length) ci6] (by rfl) (by rfl) (by kernel_rfl) (by simp [Value.oneCell']) (by show 4 ≤ 4; omega) #[.int .i64 (R : Int), .int .i64 (wd : Int), .int .i64 (s.2 : Int), .slice Ai6 ((chunksL R wd l).length) ci6] (by rfl) hp ?_
       intro W_41 hp; simp only [List.set_cons_succ, List.set_cons_zero] at hp
       refine sx_nil ?_
       refine ex_then_n ?_
       refine sx_region ?_
       refine sx_rd 58 (.pointer (some ⟨g, 0, none⟩)) (by rfl) (by kernel_rfl) ?_
       refine sx_rd 59 (.pointer (some ⟨g, 0, none⟩)) (by rfl) (by kernel_rfl) ?_
       refine sx_rd 60 (.pointer (some ⟨g, 2, none⟩)) (by rfl) (by kernel_rfl) ?_
       refine sx_rd 61 (.int .i64 (s.2 : Int)) (by rfl) (ld1 (t := 3) (p := (.tmp 60)) (by rfl) (by rfl) (by kernel_rfl) (hp.cell 3 (by rfl) 2 _ (by rfl))) ?_
       refine sx_rd 62 (.int .i64 ((s.2 : Int) + 1)) (by rfl) (wr_ok (by omega) (by kernel_rfl)) ?_
       refine sx_rd 63 (.pointer (some ⟨g, 0, none⟩)) (by rfl) (by kernel_rfl) ?_
       refine sx_rd 64 (.pointer (some ⟨g, 2, none⟩)) (by rfl) (by kernel_rfl) ?_
       refine sx_store (t := 3) (p := (.tmp 64)) (x := (.tmp 62)) (by rfl) (by rfl) 3 (by rfl) 2 [.int .i64 ((s.2 : Int) + 1)] (by rfl) (by rfl) (by kernel_rfl) (by simp [Value.oneCell']) (by show 3 ≤ 4; omega) #[.int .i64 (R : Int), .int .i64 (wd : Int), .int .i64 ((s.2 : Int) + 1), .slice Ai6 ((chunksL R wd l).length) ci6] (by rfl) hp ?_
       intro W_42 hp; simp only [List.set_cons_succ, List.set_cons_zero] at hp
       refine sx_nil ?_
       refine ex_then_n ?_
       refine wp_ret ?_
       refine ex_then_r ?_
       refine sx_end (.tuple #[]) (res0 (by rfl)) ?_
       have hmg : magicB (chunksL R wd l) = true := by unfold magicB; rw [show (allEq (rowsV (chunksL R wd l))) = true from c_20, show (allEq (colsV (chunksL R wd l))) = true from c_39]; rfl
       have hs : stepF R wd s l = ((chunksL R wd l), (s.2 + 1)) := (if_pos hmg).trans (if_pos (by omega))
       rw [lookS_end _ _ _ _ _ _ hst1, hs]
       exact ⟨_, _, _, rfl, (hp.take [3, 2] 5 (by decide) (by simp))⟩
      ·
       have c_40p := ne_of_beq_ c_40
       refine wp_skip ?_
       refine ex_then_n ?_
       refine sx_region ?_
       refine sx_rd 58 (.pointer (some ⟨g, 0, none⟩)) (by rfl) (by kernel_rfl) ?_
       refine sx_rd 59 (.pointer (some ⟨g, 0, none⟩)) (by rfl) (by kernel_rfl) ?_
       refine sx_rd 60 (.pointer (some ⟨g, 2, none⟩)) (by rfl) (by kernel_rfl) ?_
       refine sx_rd 61 (.int .i64 (s.2 : Int)) (by rfl) (ld1 (t := 3) (p := (.tmp 60)) (by rfl) (by rfl) (by kernel_rfl) (hp.cell 3 (by rfl) 2 _ (by rfl))) ?_
       refine sx_rd 62 (.int .i64 ((s.2 : Int) + 1)) (by rfl) (wr_ok (by omega) (by kernel_rfl)) ?_
       refine sx_rd 63 (.pointer (some ⟨g, 0, none⟩)) (by rfl) (by kernel_rfl) ?_
       refine sx_rd 64 (.pointer (some ⟨g, 2, none⟩)) (by rfl) (by kernel_rfl) ?_
       refine sx_store (t := 3) (p := (.tmp 64)) (x := (.tmp 62)) (by rfl) (by rfl) 3 (by rfl) 2 [.int .i64 ((s.2 : Int) + 1)] (by rfl) (by rfl) (by kernel_rfl) (by simp [Value.oneCell']) (by show 3 ≤ 4; omega) #[.int .i64 (R : Int), .int .i64 (wd : Int), .int .i64 ((s.2 : Int) + 1), .slice Ao s.1.length co] (by rfl) hp ?_
       intro W_43 hp; simp only [List.set_cons_succ, List.set_cons_zero] at hp
       refine sx_nil ?_
       refine ex_then_n ?_
       refine wp_ret ?_
       refine ex_then_r ?_
       refine sx_end (.tuple #[]) (res0 (by rfl)) ?_
       have hmg : magicB (chunksL R wd l) = true := by unfold magicB; rw [show (allEq (rowsV (chunksL R wd l))) = true from c_20, show (allEq (colsV (chunksL R wd l))) = true from c_39]; rfl
       have hs : stepF R wd s l = (s.1, (s.2 + 1)) := (if_pos hmg).trans (if_neg (by omega))
       rw [lookS_end _ _ _ _ _ _ hst1, hs]
       exact ⟨_, _, _, rfl, (hp.take [3, 4] 5 (by decide) (by simp))⟩
     ·
      refine wp_skip ?_
      refine ex_then_n ?_
      refine wp_ret ?_
      refine ex_then_r ?_
      refine sx_end (.tuple #[]) (res0 (by rfl)) ?_
      have hmg : magicB (chunksL R wd l) = false := by unfold magicB; rw [show (allEq (rowsV (chunksL R wd l))) = true from c_20, show (allEq (colsV (chunksL R wd l))) = false from c_39]; rfl
      have hs : stepF R wd s l = (s.1, s.2) := if_neg (by rw [hmg]; exact Bool.false_ne_true)
      rw [lookS_end _ _ _ _ _ _ hst1, hs]
      exact ⟨_, _, _, rfl, (hp.take [3, 4] 5 (by decide) (by simp))⟩
    ·
     refine sx_region ?_
     refine sx_rd 41 (.slice Ai6 ((chunksL R wd l).length) ci6) (by rfl) (by kernel_rfl) ?_
     obtain ⟨k_44, hk_k_44⟩ := Ev.rounds (wiRows_ev (chunksL R wd l) (by omega) (chunks_le hw4 hN))
     refine sx_call 42 (by rfl) (by kernel_rfl) ((spec_wiRows.calls k_44 Ai6 ci6 (chunksL R wd l) _ _ (rowS_C (hp.at_ 0 _ (by rfl))) (rowS_len (hp.at_ 0 _ (by rfl))).2 hk_k_44).mono ?_)
     rintro _ W_50 ⟨v_46, rfl, hR_45, hb⟩
     refine ⟨_, rfl, ?_⟩
     obtain ⟨A_47, c_48, rfl, hcc_c_48, _⟩ := Kd.R_reads hR_45
     obtain ⟨F_49, hp⟩ : ∃ F, Hp w0 (row (Kd.int .i64) 3 w0.heap.size (.slice A_47 (rowsV (chunksL R wd l)).length c_48) (rowsV (chunksL R wd l)) F :: rowS (Kd.slice 3 (Kd.int .i64)) 39 w0.heap.size (.slice Ai6 ((chunksL R wd l).length) ci6) (chunksL R wd l) Fi6 :: blk g #[.int .i64 (R : Int), .int .i64 (wd : Int), .int .i64 (s.2 : Int), .slice Ao s.1.length co] 48 :: rowS (Kd.slice 3 (Kd.int .i64)) 39 w0.heap.size (.slice Ao s.1.length co) s.1 Fo :: cs) _ := ⟨_, Hp.made hp hb hR_45⟩
     obtain ⟨k_51, hk_k_51⟩ := Ev.rounds (equal_ev (rowsV (chunksL R wd l)) (by rw [rowsV_len]; omega))
     refine sx_call 43 (by rfl) (by kernel_rfl) ((spec_wiEqual.calls k_51 A_47 c_48 (rowsV (chunksL R wd l)) _ _ (row_C (hp.at_ 0 _ (by rfl))) (row_len (hp.at_ 0 _ (by rfl))).2 hk_k_51).mono ?_)
     rintro _ W_52 ⟨rfl, hb⟩
     refine ⟨.bool false, congrArg (fun b => Ending.returned (.bool b)) c_20, ?_⟩
     replace hp := hp.below hb.below
     clear hb
     refine sx_rd 44 (.bool false) (by rfl) (by kernel_rfl) ?_
     refine sx_skip 45 (by rfl) (by rfl) (by rfl) ?_
     refine sx_skip 46 (by rfl) (by rfl) (by rfl) ?_
     refine sx_skip 47 (by rfl) (by rfl) (by rfl) ?_
     refine sx_rd 48 (.bool false) (by rfl) (by kernel_rfl) ?_
     refine sx_nil ?_
     refine ex_then_n ?_
     refine sx_else false (by rfl) rfl ?_
     refine wp_skip ?_
     refine ex_then_n ?_
     refine wp_ret ?_
     refine ex_then_r ?_
     refine sx_end (.tuple #[]) (res0 (by rfl)) ?_
     have hmg : magicB (chunksL R wd l) = false := by unfold magicB; rw [show (allEq (rowsV (chunksL R wd l))) = false from c_20]; rfl
     have hs : stepF R wd s l = (s.1, s.2) := if_neg (by rw [hmg]; exact Bool.false_ne_true)
     rw [lookS_end _ _ _ _ _ _ hst1, hs]
     exact ⟨_, _, _, rfl, (hp.take [2, 3] 4 (by decide) (by simp))⟩
  ·
   have c_1p := ne_of_beq_ c_1
   have hst0 : stpE l H = false := decide_eq_false (by omega)
   have hd1 : d - 1 + 1 = d := by omega
   have hbO : ((lookO (stepF R wd) stpE (d - 1) l H s 10)).2 ≤ 1000000000 := by rw [lookO_all _ _ _ _ _ _ hst0, hd1]; exact hbd
   refine wp_skip ?_
   refine ex_then_n ?_
   refine wp_seq ?_
   refine sx_region ?_
   refine sx_rd 8 (.int .i64 0) (by rfl) (by kernel_rfl) ?_
   refine sx_nil ?_
   refine ex_then_n ?_
   refine wp_block ?_
   have hst : stpE l H = false := decide_eq_false (by omega)
   have e0_53 : s.1 = (lookO (stepF R wd) stpE (d - 1) l H s 0).1 := rfl
   have hp : Hp w0 (blk g #[.int .i64 (R : Int), .int .i64 (wd : Int), .int .i64 (s.2 : Int), .slice Ao s.1.length co] 48 :: rowS (Kd.slice 3 (Kd.int .i64)) 39 w0.heap.size (.slice Ao s.1.length co) ((lookO (stepF R wd) stpE (d - 1) l H s 0).1) Fo :: cs) W := by rw [← e0_53]; exact hp
   refine wp_loop_ghost (fun n_ a_ W => ∃ (r_ : List (Nat × Value)) (i : Nat) (Aixgx3 : Option Addr) (nixgx3 cixgx3 : Nat) (Fixgx3 : Nat → Prop), n_ = 10 - i ∧ a_ = fr 92 ([(0, .pointer (some ⟨g, 0, none⟩)), (1, .slice AH H.length cH), (2, .slice Al l.length cl), (8, .int .i64 (i : Int))] ++ r_) ∧ Hp w0 (rowS (Kd.slice 3 (Kd.int .i64)) 39 w0.heap.size (.slice Aixgx3 nixgx3 cixgx3) ((lookO (stepF R wd) stpE (d - 1) l H s i).1) Fixgx3 :: blk g #[.int .i64 (R : Int), .int .i64 (wd : Int), .int .i64 ((lookO (stepF R wd) stpE (d - 1) l H s i).2 : Int), .slice Aixgx3 nixgx3 cixgx3] 48 :: cs) W ∧ (i ≤ 10)) _ ⟨_, 0, _, _, _, _, rfl, fr_front [(0, .pointer (some ⟨g, 0, none⟩)), (1, .slice AH H.length cH), (2, .slice Al l.length cl), (8, .int .i64 0)] ⟨rfl, rfl, rfl, rfl, trivial⟩, (hp.take [1, 0] 2 (by decide) (by simp)), Nat.zero_le _⟩ ?_
   rintro _ _ W_54 ⟨r_, i, Aixgx3, nixgx3, cixgx3, Fixgx3, rfl, rfl, hp, hi⟩
   obtain ⟨rfl, hccixgx3⟩ := rowS_len (hp.at_ 0 _ (by rfl))
   refine wp_seq ?_
   refine wp_seq ?_
   refine sx_region ?_
   refine sx_rd 65 (.int .i64 (i : Int)) (by rfl) (by kernel_rfl) ?_
   refine sx_rd 66 (.bool (decide ((i : Int) ≤ 9))) (by rfl) (by kernel_rfl) ?_
   refine sx_nil ?_
   refine ex_then_n ?_
   refine sx_cond (decide ((i : Int) ≤ 9)) (by rfl) (fun c_55 => ?_) (fun c_55 => ?_)
   ·
    have c_55p := of_decide_eq_true c_55
    refine wp_skip ?_
    refine ex_then_n ?_
    refine wp_seq ?_
    refine wp_block ?_
    refine wp_seq ?_
    refine sx_region ?_
    refine sx_rd 9 (.int .i64 0) (by rfl) (by kernel_rfl) ?_
    refine sx_nil ?_
    refine ex_then_n ?_
    refine wp_block ?_
    have e0_56 : (lookO (stepF R wd) stpE (d - 1) l H s i).1 = (lookI (stepF R wd) stpE (d - 1) l H s i 0).1 := rfl
    have hp : Hp w0 (rowS (Kd.slice 3 (Kd.int .i64)) 39 w0.heap.size (.slice Aixgx3 (((lookO (stepF R wd) stpE (d - 1) l H s i).1).length) cixgx3) ((lookI (stepF R wd) stpE (d - 1) l H s i 0).1) Fixgx3 :: blk g #[.int .i64 (R : Int), .int .i64 (wd : Int), .int .i64 ((lookO (stepF R wd) stpE (d - 1) l H s i).2 : Int), .slice Aixgx3 (((lookO (stepF R wd) stpE (d - 1) l H s i).1).length) cixgx3] 48 :: cs) W_54 := by rw [← e0_56]; exact hp
    refine wp_loop_ghost (fun n_ a_ W => ∃ (r_ : List (Nat × Value)) (j : Nat) (Ajxgx3 : Option Addr) (njxgx3 cjxgx3 : Nat) (Fjxgx3 : Nat → Prop), n_ = 10 - j ∧ a_ = fr 92 ([(0, .pointer (some ⟨g, 0, none⟩)), (1, .slice AH H.length cH), (2, .slice Al l.length cl), (8, .int .i64 (i : Int)), (9, .int .i64 (j : Int))] ++ r_) ∧ Hp w0 (rowS (Kd.slice 3 (Kd.int .i64)) 39 w0.heap.size (.slice Ajxgx3 njxgx3 cjxgx3) ((lookI (stepF R wd) stpE (d - 1) l H s i j).1) Fjxgx3 :: blk g #[.int .i64 (R : Int), .int .i64 (wd : Int), .int .i64 ((lookI (stepF R wd) stpE (d - 1) l H s i j).2 : Int), .slice Ajxgx3 njxgx3 cjxgx3] 48 :: cs) W ∧ (j ≤ 10)) _ ⟨_, 0, _, _, _, _, rfl, fr_front [(0, .pointer (some ⟨g, 0, none⟩)), (1, .slice AH H.length cH), (2, .slice Al l.length cl), (8, .int .i64 (i : Int)), (9, .int .i64 0)] ⟨rfl, rfl, rfl, rfl, rfl, trivial⟩, (hp.take [0, 1] 2 (by decide) (by simp)), Nat.zero_le _⟩ ?_
    rintro _ _ W_57 ⟨r_, j, Ajxgx3, njxgx3, cjxgx3, Fjxgx3, rfl, rfl, hp, hj⟩
    obtain ⟨rfl, hccjxgx3⟩ := rowS_len (hp.at_ 0 _ (by rfl))
    refine wp_seq ?_
    refine wp_seq ?_
    refine sx_region ?_
    refine sx_rd 69 (.int .i64 (j : Int)) (by rfl) (by kernel_rfl) ?_
    refine sx_rd 70 (.bool (decide ((j : Int) ≤ 9))) (by rfl) (by kernel_rfl) ?_
    refine sx_nil ?_
    refine ex_then_n ?_
    refine sx_cond (decide ((j : Int) ≤ 9)) (by rfl) (fun c_58 => ?_) (fun c_58 => ?_)
    ·
     have c_58p := of_decide_eq_true c_58
     refine wp_skip ?_
     refine ex_then_n ?_
     refine wp_seq ?_
     refine wp_block ?_
     refine wp_seq ?_
     refine sx_region ?_
     refine sx_rd 73 (.int .i64 (i : Int)) (by rfl) (by kernel_rfl) ?_
     refine sx_rd 74 (.int .i64 (j : Int)) (by rfl) (by kernel_rfl) ?_
     refine sx_call 75 (by rfl) (by kernel_rfl) ((spec_tiOf.calls (i : Int) (j : Int) _ _ _ (spec_tiOf_eq _ _)).mono ?_)
     rintro _ W_59 ⟨rfl, hb⟩
     refine ⟨_, rfl, ?_⟩
     replace hp := hp.below hb
     clear hb
     refine sx_box 10 hp #[.int .i64 0, .int .i64 0] 50 (by rfl) (fun W => by kernel_rfl) ?_
     intro g_60 W_61 hp
     refine sx_store (t := 50) (p := (.tmp 10)) (x := (.tmp 75)) (by rfl) (by rfl) 0 (by rfl) 0 [.int .i64 ((tl (i : Int) (j : Int)).f0), .int .i64 ((tl (i : Int) (j : Int)).f1)] (by rfl) (by rfl) (by kernel_rfl) (by simp [Value.oneCell']) (by show 2 ≤ 2; omega) #[.int .i64 ((tl (i : Int) (j : Int)).f0), .int .i64 ((tl (i : Int) (j : Int)).f1)] (by rfl) hp ?_
     intro W_62 hp; simp only [List.set_cons_succ, List.set_cons_zero] at hp
     refine sx_nil ?_
     refine ex_then_n ?_
     refine wp_seq ?_
     refine wp_seq ?_
     refine sx_region ?_
     refine sx_rd 76 (.slice AH H.length cH) (by rfl) (by kernel_rfl) ?_
     refine sx_rd 77 (.agg #[.int .i64 ((tl (i : Int) (j : Int)).f0), .int .i64 ((tl (i : Int) (j : Int)).f1)]) (by rfl) (ldn (t := 50) (p := (.tmp 10)) (by rfl) (by rfl) (by kernel_rfl) (by kernel_rfl) (by kernel_rfl) (hp.at_ 0 _ (by rfl))) ?_
     obtain ⟨k_63, hk_k_63⟩ := Ev.rounds (tiPlace_ev H (by omega) (tl (i : Int) (j : Int)))
     refine sx_call 78 (by rfl) (by kernel_rfl) ((spec_tiPlace.calls k_63 AH cH H ((tl (i : Int) (j : Int)).f0) ((tl (i : Int) (j : Int)).f1) _ _ (hH _ hp.tail.tail.tail) hcH hk_k_63).mono ?_)
     rintro _ W_64 ⟨rfl, hb⟩
     refine ⟨_, rfl, ?_⟩
     replace hp := hp.below hb
     clear hb
     refine sx_rd 79 (.bool (decide ((idxT H (tl (i : Int) (j : Int))) < 0))) (by rfl) (by kernel_rfl) ?_
     refine sx_nil ?_
     refine ex_then_n ?_
     refine sx_cond (decide ((idxT H (tl (i : Int) (j : Int))) < 0)) (by rfl) (fun c_65 => ?_) (fun c_65 => ?_)
     ·
      have c_65p := of_decide_eq_true c_65
      refine wp_exit ?_
      refine ex_then_e (ex_blk_here ?_)
      refine ex_then_n ?_
      refine sx_region ?_
      refine sx_rd 71 (.int .i64 (j : Int)) (by rfl) (by kernel_rfl) ?_
      refine sx_rd 72 (.int .i64 ((j : Int) + 1)) (by rfl) (wr_ok (by omega) (by kernel_rfl)) ?_
      refine sx_rd 9 (.int .i64 ((j : Int) + 1)) (by rfl) (by kernel_rfl) ?_
      refine sx_nil ?_
      refine ex_then_n ?_
      have hq_66 : (lookI (stepF R wd) stpE (d - 1) l H s i j).1 = (lookI (stepF R wd) stpE (d - 1) l H s i (j + 1)).1 := (congrArg Prod.fst (show (lookI (stepF R wd) stpE (d - 1) l H s i j) = (lookI (stepF R wd) stpE (d - 1) l H s i (j + 1)) from (by rw [lookI_next, if_neg (idx_neg.1 c_65p)])))
      rw [hq_66] at hp
      have hq_67 : ((lookI (stepF R wd) stpE (d - 1) l H s i j).2 : Int) = ((lookI (stepF R wd) stpE (d - 1) l H s i (j + 1)).2 : Int) := (congrArg (fun z : List (List Int) × Nat => (z.2 : Int)) (show (lookI (stepF R wd) stpE (d - 1) l H s i j) = (lookI (stepF R wd) stpE (d - 1) l H s i (j + 1)) from (by rw [lookI_next, if_neg (idx_neg.1 c_65p)])))
      rw [hq_67] at hp
      exact ⟨_, (by omega), _, (j + 1), _, _, _, _, rfl, fr_front [(0, .pointer (some ⟨g, 0, none⟩)), (1, .slice AH H.length cH), (2, .slice Al l.length cl), (8, .int .i64 (i : Int)), (9, .int .i64 ((j + 1 : Nat) : Int))] ⟨rfl, rfl, rfl, rfl, rfl, trivial⟩, (hp.take [1, 2] 3 (by decide) (by simp)), (by omega)⟩
     ·
      have c_65p := of_decide_eq_false c_65
      have hmt : (tl (i : Int) (j : Int)) ∈ H := Decidable.not_not.1 (fun q => c_65p (idx_neg.2 q))
      have hbJ := Nat.le_trans (lookI_le (stepF R wd) stpE (fun s => s.2) (fun s l => (stepF_q R wd s l).1) (d - 1) l H s i (j + 1) (by omega) (by omega)) hbO
      rw [lookI_next, if_pos hmt] at hbJ
      refine wp_skip ?_
      refine ex_then_n ?_
      refine sx_region ?_
      refine sx_rd 80 (.pointer (some ⟨g, 0, none⟩)) (by rfl) (by kernel_rfl) ?_
      refine sx_rd 81 (.slice AH H.length cH) (by rfl) (by kernel_rfl) ?_
      refine sx_rd 82 (.agg #[.int .i64 ((tl (i : Int) (j : Int)).f0), .int .i64 ((tl (i : Int) (j : Int)).f1)]) (by rfl) (ldn (t := 50) (p := (.tmp 10)) (by rfl) (by rfl) (by kernel_rfl) (by kernel_rfl) (by kernel_rfl) (hp.at_ 0 _ (by rfl))) ?_
      refine sx_lit 83 (by rfl) k50 w0.heap.size 50 ([(tl (i : Int) (j : Int))]) [.int .i64 ((tl (i : Int) (j : Int)).f0), .int .i64 ((tl (i : Int) (j : Int)).f1)] (fun W => by kernel_rfl) (tile_reps _ _ _) (by simp) hp.size hp ?_
      intro g_68 F_69 W_70 hp hz; clear hz
      obtain ⟨k_71, hk_k_71⟩ := Ev.rounds (those_ev H (tl (i : Int) (j : Int)) (by omega))
      refine sx_call 84 (by rfl) (by kernel_rfl) ((spec_tiThose.calls k_71 AH cH H (some ⟨g_68, 0, none⟩) ([(tl (i : Int) (j : Int))].length) ([(tl (i : Int) (j : Int))]) false _ _ (hH _ hp.tail.tail.tail.tail) hcH (row_C (hp.at_ 0 _ (by rfl))) (row_len (hp.at_ 0 _ (by rfl))).2 hk_k_71).mono ?_)
      rintro _ W_77 ⟨v_73, rfl, hR_72, hb⟩
      refine ⟨_, rfl, ?_⟩
      obtain ⟨A_74, c_75, rfl, hcc_c_75, _⟩ := Kd.R_reads hR_72
      obtain ⟨F_76, hp⟩ : ∃ F, Hp w0 (row k50 50 w0.heap.size (.slice A_74 (lessT H (tl (i : Int) (j : Int))).length c_75) (lessT H (tl (i : Int) (j : Int))) F :: row k50 50 w0.heap.size (.slice (some ⟨g_68, 0, none⟩) ([(tl (i : Int) (j : Int))].length) ([(tl (i : Int) (j : Int))].length)) ([(tl (i : Int) (j : Int))]) F_69 :: blk g_60 #[.int .i64 ((tl (i : Int) (j : Int)).f0), .int .i64 ((tl (i : Int) (j : Int)).f1)] 50 :: rowS (Kd.slice 3 (Kd.int .i64)) 39 w0.heap.size (.slice Ajxgx3 (((lookI (stepF R wd) stpE (d - 1) l H s i j).1).length) cjxgx3) ((lookI (stepF R wd) stpE (d - 1) l H s i j).1) Fjxgx3 :: blk g #[.int .i64 (R : Int), .int .i64 (wd : Int), .int .i64 ((lookI (stepF R wd) stpE (d - 1) l H s i j).2 : Int), .slice Ajxgx3 (((lookI (stepF R wd) stpE (d - 1) l H s i j).1).length) cjxgx3] 48 :: cs) _ := ⟨_, Hp.made hp hb hR_72⟩
      refine sx_rd 85 (.slice Al l.length cl) (by rfl) (by kernel_rfl) ?_
      refine sx_call 86 (by rfl) (by kernel_rfl) ((spec_l1Own.calls Al cl l _ _ (hL _ hp.tail.tail.tail.tail.tail) hcl (l1Own_eq l (by first | omega | (simp; omega)))).mono ?_)
      rintro _ W_83 ⟨v_79, rfl, hR_78, hb⟩
      refine ⟨_, rfl, ?_⟩
      obtain ⟨A_80, c_81, rfl, hcc_c_81, _⟩ := Kd.R_reads hR_78
      obtain ⟨F_82, hp⟩ : ∃ F, Hp w0 (row (Kd.int .i64) 3 w0.heap.size (.slice A_80 l.length c_81) l F :: row k50 50 w0.heap.size (.slice A_74 ((lessT H (tl (i : Int) (j : Int))).length) c_75) (lessT H (tl (i : Int) (j : Int))) F_76 :: row k50 50 w0.heap.size (.slice (some ⟨g_68, 0, none⟩) ([(tl (i : Int) (j : Int))].length) ([(tl (i : Int) (j : Int))].length)) ([(tl (i : Int) (j : Int))]) F_69 :: blk g_60 #[.int .i64 ((tl (i : Int) (j : Int)).f0), .int .i64 ((tl (i : Int) (j : Int)).f1)] 50 :: rowS (Kd.slice 3 (Kd.int .i64)) 39 w0.heap.size (.slice Ajxgx3 (((lookI (stepF R wd) stpE (d - 1) l H s i j).1).length) cjxgx3) ((lookI (stepF R wd) stpE (d - 1) l H s i j).1) Fjxgx3 :: blk g #[.int .i64 (R : Int), .int .i64 (wd : Int), .int .i64 ((lookI (stepF R wd) stpE (d - 1) l H s i j).2 : Int), .slice Ajxgx3 (((lookI (stepF R wd) stpE (d - 1) l H s i j).1).length) cjxgx3] 48 :: cs) _ := ⟨_, Hp.made hp hb hR_78⟩
      refine sx_rd 87 (.int .i64 (i : Int)) (by rfl) (by kernel_rfl) ?_
      refine sx_rd 88 (.int .i64 (j : Int)) (by rfl) (by kernel_rfl) ?_
      refine sx_lit 89 (by rfl) (Kd.int .i64) w0.heap.size 3 ([(i : Int), (j : Int)]) [.int .i64 (i : Int), .int .i64 (j : Int)] (fun W => by kernel_rfl) (reps_ints [(i : Int), (j : Int)]) (by simp) hp.size hp ?_
      intro g_84 F_85 W_86 hp hz; clear hz
      refine sx_append 90 (by rfl) (Kd.int .i64) 1 (by rfl) (.int .i64 0) 8 (by rfl) Try.underlying39 (by kernel_rfl) rfl (by decide) (by decide) ([(i : Int), (j : Int)]) (by rfl) (by rfl) (row_C (hp.at_ 0 _ (by rfl))) (fun x cs h => h) hp.size (by first | omega | (simp; done) | (simp; omega)) hp ?_
      intro A_87 c_88 F_89 W_90 hp hz; clear hz; simp only [List.set_cons_succ, List.set_cons_zero] at hp
      refine sx_call 91 (by rfl) (by kernel_rfl) ((ih (d - 1) (by omega) w0 _ (row k50 50 w0.heap.size (.slice A_74 ((lessT H (tl (i : Int) (j : Int))).length) c_75) (lessT H (tl (i : Int) (j : Int))) F_76 :: row (Kd.int .i64) 3 w0.heap.size (.slice A_87 ((l ++ [(i : Int), (j : Int)]).length) c_88) (l ++ [(i : Int), (j : Int)]) F_89 :: row (Kd.int .i64) 3 w0.heap.size (.slice (some ⟨g_84, 0, none⟩) ([(i : Int), (j : Int)].length) ([(i : Int), (j : Int)].length)) ([(i : Int), (j : Int)]) F_85 :: row k50 50 w0.heap.size (.slice (some ⟨g_68, 0, none⟩) ([(tl (i : Int) (j : Int))].length) ([(tl (i : Int) (j : Int))].length)) ([(tl (i : Int) (j : Int))]) F_69 :: blk g_60 #[.int .i64 ((tl (i : Int) (j : Int)).f0), .int .i64 ((tl (i : Int) (j : Int)).f1)] 50 :: cs) (lessT H (tl (i : Int) (j : Int))) A_74 c_75 (by rw [lessT_len1 hnd hgd hmt]; omega) (lessT_nodup _ _) lessT_good (row_len (hp.at_ 2 _ (by rfl))).2 (fun W h => row_C (h.at_ 0 _ (by rfl))) (l ++ [(i : Int), (j : Int)]) A_87 c_88 (by simp; omega) (row_len (hp.at_ 1 _ (by rfl))).2 (fun W h => row_C (h.at_ 1 _ (by rfl))) (lookI (stepF R wd) stpE (d - 1) l H s i j) Ajxgx3 cjxgx3 Fjxgx3 hbJ (hp.take [6, 5, 2, 1, 0, 3, 4] 7 (by decide) (by simp))).mono ?_)
      rintro _ W_91 ⟨A2, c2, F2, rfl, hp⟩
      refine ⟨_, rfl, ?_⟩
      refine sx_nil ?_
      refine ex_blk_n ?_
      refine ex_then_n ?_
      refine sx_region ?_
      refine sx_rd 71 (.int .i64 (j : Int)) (by rfl) (by kernel_rfl) ?_
      refine sx_rd 72 (.int .i64 ((j : Int) + 1)) (by rfl) (wr_ok (by omega) (by kernel_rfl)) ?_
      refine sx_rd 9 (.int .i64 ((j : Int) + 1)) (by rfl) (by kernel_rfl) ?_
      refine sx_nil ?_
      refine ex_then_n ?_
      have hq_92 : (lookS (stepF R wd) stpE (d - 1) (l ++ [(i : Int), (j : Int)]) (lessT H (tl (i : Int) (j : Int))) (lookI (stepF R wd) stpE (d - 1) l H s i j)).1 = (lookI (stepF R wd) stpE (d - 1) l H s i (j + 1)).1 := (congrArg Prod.fst (show (lookS (stepF R wd) stpE (d - 1) (l ++ [(i : Int), (j : Int)]) (lessT H (tl (i : Int) (j : Int))) (lookI (stepF R wd) stpE (d - 1) l H s i j)) = (lookI (stepF R wd) stpE (d - 1) l H s i (j + 1)) from (by rw [lookI_next, if_pos hmt])))
      rw [hq_92] at hp
      have hq_93 : ((lookS (stepF R wd) stpE (d - 1) (l ++ [(i : Int), (j : Int)]) (lessT H (tl (i : Int) (j : Int))) (lookI (stepF R wd) stpE (d - 1) l H s i j)).2 : Int) = ((lookI (stepF R wd) stpE (d - 1) l H s i (j + 1)).2 : Int) := (congrArg (fun z : List (List Int) × Nat => (z.2 : Int)) (show (lookS (stepF R wd) stpE (d - 1) (l ++ [(i : Int), (j : Int)]) (lessT H (tl (i : Int) (j : Int))) (lookI (stepF R wd) stpE (d - 1) l H s i j)) = (lookI (stepF R wd) stpE (d - 1) l H s i (j + 1)) from (by rw [lookI_next, if_pos hmt])))
      rw [hq_93] at hp
      exact ⟨_, (by omega), _, (j + 1), _, _, _, _, rfl, fr_front [(0, .pointer (some ⟨g, 0, none⟩)), (1, .slice AH H.length cH), (2, .slice Al l.length cl), (8, .int .i64 (i : Int)), (9, .int .i64 ((j + 1 : Nat) : Int))] ⟨rfl, rfl, rfl, rfl, rfl, trivial⟩, (hp.take [1, 0] 7 (by decide) (by simp)), (by omega)⟩
    ·
     have c_58p := of_decide_eq_false c_58
     refine wp_exit ?_
     refine ex_then_e (ex_then_e (ex_blk_here ?_))
     refine ex_blk_n ?_
     refine ex_then_n ?_
     refine sx_region ?_
     refine sx_rd 67 (.int .i64 (i : Int)) (by rfl) (by kernel_rfl) ?_
     refine sx_rd 68 (.int .i64 ((i : Int) + 1)) (by rfl) (wr_ok (by omega) (by kernel_rfl)) ?_
     refine sx_rd 8 (.int .i64 ((i : Int) + 1)) (by rfl) (by kernel_rfl) ?_
     refine sx_nil ?_
     refine ex_then_n ?_
     have hq_94 : (lookI (stepF R wd) stpE (d - 1) l H s i j).1 = (lookO (stepF R wd) stpE (d - 1) l H s (i + 1)).1 := (congrArg Prod.fst (show (lookI (stepF R wd) stpE (d - 1) l H s i j) = (lookO (stepF R wd) stpE (d - 1) l H s (i + 1)) from (by rw [show j = 10 by omega]; exact (lookO_next (stepF R wd) stpE (d - 1) l H s i).symm)))
     rw [hq_94] at hp
     have hq_95 : ((lookI (stepF R wd) stpE (d - 1) l H s i j).2 : Int) = ((lookO (stepF R wd) stpE (d - 1) l H s (i + 1)).2 : Int) := (congrArg (fun z : List (List Int) × Nat => (z.2 : Int)) (show (lookI (stepF R wd) stpE (d - 1) l H s i j) = (lookO (stepF R wd) stpE (d - 1) l H s (i + 1)) from (by rw [show j = 10 by omega]; exact (lookO_next (stepF R wd) stpE (d - 1) l H s i).symm)))
     rw [hq_95] at hp
     exact ⟨_, (by omega), _, (i + 1), _, _, _, _, rfl, fr_front [(0, .pointer (some ⟨g, 0, none⟩)), (1, .slice AH H.length cH), (2, .slice Al l.length cl), (8, .int .i64 ((i + 1 : Nat) : Int))] ⟨rfl, rfl, rfl, rfl, trivial⟩, (hp.take [0, 1] 2 (by decide) (by simp)), (by omega)⟩
   ·
    have c_55p := of_decide_eq_false c_55
    refine wp_exit ?_
    refine ex_then_e (ex_then_e (ex_blk_here ?_))
    refine sx_end_n (.tuple #[]) (res0 (by rfl)) ?_
    obtain rfl : i = 10 := by omega
    have hp := hp
    rw [lookO_all _ _ _ _ _ _ hst, hd1] at hp
    exact ⟨_, _, _, rfl, (hp.take [1, 0] 2 (by decide) (by simp))⟩
end Go.Proofs.Ytbkaedmabdgdhaa.Hd
