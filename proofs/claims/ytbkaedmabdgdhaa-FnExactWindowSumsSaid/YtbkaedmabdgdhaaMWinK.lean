/- spec.wiLook, by hand. -/
import Derived.Test.YtbkaedmabdgdhaaPWinS
import Derived.Test.YtbkaedmabdgdhaaMSxW
import Derived.Test.YtbkaedmabdgdhaaMSx3
import Derived.Test.YtbkaedmabdgdhaaMTileR
import Derived.Test.YtbkaedmabdgdhaaMSxS
namespace Go.Proofs.Ytbkaedmabdgdhaa.Hd
open Go Go.RowKit Go.Proofs.YtbkaedmabdgdhaaW.PrintWords Go.Proofs.YtbkaedmabdgdhaaW.PrintLast Go.Proofs.YtbkaedmabdgdhaaW.PrintMore
set_option linter.unusedVariables false
section
variable {P : Program} {N : Nat} {s : List (Nat × Value)} {o o2 : Oper} {rest : List Oper} {ops : Array Oper} {Q : Exit → Act → World → Prop} {W w0 : World} {cs : List Chunk} {α : Type}
theorem sx_blit (q : Nat) (hk : okB o q N = true) {hv : Value} {e : TypeId} (hr : ∀ W : World, (execOp (evl N s) o).run P W = .ok (.value (.slice (some ⟨W.heap.size, 0, none⟩) 1 1)) (W.alloc (.cells #[hv] e (0, 0)))) (hp : Hp w0 cs W)
    (h : ∀ g W', Hp w0 (blk g #[hv] e :: cs) W' → WL P ops Q rest (fr N ((q, .slice (some ⟨g, 0, none⟩) 1 1) :: s)) W') : WL P ops Q (o :: rest) (fr N s) W :=
  sx_val q _ hk (hr W) (h W.heap.size _ (hp.add (Mv.quiet (below_alloc (Below.refl _ _) _)) (blk _ _ _) (heap_alloc_new W _) (fun k hk => by have : k = W.heap.size := hk; omega)))
theorem sx_pushP (q2 : Nat) (hk2 : okB o2 q2 N = true) {di : Kd α} {ei e base g : Nat} {v hv : Value} {xs : List (List α)} {ys : List α} {F G : Nat → Prop} {T : TypeId}
    {S X : Operand} {t : TypeId} (z : Value) (bytes : Nat) (ho : o2.op = .call { callee := .builtin .append, args := #[S, X], argTypes := #[t, t] }) (ht : P.underlying t = some (.slice e)) (hinfo : (P.info? e).map (fun i => (i.zero, i.size, i.bytes)) = some (some z, 1, bytes)) (hz : z.cells.size = 1) (hb0 : 0 < bytes)
    (hs : evl N s S = v) (hx : evl N s X = .slice (some ⟨g, 0, none⟩) 1 1)
    (hbase : base ≤ W.heap.size) (hl : (xs.length + 1) * bytes ≤ 140737488355328) (hp : Hp w0 (rowS (Kd.slice ei di) e base v xs F :: row di ei base hv ys G :: blk g #[hv] T :: cs) W)
    (h : ∀ A' c' F' W', Hp w0 (rowS (Kd.slice ei di) e base (.slice A' (xs ++ [ys]).length c') (xs ++ [ys]) F' :: blk g #[hv] T :: cs) W' → WL P ops Q rest (fr N ((q2, .slice A' (xs ++ [ys]).length c') :: s)) W') : WL P ops Q (o2 :: rest) (fr N s) W := by
  refine ⟨?_⟩
  obtain ⟨h1, h2, h3⟩ := okB_spec hk2
  have hS := hp.at_ 0 _ rfl
  have hR := hp.at_ 1 _ rfl
  have hap : ∀ k, F k → G k → False := fun k a b => hp.ap 0 1 _ _ (by omega) rfl rfl k a b
  have hown : ∀ k, G k → some k ≠ v.ownBlock := fun k hk e => hap k (by obtain ⟨f, hf, _⟩ := hS.1; exact hf k e.symm) hk
  obtain ⟨f, hf, hT⟩ := Kd.S_tag hS.1 xs.length G (fun k hk hF => hap k hF hk)
  have hM : (Kd.slice ei di).M W base G ys [hv] := ⟨hv, rfl, hR.1⟩
  refine Kd.R_append_rows (Kd.tag f (Kd.slice ei di)) (Rr := fun x cs => x = (ys, xs.length) ∧ cs = [hv]) (w0 := W) (W := W) base h1 S X t e z bytes ho ht hinfo hz (Nat.lt_succ_self 0) hb0 v xs.zipIdx [(ys, xs.length)] (some ⟨g, 0, none⟩) 1 1 (fun k => F k ∨ G k ∨ W.heap.size ≤ k) G (by rw [fr_eval]; exact hs) (by rw [fr_eval]; exact hx)
    (Kd.R_mono hT (fun k hk => .inl hk)) ⟨rfl, by omega, fun _ => ⟨_, rfl, fun j p hj => ?_⟩⟩ (fun x cs hx => ?_) (fun k hk => ⟨.inr (.inl hk), hown k hk⟩) (fun k hk => .inr (.inr hk)) (Below.refl _ _) hbase (by rw [List.length_zipIdx]; exact hl) ?_
  · cases j with
    | succ j => simp at hj
    | zero =>
      injection hj with hj
      refine ⟨[hv], rfl, ⟨hj.symm, rfl⟩, fun i u hu => ?_⟩
      cases i with
      | succ i => simp at hu
      | zero =>
        injection hu with hu
        subst hu
        exact hp.cell 2 (by rfl) 0 _ rfl
  · obtain ⟨rfl, rfl⟩ := hx
    exact (Kd.slice ei di).M_mono (fun k hk => ⟨hk, hf k hk⟩) hM
  intro v1 w1 hr hB hG hat
  rw [← Kd.zip_snoc] at hr
  have hS1 : Kd.S (Kd.slice ei di) e w1 base (fun k => F k ∨ G k ∨ W.heap.size ≤ k) v1 (xs ++ [ys]) := ⟨f, hr⟩
  obtain ⟨A', c', rfl, hc'⟩ := Kd.S_reads hS1
  rw [h2, fr_put _ _ h3]
  refine (h A' c' (fun k => (F k ∨ G k ∨ W.heap.size ≤ k) ∧ base ≤ k ∧ k < w1.heap.size) w1 ?_).out
  exact hp.join.upd 0 _ (rowS (Kd.slice ei di) e base (.slice A' (xs ++ [ys]).length c') (xs ++ [ys]) (fun k => (F k ∨ G k ∨ W.heap.size ≤ k) ∧ base ≤ k ∧ k < w1.heap.size)) rfl ((Mv.of_grown hG).mono (fun k hk => .inl (by obtain ⟨f, hf, _⟩ := hS.1; exact hf k hk))) ⟨Kd.S_mono (Kd.S_bound hS1) (fun k hk => ⟨hk.1, hk.2.1, hk.2.2.1⟩), fun k hk => hk.2.2⟩ (fun k hk => hk.1.elim (fun a => .inl (.inl a)) (fun a => a.elim (fun b => .inl (.inr b)) .inr))
end
end Go.Proofs.Ytbkaedmabdgdhaa.Hd
namespace Go.Proofs.Ytbkaedmabdgdhaa.Hd
open Go.RowKit Go.Proofs.Ytbkaedmabdgdhaa.Pure Go.Proofs.YtbkaedmabdgdhaaW.PrintWords Go.Proofs.YtbkaedmabdgdhaaW.PrintLast Go.Proofs.YtbkaedmabdgdhaaW.PrintMore
set_option linter.unusedVariables false
set_option linter.unusedSimpArgs false
set_option maxRecDepth 100000 in
set_option maxHeartbeats 40000000 in
theorem look_sx (gO : Nat) : ∀ (d : Nat) (w0 W : World) (cs : List Chunk) (H : List S_Tile) (AH : Option Addr) (cH : Nat) (hH1 : H.length ≤ 100) (hcH : H.length ≤ cH) (hH : ∀ W, Hp w0 cs W → Kd.C k50 W AH H.length H) (l : List Int) (Al : Option Addr) (cl : Nat) (hd : l.length + 2 * d = 8) (h9 : ∀ x ∈ l, 0 ≤ x ∧ x ≤ 9) (hcl : l.length ≤ cl) (hL : ∀ W, Hp w0 cs W → Kd.C (Kd.int .i64) W Al l.length l)
  (out : List (List Int)) (Ao : Option Addr) (co : Nat) (Fo : Nat → Prop) (hbd : ((lookS stepW stp8 d l H out)).length ≤ 1000000) (hp : Hp w0 (blk gO #[.slice Ao out.length co] 30 :: rowS (Kd.slice 3 (Kd.int .i64)) 39 w0.heap.size (.slice Ao out.length co) out Fo :: cs) W),
  Calls Try.prog 54 #[.slice AH H.length cH, .slice Al l.length cl, .pointer (some ⟨gO, 0, none⟩)] W fun e W' => ∃ A' c' F', e = .returned (.tuple #[]) ∧ Hp w0 (blk gO #[.slice A' ((lookS stepW stp8 d l H out).length) c'] 30 :: rowS (Kd.slice 3 (Kd.int .i64)) 39 w0.heap.size (.slice A' ((lookS stepW stp8 d l H out).length) c') (lookS stepW stp8 d l H out) F' :: cs) W' := by
 intro d
 induction d using Nat.strongRecOn with
 | ind d ih =>
  intro w0 W cs H AH cH hH1 hcH hH l Al cl hd h9 hcl hL out Ao co Fo hbd hp
  refine sx_enter (N := 61) (l := [.slice AH H.length cH, .slice Al l.length cl, .pointer (some ⟨gO, 0, none⟩)]) Try.func54 rfl rfl rfl ?_
  refine wp_seq ?_
  refine wp_seq ?_
  refine sx_region ?_
  refine sx_rd 9 (.slice Al l.length cl) (by rfl) (by kernel_rfl) ?_
  refine sx_rd 10 (.int .i64 (l.length : Int)) (by rfl) (by kernel_rfl) ?_
  refine sx_rd 11 (.bool ((l.length : Int) == 8)) (by rfl) (by kernel_rfl) ?_
  refine sx_nil ?_
  refine ex_then_n ?_
  refine sx_cond ((l.length : Int) == 8) (by rfl) (fun c_1 => ?_) (fun c_1 => ?_)
  ·
   have c_1p := eq_of_beq_ c_1
   have hst1 : stp8 l H = true := decide_eq_true (by omega)
   have hbE : (stepW out l).length ≤ 1000000 := by rw [← lookS_end stepW stp8 d l H out hst1]; exact hbd
   have hbE2 := (stepW_len out l).1
   refine wp_seq ?_
   refine wp_seq ?_
   rcases Bool.eq_false_or_eq_true (one (sid l)) with c_2 | c_2
   ·
    refine sx_region ?_
    refine sx_rd 12 (.slice Al l.length cl) (by rfl) (by kernel_rfl) ?_
    obtain ⟨k_3, hk_k_3⟩ := Ev.rounds (wiFair_ev l (by omega) h9)
    refine sx_call 13 (by rfl) (by kernel_rfl) ((spec_wiFair.calls k_3 Al cl l _ _ (hL _ hp.tail.tail) hcl hk_k_3).mono ?_)
    rintro _ W_4 ⟨rfl, hb⟩
    refine ⟨.bool true, congrArg (fun b => Ending.returned (.bool b)) c_2, ?_⟩
    replace hp := hp.below hb
    clear hb
    refine sx_rd 14 (.bool true) (by rfl) (by kernel_rfl) ?_
    refine sx_want (by rfl) ?_
    refine sx_rd 15 (.slice Al l.length cl) (by rfl) (by kernel_rfl) ?_
    refine sx_want (by rfl) ?_
    obtain ⟨k_5, hk_k_5⟩ := Ev.rounds (wiLeast_ev l (by omega))
    refine sx_call 16 (by rfl) (by kernel_rfl) ((spec_wiLeast.calls k_5 Al cl l _ _ (hL _ hp.tail.tail) hcl hk_k_5).mono ?_)
    rintro _ W_11 ⟨v_7, rfl, hR_6, hb⟩
    refine ⟨_, rfl, ?_⟩
    obtain ⟨A_8, c_9, rfl, hcc_c_9, _⟩ := Kd.R_reads hR_6
    obtain ⟨F_10, hp⟩ : ∃ F, Hp w0 (row (Kd.int .i64) 3 w0.heap.size (.slice A_8 (leastW l 3 1 l).length c_9) (leastW l 3 1 l) F :: blk gO #[.slice Ao out.length co] 30 :: rowS (Kd.slice 3 (Kd.int .i64)) 39 w0.heap.size (.slice Ao out.length co) out Fo :: cs) _ := ⟨_, Hp.made hp hb hR_6⟩
    refine sx_want (by rfl) ?_
    refine sx_rd 17 (.slice Al l.length cl) (by rfl) (by kernel_rfl) ?_
    refine sx_want (by rfl) ?_
    obtain ⟨k_12, hk_k_12⟩ := Ev.rounds (wiLess_ev (leastW l 3 1 l) l (by rw [leastW_len l (by omega) 3 1 l (by omega) (by omega)]; omega) (by rw [leastW_len l (by omega) 3 1 l (by omega) (by omega)]; omega))
    refine sx_call 18 (by rfl) (by kernel_rfl) ((spec_wiLess.calls k_12 A_8 c_9 (leastW l 3 1 l) Al cl l _ _ (row_C (hp.at_ 0 _ (by rfl))) (row_len (hp.at_ 0 _ (by rfl))).2 (hL _ hp.tail.tail.tail) hcl hk_k_12).mono ?_)
    rintro _ W_13 ⟨rfl, hb⟩
    refine ⟨_, rfl, ?_⟩
    replace hp := hp.below hb.below
    clear hb
    refine sx_want (by rfl) ?_
    refine sx_rd 19 (.bool (!(lexB (leastW l 3 1 l) l))) (by rfl) (by kernel_rfl) ?_
    refine sx_rd 20 (.bool (!(lexB (leastW l 3 1 l) l))) (by rfl) (by kernel_rfl) ?_
    refine sx_nil ?_
    refine ex_then_n ?_
    refine sx_cond (!(lexB (leastW l 3 1 l) l)) (by rfl) (fun c_14 => ?_) (fun c_14 => ?_)
    ·
     refine sx_drawT [0, 1, 2, 4] (.rd 3 (.alt 5 (.alt 6 (.fin) .non) .non)) 7 (C := Hp w0 (row (Kd.int .i64) 3 w0.heap.size (.slice A_8 ((leastW l 3 1 l).length) c_9) (leastW l 3 1 l) F_10 :: blk gO #[.slice Ao out.length co] 30 :: rowS (Kd.slice 3 (Kd.int .i64)) 39 w0.heap.size (.slice Ao out.length co) out Fo :: cs)) (by kernel_rfl) (by kernel_rfl) (fun d _ _ _ _ h => by cases d <;> exact h) (fun W h => h.drew) hp ?_
     refine preI_read rfl ?_
     refine sxq_val 21 (.pointer (some ⟨gO, 0, none⟩)) (by rfl) (fun W _ => (by kernel_rfl)) ?_
     refine sxq_nil ?_
     refine preI_read rfl ?_
     refine sxq_val 22 (.pointer (some ⟨gO, 0, none⟩)) (by rfl) (fun W _ => (by kernel_rfl)) ?_
     refine sxq_nil ?_
     refine preI_read rfl ?_
     refine sxq_val 23 (.pointer (some ⟨gO, 0, none⟩)) (by rfl) (fun W _ => (by kernel_rfl)) ?_
     refine sxq_nil ?_
     refine preI_read rfl ?_
     refine sxq_val 25 (.slice Al l.length cl) (by rfl) (fun W _ => (by kernel_rfl)) ?_
     refine sxq_nil ?_
     refine preI_nil ?_
     intro W_15 hp
     refine treeI_rd rfl ?_
     refine sxq_val 24 (.slice Ao out.length co) (by rfl) (fun W hp => (ld1 (t := 30) (p := (.tmp 23)) (by rfl) (by rfl) (by kernel_rfl) (hp.cell 1 (by rfl) 0 _ (by rfl)))) ?_
     refine sxq_nil ?_
     refine treeI_ev rfl ?_
     refine sx_call 26 (by rfl) (by kernel_rfl) ((spec_l1Own.calls Al cl l _ _ (hL _ hp.tail.tail.tail) hcl (l1Own_eq l (by omega))).mono ?_)
     rintro _ W_21 ⟨v_17, rfl, hR_16, hb⟩
     refine ⟨_, rfl, ?_⟩
     obtain ⟨A_18, c_19, rfl, hcc_c_19, _⟩ := Kd.R_reads hR_16
     obtain ⟨F_20, hp⟩ : ∃ F, Hp w0 (row (Kd.int .i64) 3 w0.heap.size (.slice A_18 l.length c_19) l F :: row (Kd.int .i64) 3 w0.heap.size (.slice A_8 ((leastW l 3 1 l).length) c_9) (leastW l 3 1 l) F_10 :: blk gO #[.slice Ao out.length co] 30 :: rowS (Kd.slice 3 (Kd.int .i64)) 39 w0.heap.size (.slice Ao out.length co) out Fo :: cs) _ := ⟨_, Hp.made hp hb hR_16⟩
     refine step_fin hp.tail ?_
     refine treeI_ev rfl ?_
     refine sx_blit 27 (by rfl) (hv := .slice A_18 l.length c_19) (e := 39) (fun W => by kernel_rfl) hp ?_
     intro g_22 W_23 hp
     refine step_fin hp.tail.tail ?_
     refine treeI_fin ?_
     refine tail_of [7, 8, 9] (by rfl) ?_
     refine tailI_op rfl ?_
     have hp := (hp.take [4, 1, 0, 2, 3] 5 (by decide) (by simp))
     refine sx_pushP 28 (by rfl) (t := 30) (.slice none 0 0) 24 (by rfl) Try.underlying30 (by kernel_rfl) rfl (by decide) (by rfl) (by rfl) hp.size (by omega) hp ?_
     intro A_24 c_25 F_26 W_27 hp
     refine tailI_next ?_
     refine tailI_op rfl ?_
     refine sx_rd 29 (.pointer (some ⟨gO, 0, none⟩)) (by rfl) (by kernel_rfl) ?_
     refine tailI_next ?_
     refine tailI_op rfl ?_
     refine sx_store (t := 30) (p := (.tmp 29)) (x := (.tmp 28)) (by rfl) (by rfl) 3 (by rfl) 0 [.slice A_24 ((out ++ [l]).length) c_25] (by rfl) (by rfl) (by kernel_rfl) (by simp [Value.oneCell']) (by show 1 ≤ 1; omega) #[.slice A_24 ((out ++ [l]).length) c_25] (by rfl) hp ?_
     intro W_28 hp; simp only [List.set_cons_succ, List.set_cons_zero] at hp
     refine tailI_next ?_
     refine tailI_nil ?_
     refine ex_then_n ?_
     refine wp_ret ?_
     refine ex_then_r ?_
     refine sx_end (.tuple #[]) (res0 (by rfl)) ?_
     have hs : stepW out l = (out ++ [l]) := by unfold stepW; rw [keepW_lex]; simp [c_2, (not_eq c_14)]
     rw [lookS_end _ _ _ _ _ _ hst1, hs]
     exact ⟨_, _, _, rfl, (hp.take [3, 0] 4 (by decide) (by simp))⟩
    ·
     refine wp_skip ?_
     refine ex_then_n ?_
     refine wp_ret ?_
     refine ex_then_r ?_
     refine sx_end (.tuple #[]) (res0 (by rfl)) ?_
     have hs : stepW out l = out := by unfold stepW; rw [keepW_lex]; simp [c_2, (not_eq c_14)]
     rw [lookS_end _ _ _ _ _ _ hst1, hs]
     exact ⟨_, _, _, rfl, (hp.take [1, 2] 3 (by decide) (by simp))⟩
   ·
    refine sx_region ?_
    refine sx_rd 12 (.slice Al l.length cl) (by rfl) (by kernel_rfl) ?_
    obtain ⟨k_29, hk_k_29⟩ := Ev.rounds (wiFair_ev l (by omega) h9)
    refine sx_call 13 (by rfl) (by kernel_rfl) ((spec_wiFair.calls k_29 Al cl l _ _ (hL _ hp.tail.tail) hcl hk_k_29).mono ?_)
    rintro _ W_30 ⟨rfl, hb⟩
    refine ⟨.bool false, congrArg (fun b => Ending.returned (.bool b)) c_2, ?_⟩
    replace hp := hp.below hb
    clear hb
    refine sx_rd 14 (.bool false) (by rfl) (by kernel_rfl) ?_
    refine sx_skip 15 (by rfl) (by rfl) (by rfl) ?_
    refine sx_skip 16 (by rfl) (by rfl) (by rfl) ?_
    refine sx_skip 17 (by rfl) (by rfl) (by rfl) ?_
    refine sx_skip 18 (by rfl) (by rfl) (by rfl) ?_
    refine sx_skip 19 (by rfl) (by rfl) (by rfl) ?_
    refine sx_rd 20 (.bool false) (by rfl) (by kernel_rfl) ?_
    refine sx_nil ?_
    refine ex_then_n ?_
    refine sx_else false (by rfl) rfl ?_
    refine wp_skip ?_
    refine ex_then_n ?_
    refine wp_ret ?_
    refine ex_then_r ?_
    refine sx_end (.tuple #[]) (res0 (by rfl)) ?_
    have hs : stepW out l = out := by unfold stepW; rw [keepW_lex]; simp [c_2]
    rw [lookS_end _ _ _ _ _ _ hst1, hs]
    exact ⟨_, _, _, rfl, (hp.take [0, 1] 2 (by decide) (by simp))⟩
  ·
   have c_1p := ne_of_beq_ c_1
   have hst0 : stp8 l H = false := decide_eq_false (by omega)
   have hbO : ((lookO stepW stp8 (d - 1) l H out 10)).length ≤ 1000000 := by rw [lookO_all _ _ _ _ _ _ hst0, show d - 1 + 1 = d by omega]; exact hbd
   have hev : (((l.length : Int) % 2) == 0) = true := beq_iff_eq.2 (by omega)
   refine wp_skip ?_
   refine ex_then_n ?_
   refine wp_seq ?_
   refine sx_region ?_
   refine sx_rd 6 (.int .i64 0) (by rfl) (by kernel_rfl) ?_
   refine sx_nil ?_
   refine ex_then_n ?_
   refine wp_block ?_
   have hst : stp8 l H = false := decide_eq_false (by omega)
   have e0_31 : out = (lookO stepW stp8 (d - 1) l H out 0) := rfl
   have hp : Hp w0 (blk gO #[.slice Ao out.length co] 30 :: rowS (Kd.slice 3 (Kd.int .i64)) 39 w0.heap.size (.slice Ao out.length co) (lookO stepW stp8 (d - 1) l H out 0) Fo :: cs) W := by rw [← e0_31]; exact hp
   refine wp_loop_ghost (fun n_ a_ W => ∃ (r_ : List (Nat × Value)) (i : Nat) (AixgOx0 : Option Addr) (nixgOx0 cixgOx0 : Nat) (FixgOx0 : Nat → Prop), n_ = 10 - i ∧ a_ = fr 61 ([(0, .slice AH H.length cH), (1, .slice Al l.length cl), (2, .pointer (some ⟨gO, 0, none⟩)), (6, .int .i64 (i : Int))] ++ r_) ∧ Hp w0 (rowS (Kd.slice 3 (Kd.int .i64)) 39 w0.heap.size (.slice AixgOx0 nixgOx0 cixgOx0) (lookO stepW stp8 (d - 1) l H out i) FixgOx0 :: blk gO #[.slice AixgOx0 nixgOx0 cixgOx0] 30 :: cs) W ∧ (i ≤ 10)) _ ⟨_, 0, _, _, _, _, rfl, fr_front [(0, .slice AH H.length cH), (1, .slice Al l.length cl), (2, .pointer (some ⟨gO, 0, none⟩)), (6, .int .i64 0)] ⟨rfl, rfl, rfl, rfl, trivial⟩, (hp.take [1, 0] 2 (by decide) (by simp)), Nat.zero_le _⟩ ?_
   rintro _ _ W_32 ⟨r_, i, AixgOx0, nixgOx0, cixgOx0, FixgOx0, rfl, rfl, hp, hi⟩
   obtain ⟨rfl, hccixgOx0⟩ := rowS_len (hp.at_ 0 _ (by rfl))
   refine wp_seq ?_
   refine wp_seq ?_
   refine sx_region ?_
   refine sx_rd 30 (.int .i64 (i : Int)) (by rfl) (by kernel_rfl) ?_
   refine sx_rd 31 (.bool (decide ((i : Int) ≤ 9))) (by rfl) (by kernel_rfl) ?_
   refine sx_nil ?_
   refine ex_then_n ?_
   refine sx_cond (decide ((i : Int) ≤ 9)) (by rfl) (fun c_33 => ?_) (fun c_33 => ?_)
   ·
    have c_33p := of_decide_eq_true c_33
    refine wp_skip ?_
    refine ex_then_n ?_
    refine wp_seq ?_
    refine wp_block ?_
    refine wp_seq ?_
    refine sx_region ?_
    refine sx_rd 34 (.slice Al l.length cl) (by rfl) (by kernel_rfl) ?_
    refine sx_rd 35 (.int .i64 (l.length : Int)) (by rfl) (by kernel_rfl) ?_
    refine sx_rd 36 (.int .i64 ((l.length : Int) % 2)) (by rfl) (rem_ok (by omega) (by kernel_rfl)) ?_
    refine sx_rd 37 (.bool true) (by rfl) (bv hev (by kernel_rfl)) ?_
    refine sx_nil ?_
    refine ex_then_n ?_
    refine sx_then true (by rfl) rfl ?_
    refine wp_seq ?_
    refine sx_region ?_
    refine sx_rd 7 (.int .i64 0) (by rfl) (by kernel_rfl) ?_
    refine sx_nil ?_
    refine ex_then_n ?_
    refine wp_block ?_
    have e0_34 : (lookO stepW stp8 (d - 1) l H out i) = (lookI stepW stp8 (d - 1) l H out i 0) := rfl
    have hp : Hp w0 (rowS (Kd.slice 3 (Kd.int .i64)) 39 w0.heap.size (.slice AixgOx0 ((lookO stepW stp8 (d - 1) l H out i).length) cixgOx0) (lookI stepW stp8 (d - 1) l H out i 0) FixgOx0 :: blk gO #[.slice AixgOx0 ((lookO stepW stp8 (d - 1) l H out i).length) cixgOx0] 30 :: cs) W_32 := by rw [← e0_34]; exact hp
    refine wp_loop_ghost (fun n_ a_ W => ∃ (r_ : List (Nat × Value)) (j : Nat) (AjxgOx0 : Option Addr) (njxgOx0 cjxgOx0 : Nat) (FjxgOx0 : Nat → Prop), n_ = 10 - j ∧ a_ = fr 61 ([(0, .slice AH H.length cH), (1, .slice Al l.length cl), (2, .pointer (some ⟨gO, 0, none⟩)), (6, .int .i64 (i : Int)), (7, .int .i64 (j : Int))] ++ r_) ∧ Hp w0 (rowS (Kd.slice 3 (Kd.int .i64)) 39 w0.heap.size (.slice AjxgOx0 njxgOx0 cjxgOx0) (lookI stepW stp8 (d - 1) l H out i j) FjxgOx0 :: blk gO #[.slice AjxgOx0 njxgOx0 cjxgOx0] 30 :: cs) W ∧ (j ≤ 10)) _ ⟨_, 0, _, _, _, _, rfl, fr_front [(0, .slice AH H.length cH), (1, .slice Al l.length cl), (2, .pointer (some ⟨gO, 0, none⟩)), (6, .int .i64 (i : Int)), (7, .int .i64 0)] ⟨rfl, rfl, rfl, rfl, rfl, trivial⟩, (hp.take [0, 1] 2 (by decide) (by simp)), Nat.zero_le _⟩ ?_
    rintro _ _ W_35 ⟨r_, j, AjxgOx0, njxgOx0, cjxgOx0, FjxgOx0, rfl, rfl, hp, hj⟩
    obtain ⟨rfl, hccjxgOx0⟩ := rowS_len (hp.at_ 0 _ (by rfl))
    refine wp_seq ?_
    refine wp_seq ?_
    refine sx_region ?_
    refine sx_rd 38 (.int .i64 (j : Int)) (by rfl) (by kernel_rfl) ?_
    refine sx_rd 39 (.bool (decide ((j : Int) ≤ 9))) (by rfl) (by kernel_rfl) ?_
    refine sx_nil ?_
    refine ex_then_n ?_
    refine sx_cond (decide ((j : Int) ≤ 9)) (by rfl) (fun c_36 => ?_) (fun c_36 => ?_)
    ·
     have c_36p := of_decide_eq_true c_36
     refine wp_skip ?_
     refine ex_then_n ?_
     refine wp_seq ?_
     refine wp_block ?_
     refine wp_seq ?_
     refine sx_region ?_
     refine sx_rd 42 (.int .i64 (i : Int)) (by rfl) (by kernel_rfl) ?_
     refine sx_rd 43 (.int .i64 (j : Int)) (by rfl) (by kernel_rfl) ?_
     refine sx_call 44 (by rfl) (by kernel_rfl) ((spec_tiOf.calls (i : Int) (j : Int) _ _ _ (spec_tiOf_eq _ _)).mono ?_)
     rintro _ W_37 ⟨rfl, hb⟩
     refine ⟨_, rfl, ?_⟩
     replace hp := hp.below hb
     clear hb
     refine sx_box 8 hp #[.int .i64 0, .int .i64 0] 50 (by rfl) (fun W => by kernel_rfl) ?_
     intro g_38 W_39 hp
     refine sx_store (t := 50) (p := (.tmp 8)) (x := (.tmp 44)) (by rfl) (by rfl) 0 (by rfl) 0 [.int .i64 ((tl (i : Int) (j : Int)).f0), .int .i64 ((tl (i : Int) (j : Int)).f1)] (by rfl) (by rfl) (by kernel_rfl) (by simp [Value.oneCell']) (by show 2 ≤ 2; omega) #[.int .i64 ((tl (i : Int) (j : Int)).f0), .int .i64 ((tl (i : Int) (j : Int)).f1)] (by rfl) hp ?_
     intro W_40 hp; simp only [List.set_cons_succ, List.set_cons_zero] at hp
     refine sx_nil ?_
     refine ex_then_n ?_
     refine wp_seq ?_
     refine wp_seq ?_
     refine sx_region ?_
     refine sx_rd 45 (.slice AH H.length cH) (by rfl) (by kernel_rfl) ?_
     refine sx_rd 46 (.agg #[.int .i64 ((tl (i : Int) (j : Int)).f0), .int .i64 ((tl (i : Int) (j : Int)).f1)]) (by rfl) (ldn (t := 50) (p := (.tmp 8)) (by rfl) (by rfl) (by kernel_rfl) (by kernel_rfl) (by kernel_rfl) (hp.at_ 0 _ (by rfl))) ?_
     obtain ⟨k_41, hk_k_41⟩ := Ev.rounds (tiPlace_ev H (by omega) (tl (i : Int) (j : Int)))
     refine sx_call 47 (by rfl) (by kernel_rfl) ((spec_tiPlace.calls k_41 AH cH H ((tl (i : Int) (j : Int)).f0) ((tl (i : Int) (j : Int)).f1) _ _ (hH _ hp.tail.tail.tail) hcH hk_k_41).mono ?_)
     rintro _ W_42 ⟨rfl, hb⟩
     refine ⟨_, rfl, ?_⟩
     replace hp := hp.below hb
     clear hb
     refine sx_rd 48 (.bool (decide ((idxT H (tl (i : Int) (j : Int))) < 0))) (by rfl) (by kernel_rfl) ?_
     refine sx_nil ?_
     refine ex_then_n ?_
     refine sx_cond (decide ((idxT H (tl (i : Int) (j : Int))) < 0)) (by rfl) (fun c_43 => ?_) (fun c_43 => ?_)
     ·
      have c_43p := of_decide_eq_true c_43
      refine wp_exit ?_
      refine ex_then_e (ex_blk_here ?_)
      refine ex_then_n ?_
      refine sx_region ?_
      refine sx_rd 40 (.int .i64 (j : Int)) (by rfl) (by kernel_rfl) ?_
      refine sx_rd 41 (.int .i64 ((j : Int) + 1)) (by rfl) (wr_ok (by omega) (by kernel_rfl)) ?_
      refine sx_rd 7 (.int .i64 ((j : Int) + 1)) (by rfl) (by kernel_rfl) ?_
      refine sx_nil ?_
      refine ex_then_n ?_
      have hq_44 : (lookI stepW stp8 (d - 1) l H out i j) = (lookI stepW stp8 (d - 1) l H out i (j + 1)) := (by rw [lookI_next, if_neg (idx_neg.1 c_43p)])
      rw [hq_44] at hp
      exact ⟨_, (by omega), _, (j + 1), _, _, _, _, rfl, fr_front [(0, .slice AH H.length cH), (1, .slice Al l.length cl), (2, .pointer (some ⟨gO, 0, none⟩)), (6, .int .i64 (i : Int)), (7, .int .i64 ((j + 1 : Nat) : Int))] ⟨rfl, rfl, rfl, rfl, rfl, trivial⟩, (hp.take [1, 2] 3 (by decide) (by simp)), (by omega)⟩
     ·
      have c_43p := of_decide_eq_false c_43
      have hbJ := Nat.le_trans (lookI_le stepW stp8 List.length (fun s l => (stepW_len s l).1) (d - 1) l H out i (j + 1) (by omega) (by omega)) hbO
      rw [lookI_next, if_pos (Decidable.not_not.1 (fun q => c_43p (idx_neg.2 q)))] at hbJ
      refine wp_skip ?_
      refine ex_then_n ?_
      refine sx_region ?_
      refine sx_rd 49 (.slice AH H.length cH) (by rfl) (by kernel_rfl) ?_
      refine sx_rd 50 (.agg #[.int .i64 ((tl (i : Int) (j : Int)).f0), .int .i64 ((tl (i : Int) (j : Int)).f1)]) (by rfl) (ldn (t := 50) (p := (.tmp 8)) (by rfl) (by rfl) (by kernel_rfl) (by kernel_rfl) (by kernel_rfl) (hp.at_ 0 _ (by rfl))) ?_
      refine sx_lit 51 (by rfl) k50 w0.heap.size 50 ([(tl (i : Int) (j : Int))]) [.int .i64 ((tl (i : Int) (j : Int)).f0), .int .i64 ((tl (i : Int) (j : Int)).f1)] (fun W => by kernel_rfl) (tile_reps _ _ _) (by simp) hp.size hp ?_
      intro g_45 F_46 W_47 hp hz; clear hz
      obtain ⟨k_48, hk_k_48⟩ := Ev.rounds (those_ev H (tl (i : Int) (j : Int)) (by omega))
      refine sx_call 52 (by rfl) (by kernel_rfl) ((spec_tiThose.calls k_48 AH cH H (some ⟨g_45, 0, none⟩) ([(tl (i : Int) (j : Int))].length) ([(tl (i : Int) (j : Int))]) false _ _ (hH _ hp.tail.tail.tail.tail) hcH (row_C (hp.at_ 0 _ (by rfl))) (row_len (hp.at_ 0 _ (by rfl))).2 hk_k_48).mono ?_)
      rintro _ W_54 ⟨v_50, rfl, hR_49, hb⟩
      refine ⟨_, rfl, ?_⟩
      obtain ⟨A_51, c_52, rfl, hcc_c_52, _⟩ := Kd.R_reads hR_49
      obtain ⟨F_53, hp⟩ : ∃ F, Hp w0 (row k50 50 w0.heap.size (.slice A_51 (lessT H (tl (i : Int) (j : Int))).length c_52) (lessT H (tl (i : Int) (j : Int))) F :: row k50 50 w0.heap.size (.slice (some ⟨g_45, 0, none⟩) ([(tl (i : Int) (j : Int))].length) ([(tl (i : Int) (j : Int))].length)) ([(tl (i : Int) (j : Int))]) F_46 :: blk g_38 #[.int .i64 ((tl (i : Int) (j : Int)).f0), .int .i64 ((tl (i : Int) (j : Int)).f1)] 50 :: rowS (Kd.slice 3 (Kd.int .i64)) 39 w0.heap.size (.slice AjxgOx0 ((lookI stepW stp8 (d - 1) l H out i j).length) cjxgOx0) (lookI stepW stp8 (d - 1) l H out i j) FjxgOx0 :: blk gO #[.slice AjxgOx0 ((lookI stepW stp8 (d - 1) l H out i j).length) cjxgOx0] 30 :: cs) _ := ⟨_, Hp.made hp hb hR_49⟩
      refine sx_rd 53 (.slice Al l.length cl) (by rfl) (by kernel_rfl) ?_
      refine sx_call 54 (by rfl) (by kernel_rfl) ((spec_l1Own.calls Al cl l _ _ (hL _ hp.tail.tail.tail.tail.tail) hcl (l1Own_eq l (by omega))).mono ?_)
      rintro _ W_60 ⟨v_56, rfl, hR_55, hb⟩
      refine ⟨_, rfl, ?_⟩
      obtain ⟨A_57, c_58, rfl, hcc_c_58, _⟩ := Kd.R_reads hR_55
      obtain ⟨F_59, hp⟩ : ∃ F, Hp w0 (row (Kd.int .i64) 3 w0.heap.size (.slice A_57 l.length c_58) l F :: row k50 50 w0.heap.size (.slice A_51 ((lessT H (tl (i : Int) (j : Int))).length) c_52) (lessT H (tl (i : Int) (j : Int))) F_53 :: row k50 50 w0.heap.size (.slice (some ⟨g_45, 0, none⟩) ([(tl (i : Int) (j : Int))].length) ([(tl (i : Int) (j : Int))].length)) ([(tl (i : Int) (j : Int))]) F_46 :: blk g_38 #[.int .i64 ((tl (i : Int) (j : Int)).f0), .int .i64 ((tl (i : Int) (j : Int)).f1)] 50 :: rowS (Kd.slice 3 (Kd.int .i64)) 39 w0.heap.size (.slice AjxgOx0 ((lookI stepW stp8 (d - 1) l H out i j).length) cjxgOx0) (lookI stepW stp8 (d - 1) l H out i j) FjxgOx0 :: blk gO #[.slice AjxgOx0 ((lookI stepW stp8 (d - 1) l H out i j).length) cjxgOx0] 30 :: cs) _ := ⟨_, Hp.made hp hb hR_55⟩
      refine sx_rd 55 (.int .i64 (i : Int)) (by rfl) (by kernel_rfl) ?_
      refine sx_rd 56 (.int .i64 (j : Int)) (by rfl) (by kernel_rfl) ?_
      refine sx_lit 57 (by rfl) (Kd.int .i64) w0.heap.size 3 ([(i : Int), (j : Int)]) [.int .i64 (i : Int), .int .i64 (j : Int)] (fun W => by kernel_rfl) (reps_ints [(i : Int), (j : Int)]) (by simp) hp.size hp ?_
      intro g_61 F_62 W_63 hp hz; clear hz
      refine sx_append 58 (by rfl) (Kd.int .i64) 1 (by rfl) (.int .i64 0) 8 (by rfl) Try.underlying39 (by kernel_rfl) rfl (by decide) (by decide) ([(i : Int), (j : Int)]) (by rfl) (by rfl) (row_C (hp.at_ 0 _ (by rfl))) (fun x cs h => h) hp.size (by first | omega | (simp; done) | (simp; omega)) hp ?_
      intro A_64 c_65 F_66 W_67 hp hz; clear hz; simp only [List.set_cons_succ, List.set_cons_zero] at hp
      refine sx_rd 59 (.pointer (some ⟨gO, 0, none⟩)) (by rfl) (by kernel_rfl) ?_
      refine sx_call 60 (by rfl) (by kernel_rfl) ((ih (d - 1) (by omega) w0 _ (row k50 50 w0.heap.size (.slice A_51 ((lessT H (tl (i : Int) (j : Int))).length) c_52) (lessT H (tl (i : Int) (j : Int))) F_53 :: row (Kd.int .i64) 3 w0.heap.size (.slice A_64 ((l ++ [(i : Int), (j : Int)]).length) c_65) (l ++ [(i : Int), (j : Int)]) F_66 :: row (Kd.int .i64) 3 w0.heap.size (.slice (some ⟨g_61, 0, none⟩) ([(i : Int), (j : Int)].length) ([(i : Int), (j : Int)].length)) ([(i : Int), (j : Int)]) F_62 :: row k50 50 w0.heap.size (.slice (some ⟨g_45, 0, none⟩) ([(tl (i : Int) (j : Int))].length) ([(tl (i : Int) (j : Int))].length)) ([(tl (i : Int) (j : Int))]) F_46 :: blk g_38 #[.int .i64 ((tl (i : Int) (j : Int)).f0), .int .i64 ((tl (i : Int) (j : Int)).f1)] 50 :: cs) (lessT H (tl (i : Int) (j : Int))) A_51 c_52 (by have := lessT_len H (tl (i : Int) (j : Int)); omega) (row_len (hp.at_ 2 _ (by rfl))).2 (fun W h => row_C (h.at_ 0 _ (by rfl))) (l ++ [(i : Int), (j : Int)]) A_64 c_65 (by simp; omega) (app9 h9 (by omega) (by omega)) (row_len (hp.at_ 1 _ (by rfl))).2 (fun W h => row_C (h.at_ 1 _ (by rfl))) (lookI stepW stp8 (d - 1) l H out i j) AjxgOx0 cjxgOx0 FjxgOx0 hbJ (hp.take [6, 5, 2, 1, 0, 3, 4] 7 (by decide) (by simp))).mono ?_)
      rintro _ W_68 ⟨A2, c2, F2, rfl, hp⟩
      refine ⟨_, rfl, ?_⟩
      refine sx_nil ?_
      refine ex_blk_n ?_
      refine ex_then_n ?_
      refine sx_region ?_
      refine sx_rd 40 (.int .i64 (j : Int)) (by rfl) (by kernel_rfl) ?_
      refine sx_rd 41 (.int .i64 ((j : Int) + 1)) (by rfl) (wr_ok (by omega) (by kernel_rfl)) ?_
      refine sx_rd 7 (.int .i64 ((j : Int) + 1)) (by rfl) (by kernel_rfl) ?_
      refine sx_nil ?_
      refine ex_then_n ?_
      have hq_69 : (lookS stepW stp8 (d - 1) (l ++ [(i : Int), (j : Int)]) (lessT H (tl (i : Int) (j : Int))) (lookI stepW stp8 (d - 1) l H out i j)) = (lookI stepW stp8 (d - 1) l H out i (j + 1)) := (by rw [lookI_next, if_pos (Decidable.not_not.1 (fun q => c_43p (idx_neg.2 q)))])
      rw [hq_69] at hp
      exact ⟨_, (by omega), _, (j + 1), _, _, _, _, rfl, fr_front [(0, .slice AH H.length cH), (1, .slice Al l.length cl), (2, .pointer (some ⟨gO, 0, none⟩)), (6, .int .i64 (i : Int)), (7, .int .i64 ((j + 1 : Nat) : Int))] ⟨rfl, rfl, rfl, rfl, rfl, trivial⟩, (hp.take [1, 0] 7 (by decide) (by simp)), (by omega)⟩
    ·
     have c_36p := of_decide_eq_false c_36
     refine wp_exit ?_
     refine ex_then_e (ex_then_e (ex_blk_here ?_))
     refine ex_blk_n ?_
     refine ex_then_n ?_
     refine sx_region ?_
     refine sx_rd 32 (.int .i64 (i : Int)) (by rfl) (by kernel_rfl) ?_
     refine sx_rd 33 (.int .i64 ((i : Int) + 1)) (by rfl) (wr_ok (by omega) (by kernel_rfl)) ?_
     refine sx_rd 6 (.int .i64 ((i : Int) + 1)) (by rfl) (by kernel_rfl) ?_
     refine sx_nil ?_
     refine ex_then_n ?_
     have hq_70 : (lookI stepW stp8 (d - 1) l H out i j) = (lookO stepW stp8 (d - 1) l H out (i + 1)) := (by rw [show j = 10 by omega]; exact (lookO_next stepW stp8 (d - 1) l H out i).symm)
     rw [hq_70] at hp
     exact ⟨_, (by omega), _, (i + 1), _, _, _, _, rfl, fr_front [(0, .slice AH H.length cH), (1, .slice Al l.length cl), (2, .pointer (some ⟨gO, 0, none⟩)), (6, .int .i64 ((i + 1 : Nat) : Int))] ⟨rfl, rfl, rfl, rfl, trivial⟩, (hp.take [0, 1] 2 (by decide) (by simp)), (by omega)⟩
   ·
    have c_33p := of_decide_eq_false c_33
    refine wp_exit ?_
    refine ex_then_e (ex_then_e (ex_blk_here ?_))
    refine sx_end_n (.tuple #[]) (res0 (by rfl)) ?_
    obtain rfl : i = 10 := by omega
    have hp := hp
    rw [lookO_all _ _ _ _ _ _ hst, show d - 1 + 1 = d by omega] at hp
    exact ⟨_, _, _, rfl, (hp.take [1, 0] 2 (by decide) (by simp))⟩
end Go.Proofs.Ytbkaedmabdgdhaa.Hd
