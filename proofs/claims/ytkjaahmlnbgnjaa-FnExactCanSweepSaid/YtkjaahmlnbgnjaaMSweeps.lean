/- impl.sweeps with its closure, by hand. -/
import Derived.Test.YtkjaahmlnbgnjaaMLess
import Derived.Test.YtkjaahmlnbgnjaaMFitting
import Derived.Test.YtkjaahmlnbgnjaaPLaid
namespace Go.Proofs.Ytkjaahmlnbgnjaa.Hd
open Go.RowKit Go.Proofs.Ytkjaahmlnbgnjaa.Pure Go.Proofs.YtkjaahmlnbgnjaaW.PrintWords Go.Proofs.YtkjaahmlnbgnjaaW.PrintLast Go.Proofs.YtkjaahmlnbgnjaaW.PrintMore
set_option linter.unusedVariables false
set_option linter.unusedSimpArgs false
theorem less_eq {a b : List S_Tile} (h : handB a = true) (hb : b.length ≤ 1000) : impl_less.f a b = some (lessS a b) := by unfold impl_less.f; rw [if_pos ⟨h, hb⟩]
def SwOk (d : Nat) : Prop := ∀ (w0 W : World) (cs : List Chunk) (h : List S_Tile) (r : List Int) (AH : Option Addr) (cH : Nat) (AR : Option Addr) (cR : Nat), handB h = true → h.length < d → r.length + 2 * d ≤ 2000000 → h.length ≤ cH → r.length ≤ cR → (∀ W, Hp w0 cs W → Kd.C k79 W AH h.length h) → (∀ W, Hp w0 cs W → Kd.C (Kd.int .i64) W AR r.length r) → Hp w0 cs W → Calls Try.prog 54 #[.slice AH h.length cH, .slice AR r.length cR] W fun e W' => e = .returned (.bool (swI d h r)) ∧ Hp w0 cs W'
def ClOk (d : Nat) : Prop := ∀ (w0 W : World) (cs : List Chunk) (h : List S_Tile) (r : List Int) (AH : Option Addr) (cH : Nat) (AR : Option Addr) (cR : Nat) (gh gr : Nat) (x : S_plLay) (mv : ByteArray), handB h = true → h.length ≤ d → r.length + 2 * d + 2 ≤ 2000000 → h.length ≤ cH → r.length ≤ cR → FitOk h r x → mv = txt x → (∀ W, Hp w0 cs W → Kd.C k79 W AH h.length h) → (∀ W, Hp w0 cs W → Kd.C (Kd.int .i64) W AR r.length r) → Hp w0 (blk gh #[.slice AH h.length cH] 39 :: blk gr #[.slice AR r.length cR] 33 :: cs) W → Calls Try.prog 86 #[.string mv, .pointer (some ⟨gh, 0, none⟩), .pointer (some ⟨gr, 0, none⟩)] W fun e W' => e = .returned (.bool (stepI d h r x)) ∧ Hp w0 (blk gh #[.slice AH h.length cH] 39 :: blk gr #[.slice AR r.length cR] 33 :: cs) W'
set_option maxRecDepth 100000 in
set_option maxHeartbeats 40000000 in
theorem cl_of (d : Nat) (hS : SwOk d) : ClOk d := by
 intro w0 W cs h r AH cH AR cR gh gr x mv hbH hlen hrl hcH hcR hfit hmv hCH hCR hp
 subst hmv
 obtain ⟨hx2, hxm, hgx, hx0, hxh⟩ := hfit
 have hlt := lessS_lt hbH hxm
 have hrp := rowP_len r x
 refine sx_enter (N := 14) (l := [.string (txt x), .pointer (some ⟨gh, 0, none⟩), .pointer (some ⟨gr, 0, none⟩)]) Try.func86 rfl rfl rfl ?_
 refine wp_seq ?_
 refine sx_region ?_
 refine sx_rd 4 (.bool false) (by rfl) (by kernel_rfl) ?_
 refine sx_nil ?_
 refine ex_then_n ?_
 refine wp_seq ?_
 refine sx_drawT [1, 6] (.rd 0 (.rd 5 (.alt 2 (.alt 3 (.alt 4 (.alt 7 (.alt 8 (.rd 9 (.fin)) .non) .non) .non) .non) .non))) 10 (C := Hp w0 (blk gh #[.slice AH h.length cH] 39 :: blk gr #[.slice AR r.length cR] 33 :: cs)) (by kernel_rfl) (by kernel_rfl) (fun d _ _ _ _ h => by cases d <;> exact h) (fun W h => h.drew) hp ?_
 refine preI_read rfl ?_
 refine sxq_val 6 (.string (txt x)) (by rfl) (fun W _ => (by kernel_rfl)) ?_
 refine sxq_nil ?_
 refine preI_read rfl ?_
 refine sxq_val 11 (.string (txt x)) (by rfl) (fun W _ => (by kernel_rfl)) ?_
 refine sxq_nil ?_
 refine preI_nil ?_
 intro W_1 hp
 refine treeI_rd rfl ?_
 refine sxq_val 5 (.slice AH h.length cH) (by rfl) (fun W hp => (ld1 (t := 39) (p := (.tmp 1)) (by rfl) (by rfl) (by kernel_rfl) (hp.cell 0 (by rfl) 0 _ (by rfl)))) ?_
 refine sxq_nil ?_
 refine treeI_rd rfl ?_
 refine sxq_val 10 (.slice AR r.length cR) (by rfl) (fun W hp => (ld1 (t := 33) (p := (.tmp 2)) (by rfl) (by rfl) (by kernel_rfl) (hp.cell 1 (by rfl) 0 _ (by rfl)))) ?_
 refine sxq_nil ?_
 refine treeI_ev rfl ?_
 refine sx_call 7 (by rfl) (by kernel_rfl) ((impl_moved.calls (txt x) _ _ _ ((moved_eq hx2 hgx).1)).mono ?_)
 rintro _ W_2 ⟨rfl, hb⟩
 refine ⟨_, rfl, ?_⟩
 replace hp := hp.below hb
 clear hb
 refine step_fin hp ?_
 refine treeI_ev rfl ?_
 refine sx_lit 8 (by rfl) k79 w0.heap.size 79 ([x.f0]) [.int .i64 x.f0.f0, .int .i64 x.f0.f1] (fun W => by kernel_rfl) (tile_reps _ _ _) (by simp) hp.size hp ?_
 intro g_3 F_4 W_5 hp hz; clear hz
 refine step_fin hp.tail ?_
 refine treeI_ev rfl ?_
 refine sx_call 9 (by rfl) (by kernel_rfl) ((impl_less.calls AH cH h (some ⟨g_3, 0, none⟩) ([x.f0].length) ([x.f0]) _ _ (hCH _ hp.tail.tail.tail) hcH (row_C (hp.at_ 0 _ (by rfl))) (row_len (hp.at_ 0 _ (by rfl))).2 (less_eq hbH (by simp))).mono ?_)
 rintro _ W_11 ⟨v_7, rfl, hR_6, hb⟩
 refine ⟨_, rfl, ?_⟩
 obtain ⟨A_8, c_9, rfl, hcc_c_9, _⟩ := Kd.R_reads hR_6
 obtain ⟨F_10, hp⟩ : ∃ F, Hp w0 (row k79 79 w0.heap.size (.slice A_8 (lessS h [x.f0]).length c_9) (lessS h [x.f0]) F :: row k79 79 w0.heap.size (.slice (some ⟨g_3, 0, none⟩) ([x.f0].length) ([x.f0].length)) ([x.f0]) F_4 :: blk gh #[.slice AH h.length cH] 39 :: blk gr #[.slice AR r.length cR] 33 :: cs) _ := ⟨_, Hp.made hp hb hR_6⟩
 refine step_fin hp.tail.tail ?_
 refine treeI_ev rfl ?_
 obtain ⟨k_12, hk_k_12⟩ := Ev.rounds (laid_ev r hx2 hgx hx0 hxh (by omega))
 refine sx_call 12 (by rfl) (by kernel_rfl) ((impl_laid.calls k_12 _ AR cR r (txt x) _ _ (Kd.V_mk hcR (Kd.C_F (Kd.heap_int _) (hCR _ hp.tail.tail.tail.tail))) hk_k_12).mono ?_)
 rintro _ W_18 ⟨v_14, rfl, hR_13, hb⟩
 refine ⟨_, rfl, ?_⟩
 obtain ⟨A_15, c_16, rfl, hcc_c_16, _⟩ := Kd.R_reads hR_13
 obtain ⟨F_17, hp⟩ : ∃ F, Hp w0 (row (Kd.int .i64) 3 w0.heap.size (.slice A_15 (rowP r x).length c_16) (rowP r x) F :: row k79 79 w0.heap.size (.slice A_8 ((lessS h [x.f0]).length) c_9) (lessS h [x.f0]) F_10 :: row k79 79 w0.heap.size (.slice (some ⟨g_3, 0, none⟩) ([x.f0].length) ([x.f0].length)) ([x.f0]) F_4 :: blk gh #[.slice AH h.length cH] 39 :: blk gr #[.slice AR r.length cR] 33 :: cs) _ := ⟨_, Hp.made hp hb hR_13⟩
 refine step_fin hp.tail.tail.tail ?_
 refine treeI_ev rfl ?_
 refine sx_call 13 (by rfl) (by kernel_rfl) ((hS w0 _ (row (Kd.int .i64) 3 w0.heap.size (.slice A_15 ((rowP r x).length) c_16) (rowP r x) F_17 :: row k79 79 w0.heap.size (.slice A_8 ((lessS h [x.f0]).length) c_9) (lessS h [x.f0]) F_10 :: row k79 79 w0.heap.size (.slice (some ⟨g_3, 0, none⟩) ([x.f0].length) ([x.f0].length)) ([x.f0]) F_4 :: blk gh #[.slice AH h.length cH] 39 :: blk gr #[.slice AR r.length cR] 33 :: cs) (lessS h [x.f0]) (rowP r x) A_8 c_9 A_15 c_16 (lessS_hand hbH _) (by omega) (by omega) (row_len (hp.at_ 1 _ (by rfl))).2 (row_len (hp.at_ 0 _ (by rfl))).2 (fun W h => row_C (h.at_ 1 _ (by rfl))) (fun W h => row_C (h.at_ 0 _ (by rfl))) hp).mono ?_)
 rintro _ W_19 ⟨rfl, hp⟩
 refine ⟨_, rfl, ?_⟩
 refine step_fin hp.tail.tail.tail ?_
 refine treeI_rd rfl ?_
 refine sxq_val 4 (.bool (stepI d h r x)) (by rfl) (fun W hp => (by kernel_rfl)) ?_
 refine sxq_nil ?_
 refine treeI_fin ?_
 refine sx_nil ?_
 refine ex_then_n ?_
 refine wp_ret ?_
 refine sx_end (.bool (stepI d h r x)) (res1 4 (by rfl)) ?_
 exact ⟨rfl, (hp.take [3, 4] 5 (by decide) (by simp))⟩
set_option maxRecDepth 100000 in
set_option maxHeartbeats 40000000 in
theorem idxSw_sx (d : Nat) (hC : ClOk d) {w0 W : World} {cs : List Chunk} {h : List S_Tile} {r : List Int} {AH : Option Addr} {cH : Nat} {AR : Option Addr} {cR : Nat} {gh gr : Nat} {base c : Nat} {A : Option Addr} {F : Nat → Prop} (L : List S_plLay) (hL : L.length ≤ 100000) (hfit : ∀ x ∈ L, FitOk h r x) (hbH : handB h = true) (hlen : h.length ≤ d) (hrl : r.length + 2 * d + 2 ≤ 2000000) (hcH : h.length ≤ cH) (hcR : r.length ≤ cR) (hCH : ∀ W, Hp w0 cs W → Kd.C k79 W AH h.length h) (hCR : ∀ W, Hp w0 cs W → Kd.C (Kd.int .i64) W AR r.length r) (hp : Hp w0 (row Kd.string 9 base (.slice A ((L.map txt).length) c) (L.map txt) F :: blk gh #[.slice AH h.length cH] 39 :: blk gr #[.slice AR r.length cR] 33 :: cs) W) : Calls Try.prog 117 #[.slice A ((L.map txt).length) c, .func (.func 86) #[] #[.pointer (some ⟨gh, 0, none⟩), .pointer (some ⟨gr, 0, none⟩)]] W fun e W' => ∃ z : Int, e = .returned (.int .i64 z) ∧ (decide (z ≥ 0)) = L.any (stepI d h r) ∧ Hp w0 (row Kd.string 9 base (.slice A ((L.map txt).length) c) (L.map txt) F :: blk gh #[.slice AH h.length cH] 39 :: blk gr #[.slice AR r.length cR] 33 :: cs) W' := by
 have hml : (L.map txt).length = L.length := List.length_map _
 refine sx_enter (N := 19) (l := [.slice A ((L.map txt).length) c, .func (.func 86) #[] #[.pointer (some ⟨gh, 0, none⟩), .pointer (some ⟨gr, 0, none⟩)]]) Try.func117 rfl rfl rfl ?_
 refine wp_seq ?_
 refine sx_region ?_
 refine sx_rd 4 (.int .i64 0) (by rfl) (by kernel_rfl) ?_
 refine sx_nil ?_
 refine ex_then_n ?_
 refine wp_seq ?_
 refine wp_seq ?_
 refine sx_region ?_
 refine sx_rd 6 (.slice A ((L.map txt).length) c) (by rfl) (by kernel_rfl) ?_
 refine sx_rd 7 (.int .i64 ((L.map txt).length : Int)) (by rfl) (by kernel_rfl) ?_
 refine sx_rd 8 (.int .i64 0) (by rfl) (by kernel_rfl) ?_
 refine sx_nil ?_
 refine ex_then_n ?_
 refine wp_block ?_
 refine wp_loop_ghost (fun n_ a_ W => ∃ (r_ : List (Nat × Value)) (i : Nat) , n_ = L.length - i ∧ a_ = fr 19 ([(0, .slice A ((L.map txt).length) c), (1, .func (.func 86) #[] #[.pointer (some ⟨gh, 0, none⟩), .pointer (some ⟨gr, 0, none⟩)]), (7, .int .i64 ((L.map txt).length : Int)), (8, .int .i64 (i : Int))] ++ r_) ∧ Hp w0 (row Kd.string 9 base (.slice A ((L.map txt).length) c) (L.map txt) F :: blk gh #[.slice AH h.length cH] 39 :: blk gr #[.slice AR r.length cR] 33 :: cs) W ∧ (i ≤ L.length) ∧ (∀ j, j < i → stepI d h r (rd_plLay L (j : Int)) = false)) _ ⟨_, 0, rfl, fr_front [(0, .slice A ((L.map txt).length) c), (1, .func (.func 86) #[] #[.pointer (some ⟨gh, 0, none⟩), .pointer (some ⟨gr, 0, none⟩)]), (7, .int .i64 ((L.map txt).length : Int)), (8, .int .i64 0)] ⟨rfl, rfl, rfl, rfl, trivial⟩, (hp.take [0, 1, 2] 3 (by decide) (by simp)), Nat.zero_le _, (fun j hj => absurd hj (Nat.not_lt_zero _))⟩ ?_
 rintro _ _ W_1 ⟨r_, i, rfl, rfl, hp, hi, hall⟩
 refine wp_seq ?_
 refine sx_region ?_
 refine sx_rd 9 (.bool (decide ((i : Int) < ((L.map txt).length : Int)))) (by rfl) (by kernel_rfl) ?_
 refine sx_nil ?_
 refine ex_then_n ?_
 refine wp_seq ?_
 refine sx_cond (decide ((i : Int) < ((L.map txt).length : Int))) (by rfl) (fun c_2 => ?_) (fun c_2 => ?_)
 ·
  have c_2p := of_decide_eq_true c_2
  have hmi : rd_plLay L (i : Int) ∈ L := by rw [rdLay_lt (show i < L.length by omega)]; exact List.getElem_mem _
  refine wp_skip ?_
  refine ex_then_n ?_
  refine wp_seq ?_
  refine wp_block ?_
  refine wp_seq ?_
  refine sx_region ?_
  refine sx_rd 10 (.int .i64 (i : Int)) (by rfl) (by kernel_rfl) ?_
  refine sx_rd 5 (.int .i64 (i : Int)) (by rfl) (by kernel_rfl) ?_
  refine sx_nil ?_
  refine ex_then_n ?_
  refine wp_seq ?_
  refine sx_region ?_
  refine sx_rd 11 (.func (.func 86) #[] #[.pointer (some ⟨gh, 0, none⟩), .pointer (some ⟨gr, 0, none⟩)]) (by rfl) (by kernel_rfl) ?_
  refine sx_rd 12 (.slice A ((L.map txt).length) c) (by rfl) (by kernel_rfl) ?_
  refine sx_rd 13 (.int .i64 (i : Int)) (by rfl) (by kernel_rfl) ?_
  refine sx_rd 14 (.pointer (some (adr A (i : Int) 1))) (by rfl) (ix_run (d := Kd.string) (row_C (hp.at_ 0 _ (by rfl))) (t := 45) (by rfl) (by rfl) (by rfl) Try.underlying45 (by kernel_rfl) (by omega) (by omega)) ?_
  refine sx_rd 15 (.string (rdOf ByteArray.empty (L.map txt) (i : Int))) (by rfl) (ld1 (t := 9) (p := (.tmp 14)) (by rfl) (by rfl) (by kernel_rfl) (el_cell (d := Kd.string) (row_C (hp.at_ 0 _ (by rfl))) ByteArray.empty (i : Int) (by omega) (by omega) (cells := [.string (rdOf ByteArray.empty (L.map txt) (i : Int))]) (fun cs h => h) 0 _ (by rfl))) ?_
  refine sx_call 16 (by rfl) (by kernel_rfl) ((hC w0 _ (row Kd.string 9 base (.slice A ((L.map txt).length) c) (L.map txt) F :: cs) h r AH cH AR cR gh gr (rd_plLay L (i : Int)) _ hbH hlen hrl hcH hcR (hfit _ hmi) (rdOf_lay (by omega)) (fun W h => hCH W h.tail) (fun W h => hCR W h.tail) (hp.take [1, 2, 0] 3 (by decide) (by simp))).mono ?_)
  rintro _ W_3 ⟨rfl, hp⟩
  refine ⟨_, rfl, ?_⟩
  replace hp : Hp w0 (row Kd.string 9 base (.slice A ((L.map txt).length) c) (L.map txt) F :: blk gh #[.slice AH h.length cH] 39 :: blk gr #[.slice AR r.length cR] 33 :: cs) _ := (hp.take [2, 0, 1] 3 (by decide) (by simp))
  refine sx_nil ?_
  refine ex_then_n ?_
  refine sx_cond (stepI d h r (rd_plLay L (i : Int))) (by rfl) (fun c_4 => ?_) (fun c_4 => ?_)
  ·
   refine wp_seq ?_
   refine sx_region ?_
   refine sx_rd 17 (.int .i64 (i : Int)) (by rfl) (by kernel_rfl) ?_
   refine sx_rd 4 (.int .i64 (i : Int)) (by rfl) (by kernel_rfl) ?_
   refine sx_nil ?_
   refine ex_then_n ?_
   refine wp_ret ?_
   refine ex_blk_r (ex_then_r (ex_then_r (ex_blk_r (ex_then_r ?_))))
   refine sx_end (.int .i64 (i : Int)) (res1 4 (by rfl)) ?_
   exact ⟨_, rfl, by rw [any_hit (by omega) c_4]; simp, (hp.take [0, 1, 2] 3 (by decide) (by simp))⟩
  ·
   refine wp_skip ?_
   refine ex_blk_n ?_
   refine ex_then_n ?_
   refine sx_region ?_
   refine sx_rd 18 (.int .i64 ((i : Int) + 1)) (by rfl) (wr_ok (by omega) (by kernel_rfl)) ?_
   refine sx_rd 8 (.int .i64 ((i : Int) + 1)) (by rfl) (by kernel_rfl) ?_
   refine sx_nil ?_
   refine ex_then_n ?_
   exact ⟨_, (by omega), _, (i + 1), rfl, fr_front [(0, .slice A ((L.map txt).length) c), (1, .func (.func 86) #[] #[.pointer (some ⟨gh, 0, none⟩), .pointer (some ⟨gr, 0, none⟩)]), (7, .int .i64 ((L.map txt).length : Int)), (8, .int .i64 ((i + 1 : Nat) : Int))] ⟨rfl, rfl, rfl, rfl, trivial⟩, (hp.take [0, 1, 2] 3 (by decide) (by simp)), (by omega), (fun j hj => by rcases Nat.lt_succ_iff_lt_or_eq.1 hj with q | rfl; exact hall j q; exact (by simpa using c_4))⟩
 ·
  have c_2p := of_decide_eq_false c_2
  refine wp_exit ?_
  refine ex_then_e (ex_then_e (ex_blk_here ?_))
  refine ex_then_n ?_
  refine wp_seq ?_
  refine sx_region ?_
  refine sx_rd 4 (.int .i64 (-1)) (by rfl) (by kernel_rfl) ?_
  refine sx_nil ?_
  refine ex_then_n ?_
  refine wp_ret ?_
  refine sx_end (.int .i64 (-1)) (res1 4 (by rfl)) ?_
  obtain rfl : i = L.length := by omega
  exact ⟨_, rfl, by rw [any_none hall]; simp, (hp.take [0, 1, 2] 3 (by decide) (by simp))⟩
set_option maxRecDepth 100000 in
set_option maxHeartbeats 40000000 in
theorem contSw_sx (d : Nat) (hC : ClOk d) {w0 W : World} {cs : List Chunk} {h : List S_Tile} {r : List Int} {AH : Option Addr} {cH : Nat} {AR : Option Addr} {cR : Nat} {gh gr : Nat} {base c : Nat} {A : Option Addr} {F : Nat → Prop} (L : List S_plLay) (hL : L.length ≤ 100000) (hfit : ∀ x ∈ L, FitOk h r x) (hbH : handB h = true) (hlen : h.length ≤ d) (hrl : r.length + 2 * d + 2 ≤ 2000000) (hcH : h.length ≤ cH) (hcR : r.length ≤ cR) (hCH : ∀ W, Hp w0 cs W → Kd.C k79 W AH h.length h) (hCR : ∀ W, Hp w0 cs W → Kd.C (Kd.int .i64) W AR r.length r) (hp : Hp w0 (row Kd.string 9 base (.slice A ((L.map txt).length) c) (L.map txt) F :: blk gh #[.slice AH h.length cH] 39 :: blk gr #[.slice AR r.length cR] 33 :: cs) W) : Calls Try.prog 84 #[.slice A ((L.map txt).length) c, .func (.func 86) #[] #[.pointer (some ⟨gh, 0, none⟩), .pointer (some ⟨gr, 0, none⟩)]] W fun e W' => e = .returned (.bool (L.any (stepI d h r))) ∧ Hp w0 (row Kd.string 9 base (.slice A ((L.map txt).length) c) (L.map txt) F :: blk gh #[.slice AH h.length cH] 39 :: blk gr #[.slice AR r.length cR] 33 :: cs) W' := by
 refine sx_enter (N := 9) (l := [.slice A ((L.map txt).length) c, .func (.func 86) #[] #[.pointer (some ⟨gh, 0, none⟩), .pointer (some ⟨gr, 0, none⟩)]]) Try.func84 rfl rfl rfl ?_
 refine wp_seq ?_
 refine sx_region ?_
 refine sx_rd 4 (.bool false) (by rfl) (by kernel_rfl) ?_
 refine sx_nil ?_
 refine ex_then_n ?_
 refine wp_seq ?_
 refine sx_region ?_
 refine sx_rd 5 (.slice A ((L.map txt).length) c) (by rfl) (by kernel_rfl) ?_
 refine sx_rd 6 (.func (.func 86) #[] #[.pointer (some ⟨gh, 0, none⟩), .pointer (some ⟨gr, 0, none⟩)]) (by rfl) (by kernel_rfl) ?_
 refine sx_call 7 (by rfl) (by kernel_rfl) ((idxSw_sx d hC L hL hfit hbH hlen hrl hcH hcR hCH hCR (hp.take [0, 1, 2] 3 (by decide) (by simp))).mono ?_)
 rintro _ W_1 ⟨z, rfl, hz, hp⟩
 refine ⟨_, rfl, ?_⟩
 refine sx_rd 8 (.bool (decide (z ≥ 0))) (by rfl) (by kernel_rfl) ?_
 refine sx_rd 4 (.bool (decide (z ≥ 0))) (by rfl) (by kernel_rfl) ?_
 refine sx_nil ?_
 refine ex_then_n ?_
 refine wp_ret ?_
 refine sx_end (.bool (decide (z ≥ 0))) (res1 4 (by rfl)) ?_
 exact ⟨congrArg (fun b => Ending.returned (.bool b)) hz, (hp.take [0, 1, 2] 3 (by decide) (by simp))⟩
theorem fitting_eqS {h : List S_Tile} (hbH : handB h = true) (r : List Int) (hr : r.length ≤ 2000000) : impl_fitting.f h r = some ((fitTo r (sortT h) (sortT h).length).map txt) := by unfold impl_fitting.f; rw [if_pos ⟨hbH, hr⟩]
set_option maxRecDepth 100000 in
set_option maxHeartbeats 40000000 in
theorem sw_of (d : Nat) (hC : ClOk d) : SwOk (d + 1) := by
 intro w0 W cs h r AH cH AR cR hbH hlen hrl hcH hcR hCH hCR hp
 refine sx_enter (N := 13) (l := [.slice AH h.length cH, .slice AR r.length cR]) Try.func54 rfl rfl rfl ?_
 refine wp_seq ?_
 refine sx_region ?_
 refine sx_box 2 hp #[.slice AH h.length cH] 39 (by rfl) (fun W => by kernel_rfl) ?_
 intro g_1 W_2 hp
 refine sx_box 3 hp #[.slice AR r.length cR] 33 (by rfl) (fun W => by kernel_rfl) ?_
 intro g_3 W_4 hp
 refine sx_rd 4 (.bool false) (by rfl) (by kernel_rfl) ?_
 refine sx_nil ?_
 refine ex_then_n ?_
 refine wp_seq ?_
 refine wp_seq ?_
 refine sx_region ?_
 refine sx_rd 5 (.slice AH h.length cH) (by rfl) (ld1 (t := 39) (p := (.tmp 2)) (by rfl) (by rfl) (by kernel_rfl) (hp.cell 1 (by rfl) 0 _ (by rfl))) ?_
 refine sx_rd 6 (.int .i64 (h.length : Int)) (by rfl) (by kernel_rfl) ?_
 refine sx_rd 7 (.bool ((h.length : Int) == 0)) (by rfl) (by kernel_rfl) ?_
 refine sx_nil ?_
 refine ex_then_n ?_
 refine sx_cond ((h.length : Int) == 0) (by rfl) (fun c_5 => ?_) (fun c_5 => ?_)
 ·
  have c_5p := eq_of_beq_ c_5
  refine wp_seq ?_
  refine sx_region ?_
  refine sx_rd 4 (.bool true) (by rfl) (by kernel_rfl) ?_
  refine sx_nil ?_
  refine ex_then_n ?_
  refine wp_ret ?_
  refine ex_then_r ?_
  refine sx_end (.bool true) (res1 4 (by rfl)) ?_
  rw [swI_succ, if_pos (by omega)]
  exact ⟨rfl, hp.tail.tail⟩
 ·
  have c_5p := ne_of_beq_ c_5
  refine wp_skip ?_
  refine ex_then_n ?_
  refine wp_seq ?_
  refine sx_region ?_
  refine sx_rd 8 (.slice AH h.length cH) (by rfl) (ld1 (t := 39) (p := (.tmp 2)) (by rfl) (by rfl) (by kernel_rfl) (hp.cell 1 (by rfl) 0 _ (by rfl))) ?_
  refine sx_rd 9 (.slice AR r.length cR) (by rfl) (ld1 (t := 33) (p := (.tmp 3)) (by rfl) (by rfl) (by kernel_rfl) (hp.cell 0 (by rfl) 0 _ (by rfl))) ?_
  refine sx_call 10 (by rfl) (by kernel_rfl) ((impl_fitting.calls AH cH h AR cR r _ _ (hCH _ hp.tail.tail) hcH (hCR _ hp.tail.tail) hcR (fitting_eqS hbH r (by omega))).mono ?_)
  rintro _ W_11 ⟨v_7, rfl, hR_6, hb⟩
  refine ⟨_, rfl, ?_⟩
  obtain ⟨A_8, c_9, rfl, hcc_c_9, _⟩ := Kd.R_reads hR_6
  obtain ⟨F_10, hp⟩ : ∃ F, Hp w0 (row Kd.string 9 w0.heap.size (.slice A_8 ((fitTo r (sortT h) (sortT h).length).map txt).length c_9) ((fitTo r (sortT h) (sortT h).length).map txt) F :: blk g_3 #[.slice AR r.length cR] 33 :: blk g_1 #[.slice AH h.length cH] 39 :: cs) _ := ⟨_, Hp.made hp hb hR_6⟩
  refine sx_rd 11 (.func (.func 86) #[] #[.pointer (some ⟨g_1, 0, none⟩), .pointer (some ⟨g_3, 0, none⟩)]) (by rfl) (by kernel_rfl) ?_
  refine sx_call 12 (by rfl) (by kernel_rfl) ((contSw_sx d hC (fitTo r (sortT h) (sortT h).length) (by have q := fitTo_len r (sortT h) (sortT h).length (Nat.le_refl _); have q2 := sortT_len h; omega) (fun x hx => fit_mem hbH hx) hbH (by omega) (by omega) hcH hcR (fun W h => hCH W h) (fun W h => hCR W h) (hp.take [0, 2, 1] 3 (by decide) (by simp))).mono ?_)
  rintro _ W_12 ⟨rfl, hp⟩
  refine ⟨_, rfl, ?_⟩
  refine sx_rd 4 (.bool ((fitTo r (sortT h) (sortT h).length).any (stepI d h r))) (by rfl) (by kernel_rfl) ?_
  refine sx_nil ?_
  refine ex_then_n ?_
  refine wp_ret ?_
  refine sx_end (.bool ((fitTo r (sortT h) (sortT h).length).any (stepI d h r))) (res1 4 (by rfl)) ?_
  rw [swI_succ, if_neg (by omega)]
  exact ⟨rfl, hp.tail.tail.tail⟩
theorem sw_all : ∀ d, SwOk d := by
 intro d
 induction d with
 | zero => intro w0 W cs h r AH cH AR cR hbH hlen; omega
 | succ d ih => exact sw_of d (cl_of d ih)
end Go.Proofs.Ytkjaahmlnbgnjaa.Hd
