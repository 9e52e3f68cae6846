/- impl.laidOut's recursion with the closure of magic, by hand. -/
import Derived.Test.YtbkaedmabdgdhaaMMgE
import Derived.Test.YtbkaedmabdgdhaaMSx3
import Derived.Test.YtbkaedmabdgdhaaMCut
import Derived.Test.YtbkaedmabdgdhaaMSx4
import Derived.Test.YtbkaedmabdgdhaaMTileR
import Derived.Test.YtbkaedmabdgdhaaPTile0
namespace Go.Proofs.Ytbkaedmabdgdhaa.Hd
open Go.RowKit Go.Proofs.Ytbkaedmabdgdhaa.Pure Go.Proofs.YtbkaedmabdgdhaaW.PrintWords Go.Proofs.YtbkaedmabdgdhaaW.PrintLast Go.Proofs.YtbkaedmabdgdhaaW.PrintMore
set_option linter.unusedVariables false
set_option linter.unusedSimpArgs false
theorem add_at (g n : Nat) : Option.map (fun x : Addr => x.add (n * 2)) (some ⟨g, 0, none⟩) = some ⟨g, n * 2, none⟩ := by
  simp only [Option.map_some, Addr.add]
  split
  · rename_i h; rw [h]
  · simp
theorem drop_C {W : World} {base g c : Nat} {F : Nat → Prop} {l0 : List S_Tile} (h : (row k50 50 base (.slice (some ⟨g, 0, none⟩) l0.length c) l0 F).ok W) (m : Nat) (hm : m ≤ l0.length) : Kd.C k50 W (if c = m then some ⟨g, 0, none⟩ else Option.map (fun x : Addr => x.add (m * 2)) (some ⟨g, 0, none⟩)) (l0.drop m).length (l0.drop m) := by
  have hc := (row_len h).2
  have h2 := Kd.C_drop (row_C h) hm hc
  exact h2
set_option maxRecDepth 100000 in
set_option maxHeartbeats 40000000 in
theorem delete_sx {w0 W : World} {cs : List Chunk} {base c : Nat} {A : Option Addr} {l0 : List S_Tile} {F : Nat → Prop} (hp : Hp w0 (row k50 50 base (.slice A l0.length c) l0 F :: cs) W) (i : Nat) (hi : i < l0.length) (hn : l0.length ≤ 1000000) :
    Calls Try.prog 78 #[.slice A l0.length c, .int .i64 (i : Int), .int .i64 ((i + 1 : Nat) : Int)] W fun e W' => ∃ F', e = .returned (.slice A (l0.eraseIdx i).length c) ∧ Hp w0 (row k50 50 base (.slice A (l0.eraseIdx i).length c) (l0.eraseIdx i) F' :: cs) W' := by
  have hcap := (row_len (hp.at_ 0 _ (by rfl))).2
  obtain ⟨g, rfl⟩ := row_form (hp.at_ 0 _ (by rfl)) (by omega)
  have htl : (l0.take i).length = i := by rw [List.length_take]; omega
  refine sx_enter (N := 33) (l := [.slice (some ⟨g, 0, none⟩) l0.length c, .int .i64 (i : Int), .int .i64 ((i + 1 : Nat) : Int)]) Try.func78 rfl rfl rfl ?_
  refine wp_seq ?_
  refine sx_region ?_
  refine sx_rd 6 (.slice none 0 0) (by rfl) (by kernel_rfl) ?_
  refine sx_nil ?_
  refine ex_then_n ?_
  refine wp_seq ?_
  refine sx_region ?_
  refine sx_rd 8 (.slice (some ⟨g, 0, none⟩) l0.length c) (by rfl) (by kernel_rfl) ?_
  refine sx_rd 9 (.int .i64 (i : Int)) (by rfl) (by kernel_rfl) ?_
  refine sx_rd 10 (.int .i64 ((i + 1 : Nat) : Int)) (by rfl) (by kernel_rfl) ?_
  refine sx_rd 11 (.slice (some ⟨g, 0, none⟩) l0.length c) (by rfl) (by kernel_rfl) ?_
  refine sx_rd 12 (.int .i64 (l0.length : Int)) (by rfl) (by kernel_rfl) ?_
  refine sx_rd 13 (.slice (if l0.length = i then some ⟨g, 0, none⟩ else Option.map (fun x : Addr => x.add (i * 2)) (some ⟨g, 0, none⟩)) (i + 1 - i) (l0.length - i)) (by rfl) (sl_lhm i (i + 1) l0.length (sz := 2) (by rfl) (by rfl) (by rfl) rfl (by rfl) rfl (by rfl) rfl Try.underlying26 (by kernel_rfl) (by omega) (by omega) (by omega) (by omega)) ?_
  refine sx_nil ?_
  refine ex_then_n ?_
  refine wp_seq ?_
  refine wp_seq ?_
  refine sx_region ?_
  refine sx_rd 14 (.int .i64 (i : Int)) (by rfl) (by kernel_rfl) ?_
  refine sx_rd 15 (.int .i64 ((i + 1 : Nat) : Int)) (by rfl) (by kernel_rfl) ?_
  refine sx_rd 16 (.bool ((i : Int) == ((i + 1 : Nat) : Int))) (by rfl) (by kernel_rfl) ?_
  refine sx_nil ?_
  refine ex_then_n ?_
  refine sx_cond ((i : Int) == ((i + 1 : Nat) : Int)) (by rfl) (fun c_1 => ?_) (fun c_1 => ?_)
  ·
    have c_1p := eq_of_beq_ c_1
    exact absurd c_1p (by omega)
  ·
    have c_1p := ne_of_beq_ c_1
    refine wp_skip ?_
    refine ex_then_n ?_
    refine wp_seq ?_
    refine sx_region ?_
    refine sx_rd 18 (.slice (some ⟨g, 0, none⟩) l0.length c) (by rfl) (by kernel_rfl) ?_
    refine sx_rd 19 (.int .i64 (l0.length : Int)) (by rfl) (by kernel_rfl) ?_
    refine sx_rd 7 (.int .i64 (l0.length : Int)) (by rfl) (by kernel_rfl) ?_
    refine sx_nil ?_
    refine ex_then_n ?_
    refine wp_seq ?_
    refine sx_drawT [0, 1, 2, 3, 4, 5] (.fin) 6 (C := Hp w0 (row k50 50 base (.slice (some ⟨g, 0, none⟩) l0.length c) l0 F :: cs)) (by kernel_rfl) (by kernel_rfl) (fun d _ _ _ _ h => by cases d <;> exact h) (fun W h => h.drew) hp ?_
    refine preI_read rfl ?_
    refine sxq_val 20 (.slice (some ⟨g, 0, none⟩) l0.length c) (by rfl) (fun W _ => (by kernel_rfl)) ?_
    refine sxq_nil ?_
    refine preI_read rfl ?_
    refine sxq_val 21 (.int .i64 (i : Int)) (by rfl) (fun W _ => (by kernel_rfl)) ?_
    refine sxq_nil ?_
    refine preI_read rfl ?_
    refine sxq_val 22 (.slice (some ⟨g, 0, none⟩) ((l0.take i).length) c) (by rfl) (fun W _ => (sl_hi i (sz := 2) (xs := l0) (by rfl) (by rfl) (by rfl) rfl Try.underlying26 (by kernel_rfl) (by omega) hcap)) ?_
    refine sxq_nil ?_
    refine preI_read rfl ?_
    refine sxq_val 23 (.slice (some ⟨g, 0, none⟩) l0.length c) (by rfl) (fun W _ => (by kernel_rfl)) ?_
    refine sxq_nil ?_
    refine preI_read rfl ?_
    refine sxq_val 24 (.int .i64 ((i + 1 : Nat) : Int)) (by rfl) (fun W _ => (by kernel_rfl)) ?_
    refine sxq_nil ?_
    refine preI_read rfl ?_
    refine sxq_val 25 (.slice (if c = i + 1 then some ⟨g, 0, none⟩ else Option.map (fun x : Addr => x.add ((i + 1) * 2)) (some ⟨g, 0, none⟩)) ((l0.drop (i + 1)).length) (c - (i + 1))) (by rfl) (fun W _ => (sl_lo (i + 1) (sz := 2) (xs := l0) (by rfl) (by rfl) (by rfl) rfl Try.underlying26 (by kernel_rfl) (by omega))) ?_
    refine sxq_nil ?_
    refine preI_nil ?_
    intro W_2 hp
    refine treeI_fin ?_
    refine tail_of [6, 7] (by rfl) ?_
    refine tailI_op rfl ?_
    have hdl : (l0.drop (i + 1)).length = l0.length - (i + 1) := List.length_drop
    refine sx_appfit 26 (by rfl) k50 0 (by rfl) (by rfl) Try.underlying26 (by kernel_rfl) (by decide) (l0.drop (i + 1)) (by rfl) (by rfl) (drop_C (hp.at_ 0 _ (by rfl)) (i + 1) (by omega)) (fun x cs h => tile_kp x cs h) (by omega) (by omega) hp ?_
    intro F_3 W_4 hp; simp only [List.set_cons_zero] at hp
    refine tailI_next ?_
    refine tailI_op rfl ?_
    refine sx_rd 0 (.slice (some ⟨g, 0, none⟩) ((l0.take i).length + (l0.drop (i + 1)).length) c) (by rfl) (by kernel_rfl) ?_
    refine tailI_next ?_
    refine tailI_nil ?_
    refine ex_then_n ?_
    refine wp_seq ?_
    refine sx_region ?_
    refine sx_rd 27 (.slice (some ⟨g, 0, none⟩) ((l0.take i).length + (l0.drop (i + 1)).length) c) (by rfl) (by kernel_rfl) ?_
    refine sx_rd 28 (.slice (some ⟨g, 0, none⟩) ((l0.take i).length + (l0.drop (i + 1)).length) c) (by rfl) (by kernel_rfl) ?_
    refine sx_rd 29 (.int .i64 ((l0.take i).length + (l0.drop (i + 1)).length : Int)) (by rfl) (by kernel_rfl) ?_
    refine sx_rd 30 (.int .i64 (l0.length : Int)) (by rfl) (by kernel_rfl) ?_
    refine sx_rd 31 (.slice (if c = ((l0.take i).length + (l0.drop (i + 1)).length) then some ⟨g, 0, none⟩ else Option.map (fun x : Addr => x.add (((l0.take i).length + (l0.drop (i + 1)).length) * 2)) (some ⟨g, 0, none⟩)) (l0.length - ((l0.take i).length + (l0.drop (i + 1)).length)) (c - ((l0.take i).length + (l0.drop (i + 1)).length))) (by rfl) (sl_cap ((l0.take i).length + (l0.drop (i + 1)).length) l0.length (sz := 2) (by rfl) (by rfl) (by rfl) rfl (by rfl) rfl Try.underlying26 (by kernel_rfl) (by omega) (by omega)) ?_
    refine sx_clear0 (by rfl) hp 0 k50 (by rfl) (by rfl) (by rfl) (fun _ => by rw [if_neg (by omega)]; exact add_at _ _) (by omega) Try.underlying26 (.agg #[.int .i64 0, .int .i64 0]) (by kernel_rfl) (by rfl) (by first | decide | simp [Value.cells, Value.oneCell'] | kernel_rfl) ?_
    intro W_5 hp
    refine sx_nil ?_
    refine ex_then_n ?_
    refine wp_seq ?_
    refine sx_region ?_
    refine sx_rd 32 (.slice (some ⟨g, 0, none⟩) ((l0.take i).length + (l0.drop (i + 1)).length) c) (by rfl) (by kernel_rfl) ?_
    refine sx_rd 6 (.slice (some ⟨g, 0, none⟩) ((l0.take i).length + (l0.drop (i + 1)).length) c) (by rfl) (by kernel_rfl) ?_
    refine sx_nil ?_
    refine ex_then_n ?_
    refine wp_ret ?_
    refine sx_end (.slice (some ⟨g, 0, none⟩) ((l0.take i).length + (l0.drop (i + 1)).length) c) (res1 6 (by rfl)) ?_
    have e1 : l0.take (l0.take i).length ++ l0.drop (i + 1) = l0.eraseIdx i := by rw [List.length_take, Nat.min_eq_left (by omega), List.eraseIdx_eq_take_drop_succ]
    have e2 : (l0.take i).length + (l0.drop (i + 1)).length = (l0.eraseIdx i).length := by rw [← e1]; simp
    rw [e1, e2] at hp
    exact ⟨_, by rw [e2], hp⟩
end Go.Proofs.Ytbkaedmabdgdhaa.Hd
namespace Go.Proofs.Ytbkaedmabdgdhaa.Hd
open Go.RowKit Go.Proofs.Ytbkaedmabdgdhaa.Pure Go.Proofs.YtbkaedmabdgdhaaW.PrintWords Go.Proofs.YtbkaedmabdgdhaaW.PrintLast Go.Proofs.YtbkaedmabdgdhaaW.PrintMore
set_option linter.unusedVariables false
set_option linter.unusedSimpArgs false
set_option maxRecDepth 100000 in
set_option maxHeartbeats 40000000 in
theorem addM_sx (gM gB gS gR gN gE gA : Nat) (R wd m : Nat) (hw : 1 ≤ wd) (hw4 : wd ≤ 4) (hR : 1 ≤ R) (hR3 : R ≤ 3) (hRm : R * wd = 2 * m) : ∀ (n : Nat) (w0 W : World) (cs : List Chunk) (l : List Int) (Al : Option Addr) (cl : Nat) (Fl : Nat → Prop) (H : List S_Tile) (AH : Option Addr) (cH : Nat) (hHn : H.length = n) (hl8 : l.length + 2 * n ≤ 1000000) (hcH : H.length ≤ cH)
  (hH : ∀ W, Hp w0 cs W → Kd.C k50 W AH H.length H) (s : List Int × Nat) (hs : s.1 ≠ [] → s.1.length = 2 * m) (Ab : Option Addr) (cb : Nat) (Fb : Nat → Prop) (hnil : s.1 = [] → Ab = none ∧ cb = 0) (hbd : ((walkL (stepM R wd) m n l H s)).2 ≤ 1000000000) (hp : Hp w0 (row (Kd.int .i64) 3 w0.heap.size (.slice Al l.length cl) l Fl :: blk gM #[.int .i64 (s.2 : Int)] 3 :: blk gB #[.slice Ab s.1.length cb] 39 :: row (Kd.int .i64) 3 w0.heap.size (.slice Ab s.1.length cb) s.1 Fb :: blk gS #[.func (.func 46) #[] #[.pointer (some ⟨gR, 0, none⟩)]] 67 :: blk gR #[.int .i64 (R : Int)] 3 :: blk gN #[.int .i64 (m : Int)] 3 :: blk gE #[.func (.func 50) #[] #[.pointer (some ⟨gS, 0, none⟩), .pointer (some ⟨gM, 0, none⟩), .pointer (some ⟨gB, 0, none⟩)]] 59 :: blk gA #[.func (.func 77) #[] #[.pointer (some ⟨gN, 0, none⟩), .pointer (some ⟨gE, 0, none⟩), .pointer (some ⟨gA, 0, none⟩)]] 86 :: cs) W),
  Calls Try.prog 77 #[.slice Al l.length cl, .slice AH H.length cH, .pointer (some ⟨gN, 0, none⟩), .pointer (some ⟨gE, 0, none⟩), .pointer (some ⟨gA, 0, none⟩)] W fun e W' => ∃ A' c' F', e = .returned (.tuple #[]) ∧ (((walkL (stepM R wd) m n l H s)).1 = [] → A' = none ∧ c' = 0) ∧ Hp w0 (blk gM #[.int .i64 ((walkL (stepM R wd) m n l H s).2 : Int)] 3 :: blk gB #[.slice A' ((walkL (stepM R wd) m n l H s).1.length) c'] 39 :: row (Kd.int .i64) 3 w0.heap.size (.slice A' ((walkL (stepM R wd) m n l H s).1.length) c') ((walkL (stepM R wd) m n l H s).1) F' :: blk gS #[.func (.func 46) #[] #[.pointer (some ⟨gR, 0, none⟩)]] 67 :: blk gR #[.int .i64 (R : Int)] 3 :: blk gN #[.int .i64 (m : Int)] 3 :: blk gE #[.func (.func 50) #[] #[.pointer (some ⟨gS, 0, none⟩), .pointer (some ⟨gM, 0, none⟩), .pointer (some ⟨gB, 0, none⟩)]] 59 :: blk gA #[.func (.func 77) #[] #[.pointer (some ⟨gN, 0, none⟩), .pointer (some ⟨gE, 0, none⟩), .pointer (some ⟨gA, 0, none⟩)]] 86 :: cs) W' := by
 have hm6 : m ≤ 6 := by have := Nat.mul_le_mul hR3 hw4; omega
 intro n
 induction n using Nat.strongRecOn with
 | ind n ih =>
  intro w0 W cs l Al cl Fl H AH cH hHn hl8 hcH hH s hs Ab cb Fb hnil hbd hp
  refine sx_enter (N := 57) (l := [.slice Al l.length cl, .slice AH H.length cH, .pointer (some ⟨gN, 0, none⟩), .pointer (some ⟨gE, 0, none⟩), .pointer (some ⟨gA, 0, none⟩)]) Try.func77 rfl rfl rfl ?_
  refine wp_seq ?_
  refine wp_seq ?_
  refine sx_region ?_
  refine sx_rd 10 (.slice Al l.length cl) (by rfl) (by kernel_rfl) ?_
  refine sx_rd 11 (.int .i64 (l.length : Int)) (by rfl) (by kernel_rfl) ?_
  refine sx_rd 12 (.int .i64 (m : Int)) (by rfl) (ld1 (t := 3) (p := (.tmp 2)) (by rfl) (by rfl) (by kernel_rfl) (hp.cell 6 (by rfl) 0 _ (by rfl))) ?_
  refine sx_rd 13 (.int .i64 (2 * (m : Int))) (by rfl) (wr_ok (by omega) (by kernel_rfl)) ?_
  refine sx_rd 14 (.bool ((l.length : Int) == (2 * (m : Int)))) (by rfl) (by kernel_rfl) ?_
  refine sx_nil ?_
  refine ex_then_n ?_
  refine sx_cond ((l.length : Int) == (2 * (m : Int))) (by rfl) (fun c_1 => ?_) (fun c_1 => ?_)
  ·
   have c_1p := eq_of_beq_ c_1
   refine wp_seq ?_
   refine sx_region ?_
   refine sx_rd 15 (.func (.func 50) #[] #[.pointer (some ⟨gS, 0, none⟩), .pointer (some ⟨gM, 0, none⟩), .pointer (some ⟨gB, 0, none⟩)]) (by rfl) (ld1 (t := 59) (p := (.tmp 3)) (by rfl) (by rfl) (by kernel_rfl) (hp.cell 7 (by rfl) 0 _ (by rfl))) ?_
   refine sx_rd 16 (.slice Al l.length cl) (by rfl) (by kernel_rfl) ?_
   refine sx_call 17 (by rfl) (by kernel_rfl) ((each_sx gM gB gS gR w0 _ (blk gN #[.int .i64 (m : Int)] 3 :: blk gE #[.func (.func 50) #[] #[.pointer (some ⟨gS, 0, none⟩), .pointer (some ⟨gM, 0, none⟩), .pointer (some ⟨gB, 0, none⟩)]] 59 :: blk gA #[.func (.func 77) #[] #[.pointer (some ⟨gN, 0, none⟩), .pointer (some ⟨gE, 0, none⟩), .pointer (some ⟨gA, 0, none⟩)]] 86 :: cs) l Al cl Fl R wd hw hw4 hR hR3 (by omega) s.1 (fun q => by rw [hs q]; omega) s.2 (Nat.le_trans (stepM_q R wd s l).1 (by rw [← walkL_end (stepM R wd) m n l H s (by omega)]; exact hbd)) Ab cb Fb hnil (hp.take [0, 1, 2, 3, 4, 5, 6, 7, 8] 9 (by decide) (by simp))).mono ?_)
   rintro _ W_2 ⟨A2, c2, F2, rfl, hn2, hp⟩
   refine ⟨_, rfl, ?_⟩
   refine sx_nil ?_
   refine ex_then_n ?_
   refine wp_ret ?_
   refine ex_then_r ?_
   refine sx_end (.tuple #[]) (res0 (by rfl)) ?_
   rw [walkL_end (stepM R wd) m n l H s (by omega)]
   exact ⟨_, _, _, rfl, hn2, (hp.take [0, 1, 2, 3, 4, 5, 6, 7] 8 (by decide) (by simp))⟩
  ·
   have c_1p := ne_of_beq_ c_1
   refine wp_skip ?_
   refine ex_then_n ?_
   refine wp_seq ?_
   refine sx_region ?_
   refine sx_rd 18 (.slice AH H.length cH) (by rfl) (by kernel_rfl) ?_
   refine sx_rd 19 (.int .i64 (H.length : Int)) (by rfl) (by kernel_rfl) ?_
   refine sx_rd 20 (.int .i64 0) (by rfl) (by kernel_rfl) ?_
   refine sx_nil ?_
   refine ex_then_n ?_
   refine wp_block ?_
   have e0_3 : s.1 = (walkLTo (stepM R wd) m (n - 1) l H s 0).1 := rfl
   have hp : Hp w0 (row (Kd.int .i64) 3 w0.heap.size (.slice Al l.length cl) l Fl :: blk gM #[.int .i64 (s.2 : Int)] 3 :: blk gB #[.slice Ab s.1.length cb] 39 :: row (Kd.int .i64) 3 w0.heap.size (.slice Ab s.1.length cb) ((walkLTo (stepM R wd) m (n - 1) l H s 0).1) Fb :: blk gS #[.func (.func 46) #[] #[.pointer (some ⟨gR, 0, none⟩)]] 67 :: blk gR #[.int .i64 (R : Int)] 3 :: blk gN #[.int .i64 (m : Int)] 3 :: blk gE #[.func (.func 50) #[] #[.pointer (some ⟨gS, 0, none⟩), .pointer (some ⟨gM, 0, none⟩), .pointer (some ⟨gB, 0, none⟩)]] 59 :: blk gA #[.func (.func 77) #[] #[.pointer (some ⟨gN, 0, none⟩), .pointer (some ⟨gE, 0, none⟩), .pointer (some ⟨gA, 0, none⟩)]] 86 :: cs) W := by rw [← e0_3]; exact hp
   refine wp_loop_ghost (fun n_ a_ W => ∃ (r_ : List (Nat × Value)) (i : Nat) (AixgBx0 : Option Addr) (nixgBx0 cixgBx0 : Nat) (FixgBx0 : Nat → Prop), n_ = H.length - i ∧ a_ = fr 57 ([(0, .slice Al l.length cl), (1, .slice AH H.length cH), (4, .pointer (some ⟨gA, 0, none⟩)), (18, .slice AH H.length cH), (19, .int .i64 (H.length : Int)), (20, .int .i64 (i : Int))] ++ r_) ∧ Hp w0 (row (Kd.int .i64) 3 w0.heap.size (.slice AixgBx0 nixgBx0 cixgBx0) ((walkLTo (stepM R wd) m (n - 1) l H s i).1) FixgBx0 :: blk gM #[.int .i64 ((walkLTo (stepM R wd) m (n - 1) l H s i).2 : Int)] 3 :: blk gB #[.slice AixgBx0 nixgBx0 cixgBx0] 39 :: row (Kd.int .i64) 3 w0.heap.size (.slice Al l.length cl) l Fl :: blk gS #[.func (.func 46) #[] #[.pointer (some ⟨gR, 0, none⟩)]] 67 :: blk gR #[.int .i64 (R : Int)] 3 :: blk gN #[.int .i64 (m : Int)] 3 :: blk gE #[.func (.func 50) #[] #[.pointer (some ⟨gS, 0, none⟩), .pointer (some ⟨gM, 0, none⟩), .pointer (some ⟨gB, 0, none⟩)]] 59 :: blk gA #[.func (.func 77) #[] #[.pointer (some ⟨gN, 0, none⟩), .pointer (some ⟨gE, 0, none⟩), .pointer (some ⟨gA, 0, none⟩)]] 86 :: cs) W ∧ (i ≤ H.length) ∧ ((walkLTo (stepM R wd) m (n - 1) l H s i).1 = [] → AixgBx0 = none ∧ cixgBx0 = 0)) _ ⟨_, 0, _, _, _, _, rfl, fr_front [(0, .slice Al l.length cl), (1, .slice AH H.length cH), (4, .pointer (some ⟨gA, 0, none⟩)), (18, .slice AH H.length cH), (19, .int .i64 (H.length : Int)), (20, .int .i64 0)] ⟨rfl, rfl, rfl, rfl, rfl, rfl, trivial⟩, (hp.take [3, 1, 2, 0, 4, 5, 6, 7, 8] 9 (by decide) (by simp)), Nat.zero_le _, (by exact hnil)⟩ ?_
   rintro _ _ W_4 ⟨r_, i, AixgBx0, nixgBx0, cixgBx0, FixgBx0, rfl, rfl, hp, hi, hnl⟩
   obtain ⟨rfl, hccixgBx0⟩ := row_len (hp.at_ 0 _ (by rfl))
   have hmono : ∀ j, j ≤ H.length → ((walkLTo (stepM R wd) m (n - 1) l H s j)).2 ≤ 1000000000 := fun j hj => Nat.le_trans (walkLTo_le (stepM R wd) (fun s => s.2) (fun s l => (stepM_q R wd s l).1) m (n - 1) l H s j H.length hj) (by rw [walkLTo_fin (stepM R wd) m n l H s hHn (by omega)]; exact hbd)
   have hnlI := hnl
   refine wp_seq ?_
   refine sx_region ?_
   refine sx_rd 21 (.bool (decide ((i : Int) < (H.length : Int)))) (by rfl) (by kernel_rfl) ?_
   refine sx_nil ?_
   refine ex_then_n ?_
   refine wp_seq ?_
   refine sx_cond (decide ((i : Int) < (H.length : Int))) (by rfl) (fun c_5 => ?_) (fun c_5 => ?_)
   ·
    have c_5p := of_decide_eq_true c_5
    have hHe : (H.eraseIdx i).length = n - 1 := by rw [erase_len (by omega), hHn]
    have hsI := walkMTo_len (R := R) (wd := wd) (m := m) (n := n - 1) (l := l) (H := H) hs i
    have hsA := walkM_len (R := R) (wd := wd) (m := m) (n := n - 1) (l := (l ++ [(rd_Tile H (i : Int)).f0, (rd_Tile H (i : Int)).f1])) (H := (H.eraseIdx i)) hsI
    have hbN := hmono (i + 1) (by omega)
    rw [walkLTo_next] at hbN
    have hbB : ∀ (q : ((rd_Tile H (i : Int)).f0 == (rd_Tile H (i : Int)).f1) = false), ((walkL (stepM R wd) m (n - 1) (l ++ [(rd_Tile H (i : Int)).f1, (rd_Tile H (i : Int)).f0]) (H.eraseIdx i) (walkL (stepM R wd) m (n - 1) (l ++ [(rd_Tile H (i : Int)).f0, (rd_Tile H (i : Int)).f1]) (H.eraseIdx i) (walkLTo (stepM R wd) m (n - 1) l H s i)))).2 ≤ 1000000000 := fun q => by rw [if_neg (by rw [q]; exact Bool.false_ne_true)] at hbN; exact hbN
    have hbA : ((walkL (stepM R wd) m (n - 1) (l ++ [(rd_Tile H (i : Int)).f0, (rd_Tile H (i : Int)).f1]) (H.eraseIdx i) (walkLTo (stepM R wd) m (n - 1) l H s i))).2 ≤ 1000000000 := by
     cases q : ((rd_Tile H (i : Int)).f0 == (rd_Tile H (i : Int)).f1) with
     | true => rw [if_pos q] at hbN; exact hbN
     | false => exact Nat.le_trans (foldl_ge (stepM R wd) (fun s => s.2) (fun s l => (stepM_q R wd s l).1) _ _) (hbB q)
    refine wp_skip ?_
    refine ex_then_n ?_
    refine wp_seq ?_
    refine wp_block ?_
    refine wp_seq ?_
    refine sx_region ?_
    refine sx_rd 22 (.int .i64 (i : Int)) (by rfl) (by kernel_rfl) ?_
    refine sx_rd 23 (.pointer (some (adr AH (i : Int) 2))) (by rfl) (ix_run (d := k50) (hH _ hp.tail.tail.tail.tail.tail.tail.tail.tail.tail) (t := 26) (by rfl) (by rfl) (by rfl) Try.underlying26 (by kernel_rfl) (by omega) (by omega)) ?_
    refine sx_rd 24 (.agg #[.int .i64 ((rd_Tile H (i : Int)).f0), .int .i64 ((rd_Tile H (i : Int)).f1)]) (by rfl) (el_run (d := k50) (hH _ hp.tail.tail.tail.tail.tail.tail.tail.tail.tail) z50 (i : Int) (by omega) (by omega) (cells := [.int .i64 ((rd_Tile H (i : Int)).f0), .int .i64 ((rd_Tile H (i : Int)).f1)]) (fun cs h => k50_open h) 0 [.int .i64 ((rd_Tile H (i : Int)).f0), .int .i64 ((rd_Tile H (i : Int)).f1)] (by rfl) (t := 50) (p := (.tmp 23)) (by rfl) (by rfl) (by kernel_rfl) (by kernel_rfl)) ?_
    refine sx_box 8 hp #[.int .i64 0, .int .i64 0] 50 (by rfl) (fun W => by kernel_rfl) ?_
    intro g_6 W_7 hp
    refine sx_rd 7 (.int .i64 (i : Int)) (by rfl) (by kernel_rfl) ?_
    refine sx_store (t := 50) (p := (.tmp 8)) (x := (.tmp 24)) (by rfl) (by rfl) 0 (by rfl) 0 [.int .i64 ((rd_Tile H (i : Int)).f0), .int .i64 ((rd_Tile H (i : Int)).f1)] (by rfl) (by rfl) (by kernel_rfl) (by simp [Value.oneCell']) (by show 2 ≤ 2; omega) #[.int .i64 ((rd_Tile H (i : Int)).f0), .int .i64 ((rd_Tile H (i : Int)).f1)] (by rfl) hp ?_
    intro W_8 hp; simp only [List.set_cons_succ, List.set_cons_zero] at hp
    refine sx_nil ?_
    refine ex_then_n ?_
    refine wp_seq ?_
    refine sx_region ?_
    refine sx_rd 25 (.slice AH H.length cH) (by rfl) (by kernel_rfl) ?_
    refine sx_call 26 (by rfl) (by kernel_rfl) ((slices_Clone_impl_Tile_impl_Tile.calls AH cH H _ _ (hH _ hp.tail.tail.tail.tail.tail.tail.tail.tail.tail.tail) hcH (cloneT_eq H (by omega))).mono ?_)
    rintro _ W_14 ⟨v_10, rfl, hR_9, hb⟩
    refine ⟨_, rfl, ?_⟩
    obtain ⟨A_11, c_12, rfl, hcc_c_12, _⟩ := Kd.R_reads hR_9
    obtain ⟨F_13, hp⟩ : ∃ F, Hp w0 (row k50 50 w0.heap.size (.slice A_11 H.length c_12) H F :: blk g_6 #[.int .i64 ((rd_Tile H (i : Int)).f0), .int .i64 ((rd_Tile H (i : Int)).f1)] 50 :: row (Kd.int .i64) 3 w0.heap.size (.slice AixgBx0 (((walkLTo (stepM R wd) m (n - 1) l H s i).1).length) cixgBx0) ((walkLTo (stepM R wd) m (n - 1) l H s i).1) FixgBx0 :: blk gM #[.int .i64 ((walkLTo (stepM R wd) m (n - 1) l H s i).2 : Int)] 3 :: blk gB #[.slice AixgBx0 (((walkLTo (stepM R wd) m (n - 1) l H s i).1).length) cixgBx0] 39 :: row (Kd.int .i64) 3 w0.heap.size (.slice Al l.length cl) l Fl :: blk gS #[.func (.func 46) #[] #[.pointer (some ⟨gR, 0, none⟩)]] 67 :: blk gR #[.int .i64 (R : Int)] 3 :: blk gN #[.int .i64 (m : Int)] 3 :: blk gE #[.func (.func 50) #[] #[.pointer (some ⟨gS, 0, none⟩), .pointer (some ⟨gM, 0, none⟩), .pointer (some ⟨gB, 0, none⟩)]] 59 :: blk gA #[.func (.func 77) #[] #[.pointer (some ⟨gN, 0, none⟩), .pointer (some ⟨gE, 0, none⟩), .pointer (some ⟨gA, 0, none⟩)]] 86 :: cs) _ := ⟨_, Hp.made hp hb hR_9⟩
    refine sx_rd 27 (.int .i64 (i : Int)) (by rfl) (by kernel_rfl) ?_
    refine sx_rd 28 (.int .i64 (i : Int)) (by rfl) (by kernel_rfl) ?_
    refine sx_rd 29 (.int .i64 ((i : Int) + 1)) (by rfl) (wr_ok (by omega) (by kernel_rfl)) ?_
    refine sx_call 30 (by rfl) (by kernel_rfl) ((delete_sx hp i (by omega) (by omega)).mono ?_)
    rintro _ W_16 ⟨F_15, rfl, hp⟩
    refine ⟨_, rfl, ?_⟩
    refine sx_rd 9 (.slice A_11 ((H.eraseIdx i).length) c_12) (by rfl) (by kernel_rfl) ?_
    refine sx_nil ?_
    refine ex_then_n ?_
    refine wp_seq ?_
    refine sx_drawI (fun a_ W => ∃ (r_ : List (Nat × Value)) (Am_31 : Option Addr) (cm_32 : Nat) (Fm_33 : Nat → Prop), a_ = fr 57 ([(0, .slice Al l.length cl), (1, .slice AH H.length cH), (4, .pointer (some ⟨gA, 0, none⟩)), (8, .pointer (some ⟨g_6, 0, none⟩)), (9, .slice A_11 ((H.eraseIdx i).length) c_12), (18, .slice AH H.length cH), (19, .int .i64 (H.length : Int)), (20, .int .i64 (i : Int)), (31, .func (.func 77) #[] #[.pointer (some ⟨gN, 0, none⟩), .pointer (some ⟨gE, 0, none⟩), .pointer (some ⟨gA, 0, none⟩)]), (39, .slice Am_31 ((l ++ [(rd_Tile H (i : Int)).f0, (rd_Tile H (i : Int)).f1]).length) cm_32), (40, .slice A_11 ((H.eraseIdx i).length) c_12)] ++ r_) ∧ Hp w0 (row (Kd.int .i64) 3 w0.heap.size (.slice Am_31 ((l ++ [(rd_Tile H (i : Int)).f0, (rd_Tile H (i : Int)).f1]).length) cm_32) (l ++ [(rd_Tile H (i : Int)).f0, (rd_Tile H (i : Int)).f1]) Fm_33 :: row k50 50 w0.heap.size (.slice A_11 ((H.eraseIdx i).length) c_12) (H.eraseIdx i) F_15 :: blk g_6 #[.int .i64 ((rd_Tile H (i : Int)).f0), .int .i64 ((rd_Tile H (i : Int)).f1)] 50 :: row (Kd.int .i64) 3 w0.heap.size (.slice AixgBx0 (((walkLTo (stepM R wd) m (n - 1) l H s i).1).length) cixgBx0) ((walkLTo (stepM R wd) m (n - 1) l H s i).1) FixgBx0 :: blk gM #[.int .i64 ((walkLTo (stepM R wd) m (n - 1) l H s i).2 : Int)] 3 :: blk gB #[.slice AixgBx0 (((walkLTo (stepM R wd) m (n - 1) l H s i).1).length) cixgBx0] 39 :: row (Kd.int .i64) 3 w0.heap.size (.slice Al l.length cl) l Fl :: blk gS #[.func (.func 46) #[] #[.pointer (some ⟨gR, 0, none⟩)]] 67 :: blk gR #[.int .i64 (R : Int)] 3 :: blk gN #[.int .i64 (m : Int)] 3 :: blk gE #[.func (.func 50) #[] #[.pointer (some ⟨gS, 0, none⟩), .pointer (some ⟨gM, 0, none⟩), .pointer (some ⟨gB, 0, none⟩)]] 59 :: blk gA #[.func (.func 77) #[] #[.pointer (some ⟨gN, 0, none⟩), .pointer (some ⟨gE, 0, none⟩), .pointer (some ⟨gA, 0, none⟩)]] 86 :: cs) W) [1, 3, 5, 9] (.rd 0 (.rd 4 (.rd 6 (.alt 2 (.alt 7 (.alt 8 (.fin) .non) .non) (.alt 7 (.alt 2 (.alt 8 (.fin) .non) .non) (.non)))))) 10 (C := Hp w0 (row k50 50 w0.heap.size (.slice A_11 ((H.eraseIdx i).length) c_12) (H.eraseIdx i) F_15 :: blk g_6 #[.int .i64 ((rd_Tile H (i : Int)).f0), .int .i64 ((rd_Tile H (i : Int)).f1)] 50 :: row (Kd.int .i64) 3 w0.heap.size (.slice AixgBx0 (((walkLTo (stepM R wd) m (n - 1) l H s i).1).length) cixgBx0) ((walkLTo (stepM R wd) m (n - 1) l H s i).1) FixgBx0 :: blk gM #[.int .i64 ((walkLTo (stepM R wd) m (n - 1) l H s i).2 : Int)] 3 :: blk gB #[.slice AixgBx0 (((walkLTo (stepM R wd) m (n - 1) l H s i).1).length) cixgBx0] 39 :: row (Kd.int .i64) 3 w0.heap.size (.slice Al l.length cl) l Fl :: blk gS #[.func (.func 46) #[] #[.pointer (some ⟨gR, 0, none⟩)]] 67 :: blk gR #[.int .i64 (R : Int)] 3 :: blk gN #[.int .i64 (m : Int)] 3 :: blk gE #[.func (.func 50) #[] #[.pointer (some ⟨gS, 0, none⟩), .pointer (some ⟨gM, 0, none⟩), .pointer (some ⟨gB, 0, none⟩)]] 59 :: blk gA #[.func (.func 77) #[] #[.pointer (some ⟨gN, 0, none⟩), .pointer (some ⟨gE, 0, none⟩), .pointer (some ⟨gA, 0, none⟩)]] 86 :: cs)) (by kernel_rfl) (by kernel_rfl) (fun d _ _ _ _ h => by cases d <;> exact h) (fun W h => h.drew) hp ?_ ?_
    ·
     refine preI_read rfl ?_
     refine sxq_val 32 (.slice Al l.length cl) (by rfl) (fun W _ => (by kernel_rfl)) ?_
     refine sxq_nil ?_
     refine preI_read rfl ?_
     refine sxq_val 34 (.pointer (some ⟨g_6, 0, none⟩)) (by rfl) (fun W _ => (by kernel_rfl)) ?_
     refine sxq_nil ?_
     refine preI_read rfl ?_
     refine sxq_val 36 (.pointer (some ⟨g_6, 1, none⟩)) (by rfl) (fun W _ => (by kernel_rfl)) ?_
     refine sxq_nil ?_
     refine preI_read rfl ?_
     refine sxq_val 40 (.slice A_11 ((H.eraseIdx i).length) c_12) (by rfl) (fun W _ => (by kernel_rfl)) ?_
     refine sxq_nil ?_
     refine preI_nil ?_
     intro W_17 hp
     refine treeI_rd rfl ?_
     refine sxq_val 31 (.func (.func 77) #[] #[.pointer (some ⟨gN, 0, none⟩), .pointer (some ⟨gE, 0, none⟩), .pointer (some ⟨gA, 0, none⟩)]) (by rfl) (fun W hp => (ld1 (t := 86) (p := (.tmp 4)) (by rfl) (by rfl) (by kernel_rfl) (hp.cell 10 (by rfl) 0 _ (by rfl)))) ?_
     refine sxq_nil ?_
     refine treeI_rd rfl ?_
     refine sxq_val 35 (.int .i64 ((rd_Tile H (i : Int)).f0)) (by rfl) (fun W hp => (ld1 (t := 3) (p := (.tmp 34)) (by rfl) (by rfl) (by kernel_rfl) (hp.cell 1 (by rfl) 0 _ (by rfl)))) ?_
     refine sxq_nil ?_
     refine treeI_rd rfl ?_
     refine sxq_val 37 (.int .i64 ((rd_Tile H (i : Int)).f1)) (by rfl) (fun W hp => (ld1 (t := 3) (p := (.tmp 36)) (by rfl) (by rfl) (by kernel_rfl) (hp.cell 1 (by rfl) 1 _ (by rfl)))) ?_
     refine sxq_nil ?_
     refine treeI_alt rfl ?_ ?_
     ·
      refine sx_call 33 (by rfl) (by kernel_rfl) ((slices_Clone_int_int.calls Al cl l _ _ (row_C (hp.at_ 5 _ (by rfl))) (row_len (hp.at_ 5 _ (by rfl))).2 (cloneI_eq l (by omega))).mono ?_)
      rintro _ W_23 ⟨v_19, rfl, hR_18, hb⟩
      refine ⟨_, rfl, ?_⟩
      obtain ⟨A_20, c_21, rfl, hcc_c_21, _⟩ := Kd.R_reads hR_18
      obtain ⟨F_22, hp⟩ : ∃ F, Hp w0 (row (Kd.int .i64) 3 w0.heap.size (.slice A_20 l.length c_21) l F :: row k50 50 w0.heap.size (.slice A_11 ((H.eraseIdx i).length) c_12) (H.eraseIdx i) F_15 :: blk g_6 #[.int .i64 ((rd_Tile H (i : Int)).f0), .int .i64 ((rd_Tile H (i : Int)).f1)] 50 :: row (Kd.int .i64) 3 w0.heap.size (.slice AixgBx0 (((walkLTo (stepM R wd) m (n - 1) l H s i).1).length) cixgBx0) ((walkLTo (stepM R wd) m (n - 1) l H s i).1) FixgBx0 :: blk gM #[.int .i64 ((walkLTo (stepM R wd) m (n - 1) l H s i).2 : Int)] 3 :: blk gB #[.slice AixgBx0 (((walkLTo (stepM R wd) m (n - 1) l H s i).1).length) cixgBx0] 39 :: row (Kd.int .i64) 3 w0.heap.size (.slice Al l.length cl) l Fl :: blk gS #[.func (.func 46) #[] #[.pointer (some ⟨gR, 0, none⟩)]] 67 :: blk gR #[.int .i64 (R : Int)] 3 :: blk gN #[.int .i64 (m : Int)] 3 :: blk gE #[.func (.func 50) #[] #[.pointer (some ⟨gS, 0, none⟩), .pointer (some ⟨gM, 0, none⟩), .pointer (some ⟨gB, 0, none⟩)]] 59 :: blk gA #[.func (.func 77) #[] #[.pointer (some ⟨gN, 0, none⟩), .pointer (some ⟨gE, 0, none⟩), .pointer (some ⟨gA, 0, none⟩)]] 86 :: cs) _ := ⟨_, Hp.made hp hb hR_18⟩
      refine step_fin hp.tail ?_
      refine treeI_ev rfl ?_
      refine sx_lit 38 (by rfl) (Kd.int .i64) w0.heap.size 3 ([(rd_Tile H (i : Int)).f0, (rd_Tile H (i : Int)).f1]) [.int .i64 ((rd_Tile H (i : Int)).f0), .int .i64 ((rd_Tile H (i : Int)).f1)] (fun W => by kernel_rfl) (reps_ints [(rd_Tile H (i : Int)).f0, (rd_Tile H (i : Int)).f1]) (by simp) hp.size hp ?_
      intro g_24 F_25 W_26 hp hz; clear hz
      refine step_fin hp.tail.tail ?_
      refine treeI_ev rfl ?_
      refine sx_append 39 (by rfl) (Kd.int .i64) 1 (by rfl) (.int .i64 0) 8 (by rfl) Try.underlying39 (by kernel_rfl) rfl (by decide) (by decide) ([(rd_Tile H (i : Int)).f0, (rd_Tile H (i : Int)).f1]) (by rfl) (by rfl) (row_C (hp.at_ 0 _ (by rfl))) (fun x cs h => h) hp.size (by first | omega | (simp; done) | (simp; omega)) hp ?_
      intro A_27 c_28 F_29 W_30 hp hz; clear hz; simp only [List.set_cons_succ, List.set_cons_zero] at hp
      refine step_fin hp.tail.tail ?_
      refine treeI_fin ?_
      exact ⟨_, A_27, c_28, F_29, fr_front [(0, .slice Al l.length cl), (1, .slice AH H.length cH), (4, .pointer (some ⟨gA, 0, none⟩)), (8, .pointer (some ⟨g_6, 0, none⟩)), (9, .slice A_11 ((H.eraseIdx i).length) c_12), (18, .slice AH H.length cH), (19, .int .i64 (H.length : Int)), (20, .int .i64 (i : Int)), (31, .func (.func 77) #[] #[.pointer (some ⟨gN, 0, none⟩), .pointer (some ⟨gE, 0, none⟩), .pointer (some ⟨gA, 0, none⟩)]), (39, .slice A_27 ((l ++ [(rd_Tile H (i : Int)).f0, (rd_Tile H (i : Int)).f1]).length) c_28), (40, .slice A_11 ((H.eraseIdx i).length) c_12)] ⟨rfl, rfl, rfl, rfl, rfl, rfl, rfl, rfl, rfl, rfl, rfl, trivial⟩, (hp.take [1, 2, 3, 4, 5, 6, 7, 8, 9, 10, 11, 12] 13 (by decide) (by simp))⟩
     refine treeI_alt rfl ?_ ?_
     ·
      refine sx_lit 38 (by rfl) (Kd.int .i64) w0.heap.size 3 ([(rd_Tile H (i : Int)).f0, (rd_Tile H (i : Int)).f1]) [.int .i64 ((rd_Tile H (i : Int)).f0), .int .i64 ((rd_Tile H (i : Int)).f1)] (fun W => by kernel_rfl) (reps_ints [(rd_Tile H (i : Int)).f0, (rd_Tile H (i : Int)).f1]) (by simp) hp.size hp ?_
      intro g_34 F_35 W_36 hp hz; clear hz
      refine step_fin hp.tail ?_
      refine treeI_ev rfl ?_
      refine sx_call 33 (by rfl) (by kernel_rfl) ((slices_Clone_int_int.calls Al cl l _ _ (row_C (hp.at_ 6 _ (by rfl))) (row_len (hp.at_ 6 _ (by rfl))).2 (cloneI_eq l (by omega))).mono ?_)
      rintro _ W_42 ⟨v_38, rfl, hR_37, hb⟩
      refine ⟨_, rfl, ?_⟩
      obtain ⟨A_39, c_40, rfl, hcc_c_40, _⟩ := Kd.R_reads hR_37
      obtain ⟨F_41, hp⟩ : ∃ F, Hp w0 (row (Kd.int .i64) 3 w0.heap.size (.slice A_39 l.length c_40) l F :: row (Kd.int .i64) 3 w0.heap.size (.slice (some ⟨g_34, 0, none⟩) ([(rd_Tile H (i : Int)).f0, (rd_Tile H (i : Int)).f1].length) ([(rd_Tile H (i : Int)).f0, (rd_Tile H (i : Int)).f1].length)) ([(rd_Tile H (i : Int)).f0, (rd_Tile H (i : Int)).f1]) F_35 :: row k50 50 w0.heap.size (.slice A_11 ((H.eraseIdx i).length) c_12) (H.eraseIdx i) F_15 :: blk g_6 #[.int .i64 ((rd_Tile H (i : Int)).f0), .int .i64 ((rd_Tile H (i : Int)).f1)] 50 :: row (Kd.int .i64) 3 w0.heap.size (.slice AixgBx0 (((walkLTo (stepM R wd) m (n - 1) l H s i).1).length) cixgBx0) ((walkLTo (stepM R wd) m (n - 1) l H s i).1) FixgBx0 :: blk gM #[.int .i64 ((walkLTo (stepM R wd) m (n - 1) l H s i).2 : Int)] 3 :: blk gB #[.slice AixgBx0 (((walkLTo (stepM R wd) m (n - 1) l H s i).1).length) cixgBx0] 39 :: row (Kd.int .i64) 3 w0.heap.size (.slice Al l.length cl) l Fl :: blk gS #[.func (.func 46) #[] #[.pointer (some ⟨gR, 0, none⟩)]] 67 :: blk gR #[.int .i64 (R : Int)] 3 :: blk gN #[.int .i64 (m : Int)] 3 :: blk gE #[.func (.func 50) #[] #[.pointer (some ⟨gS, 0, none⟩), .pointer (some ⟨gM, 0, none⟩), .pointer (some ⟨gB, 0, none⟩)]] 59 :: blk gA #[.func (.func 77) #[] #[.pointer (some ⟨gN, 0, none⟩), .pointer (some ⟨gE, 0, none⟩), .pointer (some ⟨gA, 0, none⟩)]] 86 :: cs) _ := ⟨_, Hp.made hp hb hR_37⟩
      refine step_fin hp.tail.tail ?_
      refine treeI_ev rfl ?_
      refine sx_append 39 (by rfl) (Kd.int .i64) 0 (by rfl) (.int .i64 0) 8 (by rfl) Try.underlying39 (by kernel_rfl) rfl (by decide) (by decide) ([(rd_Tile H (i : Int)).f0, (rd_Tile H (i : Int)).f1]) (by rfl) (by rfl) (row_C (hp.at_ 1 _ (by rfl))) (fun x cs h => h) hp.size (by first | omega | (simp; done) | (simp; omega)) hp ?_
      intro A_43 c_44 F_45 W_46 hp hz; clear hz; simp only [List.set_cons_succ, List.set_cons_zero] at hp
      refine step_fin hp.tail.tail ?_
      refine treeI_fin ?_
      exact ⟨_, A_43, c_44, F_45, fr_front [(0, .slice Al l.length cl), (1, .slice AH H.length cH), (4, .pointer (some ⟨gA, 0, none⟩)), (8, .pointer (some ⟨g_6, 0, none⟩)), (9, .slice A_11 ((H.eraseIdx i).length) c_12), (18, .slice AH H.length cH), (19, .int .i64 (H.length : Int)), (20, .int .i64 (i : Int)), (31, .func (.func 77) #[] #[.pointer (some ⟨gN, 0, none⟩), .pointer (some ⟨gE, 0, none⟩), .pointer (some ⟨gA, 0, none⟩)]), (39, .slice A_43 ((l ++ [(rd_Tile H (i : Int)).f0, (rd_Tile H (i : Int)).f1]).length) c_44), (40, .slice A_11 ((H.eraseIdx i).length) c_12)] ⟨rfl, rfl, rfl, rfl, rfl, rfl, rfl, rfl, rfl, rfl, rfl, trivial⟩, (hp.take [0, 2, 3, 4, 5, 6, 7, 8, 9, 10, 11, 12] 13 (by decide) (by simp))⟩
     exact treeI_non
    ·
     rintro _ W_47 ⟨r_, Am_31, cm_32, Fm_33, rfl, hp⟩
     refine tail_of [10] (by rfl) ?_
     refine tailI_op rfl ?_
     refine sx_call 41 (by rfl) (by kernel_rfl) ((ih (n - 1) (by omega) w0 _ (row k50 50 w0.heap.size (.slice A_11 ((H.eraseIdx i).length) c_12) (H.eraseIdx i) F_15 :: blk g_6 #[.int .i64 ((rd_Tile H (i : Int)).f0), .int .i64 ((rd_Tile H (i : Int)).f1)] 50 :: row (Kd.int .i64) 3 w0.heap.size (.slice Al l.length cl) l Fl :: cs) (l ++ [(rd_Tile H (i : Int)).f0, (rd_Tile H (i : Int)).f1]) Am_31 cm_32 Fm_33 (H.eraseIdx i) A_11 c_12 hHe (by simp; omega) (row_len (hp.at_ 1 _ (by rfl))).2 (fun W h => row_C (h.at_ 0 _ (by rfl))) (walkLTo (stepM R wd) m (n - 1) l H s i) hsI AixgBx0 cixgBx0 FixgBx0 hnlI hbA (hp.take [0, 4, 5, 3, 7, 8, 9, 10, 11, 1, 2, 6] 12 (by decide) (by simp))).mono ?_)
     rintro _ W_48 ⟨A2_1, c2_1, F2_1, rfl, hn2_1, hp⟩
     refine ⟨_, rfl, ?_⟩
     refine tailI_next ?_
     refine tailI_nil ?_
     refine ex_then_n ?_
     refine wp_seq ?_
     refine sx_region ?_
     refine sx_rd 42 (.agg #[.int .i64 ((rd_Tile H (i : Int)).f0), .int .i64 ((rd_Tile H (i : Int)).f1)]) (by rfl) (ldn (t := 50) (p := (.tmp 8)) (by rfl) (by rfl) (by kernel_rfl) (by kernel_rfl) (by kernel_rfl) (hp.at_ 9 _ (by rfl))) ?_
     refine sx_call 43 (by rfl) (by kernel_rfl) ((impl_isDouble.calls ((rd_Tile H (i : Int)).f0) ((rd_Tile H (i : Int)).f1) _ _ rfl).mono ?_)
     rintro _ W_49 ⟨rfl, hb⟩
     refine ⟨_, rfl, ?_⟩
     replace hp := hp.below hb
     clear hb
     refine sx_rd 44 (.bool (!((rd_Tile H (i : Int)).f0 == (rd_Tile H (i : Int)).f1))) (by rfl) (by kernel_rfl) ?_
     refine sx_nil ?_
     refine ex_then_n ?_
     refine sx_cond (!((rd_Tile H (i : Int)).f0 == (rd_Tile H (i : Int)).f1)) (by rfl) (fun c_50 => ?_) (fun c_50 => ?_)
     ·
      refine sx_drawI (fun a_ W => ∃ (r_ : List (Nat × Value)) (Am_65 : Option Addr) (cm_66 : Nat) (Fm_67 : Nat → Prop), a_ = fr 57 ([(0, .slice Al l.length cl), (1, .slice AH H.length cH), (4, .pointer (some ⟨gA, 0, none⟩)), (18, .slice AH H.length cH), (19, .int .i64 (H.length : Int)), (20, .int .i64 (i : Int)), (45, .func (.func 77) #[] #[.pointer (some ⟨gN, 0, none⟩), .pointer (some ⟨gE, 0, none⟩), .pointer (some ⟨gA, 0, none⟩)]), (53, .slice Am_65 ((l ++ [(rd_Tile H (i : Int)).f1, (rd_Tile H (i : Int)).f0]).length) cm_66), (54, .slice A_11 ((H.eraseIdx i).length) c_12)] ++ r_) ∧ Hp w0 (row (Kd.int .i64) 3 w0.heap.size (.slice Am_65 ((l ++ [(rd_Tile H (i : Int)).f1, (rd_Tile H (i : Int)).f0]).length) cm_66) (l ++ [(rd_Tile H (i : Int)).f1, (rd_Tile H (i : Int)).f0]) Fm_67 :: blk gM #[.int .i64 ((walkL (stepM R wd) m (n - 1) (l ++ [(rd_Tile H (i : Int)).f0, (rd_Tile H (i : Int)).f1]) (H.eraseIdx i) (walkLTo (stepM R wd) m (n - 1) l H s i)).2 : Int)] 3 :: blk gB #[.slice A2_1 ((walkL (stepM R wd) m (n - 1) (l ++ [(rd_Tile H (i : Int)).f0, (rd_Tile H (i : Int)).f1]) (H.eraseIdx i) (walkLTo (stepM R wd) m (n - 1) l H s i)).1.length) c2_1] 39 :: row (Kd.int .i64) 3 w0.heap.size (.slice A2_1 ((walkL (stepM R wd) m (n - 1) (l ++ [(rd_Tile H (i : Int)).f0, (rd_Tile H (i : Int)).f1]) (H.eraseIdx i) (walkLTo (stepM R wd) m (n - 1) l H s i)).1.length) c2_1) ((walkL (stepM R wd) m (n - 1) (l ++ [(rd_Tile H (i : Int)).f0, (rd_Tile H (i : Int)).f1]) (H.eraseIdx i) (walkLTo (stepM R wd) m (n - 1) l H s i)).1) F2_1 :: blk gS #[.func (.func 46) #[] #[.pointer (some ⟨gR, 0, none⟩)]] 67 :: blk gR #[.int .i64 (R : Int)] 3 :: blk gN #[.int .i64 (m : Int)] 3 :: blk gE #[.func (.func 50) #[] #[.pointer (some ⟨gS, 0, none⟩), .pointer (some ⟨gM, 0, none⟩), .pointer (some ⟨gB, 0, none⟩)]] 59 :: blk gA #[.func (.func 77) #[] #[.pointer (some ⟨gN, 0, none⟩), .pointer (some ⟨gE, 0, none⟩), .pointer (some ⟨gA, 0, none⟩)]] 86 :: row k50 50 w0.heap.size (.slice A_11 ((H.eraseIdx i).length) c_12) (H.eraseIdx i) F_15 :: blk g_6 #[.int .i64 ((rd_Tile H (i : Int)).f0), .int .i64 ((rd_Tile H (i : Int)).f1)] 50 :: row (Kd.int .i64) 3 w0.heap.size (.slice Al l.length cl) l Fl :: cs) W) [1, 3, 5, 9] (.rd 0 (.rd 4 (.rd 6 (.alt 2 (.alt 7 (.alt 8 (.fin) .non) .non) (.alt 7 (.alt 2 (.alt 8 (.fin) .non) .non) (.non)))))) 10 (C := Hp w0 (blk gM #[.int .i64 ((walkL (stepM R wd) m (n - 1) (l ++ [(rd_Tile H (i : Int)).f0, (rd_Tile H (i : Int)).f1]) (H.eraseIdx i) (walkLTo (stepM R wd) m (n - 1) l H s i)).2 : Int)] 3 :: blk gB #[.slice A2_1 ((walkL (stepM R wd) m (n - 1) (l ++ [(rd_Tile H (i : Int)).f0, (rd_Tile H (i : Int)).f1]) (H.eraseIdx i) (walkLTo (stepM R wd) m (n - 1) l H s i)).1.length) c2_1] 39 :: row (Kd.int .i64) 3 w0.heap.size (.slice A2_1 ((walkL (stepM R wd) m (n - 1) (l ++ [(rd_Tile H (i : Int)).f0, (rd_Tile H (i : Int)).f1]) (H.eraseIdx i) (walkLTo (stepM R wd) m (n - 1) l H s i)).1.length) c2_1) ((walkL (stepM R wd) m (n - 1) (l ++ [(rd_Tile H (i : Int)).f0, (rd_Tile H (i : Int)).f1]) (H.eraseIdx i) (walkLTo (stepM R wd) m (n - 1) l H s i)).1) F2_1 :: blk gS #[.func (.func 46) #[] #[.pointer (some ⟨gR, 0, none⟩)]] 67 :: blk gR #[.int .i64 (R : Int)] 3 :: blk gN #[.int .i64 (m : Int)] 3 :: blk gE #[.func (.func 50) #[] #[.pointer (some ⟨gS, 0, none⟩), .pointer (some ⟨gM, 0, none⟩), .pointer (some ⟨gB, 0, none⟩)]] 59 :: blk gA #[.func (.func 77) #[] #[.pointer (some ⟨gN, 0, none⟩), .pointer (some ⟨gE, 0, none⟩), .pointer (some ⟨gA, 0, none⟩)]] 86 :: row k50 50 w0.heap.size (.slice A_11 ((H.eraseIdx i).length) c_12) (H.eraseIdx i) F_15 :: blk g_6 #[.int .i64 ((rd_Tile H (i : Int)).f0), .int .i64 ((rd_Tile H (i : Int)).f1)] 50 :: row (Kd.int .i64) 3 w0.heap.size (.slice Al l.length cl) l Fl :: cs)) (by kernel_rfl) (by kernel_rfl) (fun d _ _ _ _ h => by cases d <;> exact h) (fun W h => h.drew) hp ?_ ?_
      ·
       refine preI_read rfl ?_
       refine sxq_val 46 (.slice Al l.length cl) (by rfl) (fun W _ => (by kernel_rfl)) ?_
       refine sxq_nil ?_
       refine preI_read rfl ?_
       refine sxq_val 48 (.pointer (some ⟨g_6, 1, none⟩)) (by rfl) (fun W _ => (by kernel_rfl)) ?_
       refine sxq_nil ?_
       refine preI_read rfl ?_
       refine sxq_val 50 (.pointer (some ⟨g_6, 0, none⟩)) (by rfl) (fun W _ => (by kernel_rfl)) ?_
       refine sxq_nil ?_
       refine preI_read rfl ?_
       refine sxq_val 54 (.slice A_11 ((H.eraseIdx i).length) c_12) (by rfl) (fun W _ => (by kernel_rfl)) ?_
       refine sxq_nil ?_
       refine preI_nil ?_
       intro W_51 hp
       refine treeI_rd rfl ?_
       refine sxq_val 45 (.func (.func 77) #[] #[.pointer (some ⟨gN, 0, none⟩), .pointer (some ⟨gE, 0, none⟩), .pointer (some ⟨gA, 0, none⟩)]) (by rfl) (fun W hp => (ld1 (t := 86) (p := (.tmp 4)) (by rfl) (by rfl) (by kernel_rfl) (hp.cell 7 (by rfl) 0 _ (by rfl)))) ?_
       refine sxq_nil ?_
       refine treeI_rd rfl ?_
       refine sxq_val 49 (.int .i64 ((rd_Tile H (i : Int)).f1)) (by rfl) (fun W hp => (ld1 (t := 3) (p := (.tmp 48)) (by rfl) (by rfl) (by kernel_rfl) (hp.cell 9 (by rfl) 1 _ (by rfl)))) ?_
       refine sxq_nil ?_
       refine treeI_rd rfl ?_
       refine sxq_val 51 (.int .i64 ((rd_Tile H (i : Int)).f0)) (by rfl) (fun W hp => (ld1 (t := 3) (p := (.tmp 50)) (by rfl) (by rfl) (by kernel_rfl) (hp.cell 9 (by rfl) 0 _ (by rfl)))) ?_
       refine sxq_nil ?_
       refine treeI_alt rfl ?_ ?_
       ·
        refine sx_call 47 (by rfl) (by kernel_rfl) ((slices_Clone_int_int.calls Al cl l _ _ (row_C (hp.at_ 10 _ (by rfl))) (row_len (hp.at_ 10 _ (by rfl))).2 (cloneI_eq l (by omega))).mono ?_)
        rintro _ W_57 ⟨v_53, rfl, hR_52, hb⟩
        refine ⟨_, rfl, ?_⟩
        obtain ⟨A_54, c_55, rfl, hcc_c_55, _⟩ := Kd.R_reads hR_52
        obtain ⟨F_56, hp⟩ : ∃ F, Hp w0 (row (Kd.int .i64) 3 w0.heap.size (.slice A_54 l.length c_55) l F :: blk gM #[.int .i64 ((walkL (stepM R wd) m (n - 1) (l ++ [(rd_Tile H (i : Int)).f0, (rd_Tile H (i : Int)).f1]) (H.eraseIdx i) (walkLTo (stepM R wd) m (n - 1) l H s i)).2 : Int)] 3 :: blk gB #[.slice A2_1 ((walkL (stepM R wd) m (n - 1) (l ++ [(rd_Tile H (i : Int)).f0, (rd_Tile H (i : Int)).f1]) (H.eraseIdx i) (walkLTo (stepM R wd) m (n - 1) l H s i)).1.length) c2_1] 39 :: row (Kd.int .i64) 3 w0.heap.size (.slice A2_1 ((walkL (stepM R wd) m (n - 1) (l ++ [(rd_Tile H (i : Int)).f0, (rd_Tile H (i : Int)).f1]) (H.eraseIdx i) (walkLTo (stepM R wd) m (n - 1) l H s i)).1.length) c2_1) ((walkL (stepM R wd) m (n - 1) (l ++ [(rd_Tile H (i : Int)).f0, (rd_Tile H (i : Int)).f1]) (H.eraseIdx i) (walkLTo (stepM R wd) m (n - 1) l H s i)).1) F2_1 :: blk gS #[.func (.func 46) #[] #[.pointer (some ⟨gR, 0, none⟩)]] 67 :: blk gR #[.int .i64 (R : Int)] 3 :: blk gN #[.int .i64 (m : Int)] 3 :: blk gE #[.func (.func 50) #[] #[.pointer (some ⟨gS, 0, none⟩), .pointer (some ⟨gM, 0, none⟩), .pointer (some ⟨gB, 0, none⟩)]] 59 :: blk gA #[.func (.func 77) #[] #[.pointer (some ⟨gN, 0, none⟩), .pointer (some ⟨gE, 0, none⟩), .pointer (some ⟨gA, 0, none⟩)]] 86 :: row k50 50 w0.heap.size (.slice A_11 ((H.eraseIdx i).length) c_12) (H.eraseIdx i) F_15 :: blk g_6 #[.int .i64 ((rd_Tile H (i : Int)).f0), .int .i64 ((rd_Tile H (i : Int)).f1)] 50 :: row (Kd.int .i64) 3 w0.heap.size (.slice Al l.length cl) l Fl :: cs) _ := ⟨_, Hp.made hp hb hR_52⟩
        refine step_fin hp.tail ?_
        refine treeI_ev rfl ?_
        refine sx_lit 52 (by rfl) (Kd.int .i64) w0.heap.size 3 ([(rd_Tile H (i : Int)).f1, (rd_Tile H (i : Int)).f0]) [.int .i64 ((rd_Tile H (i : Int)).f1), .int .i64 ((rd_Tile H (i : Int)).f0)] (fun W => by kernel_rfl) (reps_ints [(rd_Tile H (i : Int)).f1, (rd_Tile H (i : Int)).f0]) (by simp) hp.size hp ?_
        intro g_58 F_59 W_60 hp hz; clear hz
        refine step_fin hp.tail.tail ?_
        refine treeI_ev rfl ?_
        refine sx_append 53 (by rfl) (Kd.int .i64) 1 (by rfl) (.int .i64 0) 8 (by rfl) Try.underlying39 (by kernel_rfl) rfl (by decide) (by decide) ([(rd_Tile H (i : Int)).f1, (rd_Tile H (i : Int)).f0]) (by rfl) (by rfl) (row_C (hp.at_ 0 _ (by rfl))) (fun x cs h => h) hp.size (by first | omega | (simp; done) | (simp; omega)) hp ?_
        intro A_61 c_62 F_63 W_64 hp hz; clear hz; simp only [List.set_cons_succ, List.set_cons_zero] at hp
        refine step_fin hp.tail.tail ?_
        refine treeI_fin ?_
        exact ⟨_, A_61, c_62, F_63, fr_front [(0, .slice Al l.length cl), (1, .slice AH H.length cH), (4, .pointer (some ⟨gA, 0, none⟩)), (18, .slice AH H.length cH), (19, .int .i64 (H.length : Int)), (20, .int .i64 (i : Int)), (45, .func (.func 77) #[] #[.pointer (some ⟨gN, 0, none⟩), .pointer (some ⟨gE, 0, none⟩), .pointer (some ⟨gA, 0, none⟩)]), (53, .slice A_61 ((l ++ [(rd_Tile H (i : Int)).f1, (rd_Tile H (i : Int)).f0]).length) c_62), (54, .slice A_11 ((H.eraseIdx i).length) c_12)] ⟨rfl, rfl, rfl, rfl, rfl, rfl, rfl, rfl, rfl, trivial⟩, (hp.take [1, 2, 3, 4, 5, 6, 7, 8, 9, 10, 11, 12] 13 (by decide) (by simp))⟩
       refine treeI_alt rfl ?_ ?_
       ·
        refine sx_lit 52 (by rfl) (Kd.int .i64) w0.heap.size 3 ([(rd_Tile H (i : Int)).f1, (rd_Tile H (i : Int)).f0]) [.int .i64 ((rd_Tile H (i : Int)).f1), .int .i64 ((rd_Tile H (i : Int)).f0)] (fun W => by kernel_rfl) (reps_ints [(rd_Tile H (i : Int)).f1, (rd_Tile H (i : Int)).f0]) (by simp) hp.size hp ?_
        intro g_68 F_69 W_70 hp hz; clear hz
        refine step_fin hp.tail ?_
        refine treeI_ev rfl ?_
        refine sx_call 47 (by rfl) (by kernel_rfl) ((slices_Clone_int_int.calls Al cl l _ _ (row_C (hp.at_ 11 _ (by rfl))) (row_len (hp.at_ 11 _ (by rfl))).2 (cloneI_eq l (by omega))).mono ?_)
        rintro _ W_76 ⟨v_72, rfl, hR_71, hb⟩
        refine ⟨_, rfl, ?_⟩
        obtain ⟨A_73, c_74, rfl, hcc_c_74, _⟩ := Kd.R_reads hR_71
        obtain ⟨F_75, hp⟩ : ∃ F, Hp w0 (row (Kd.int .i64) 3 w0.heap.size (.slice A_73 l.length c_74) l F :: row (Kd.int .i64) 3 w0.heap.size (.slice (some ⟨g_68, 0, none⟩) ([(rd_Tile H (i : Int)).f1, (rd_Tile H (i : Int)).f0].length) ([(rd_Tile H (i : Int)).f1, (rd_Tile H (i : Int)).f0].length)) ([(rd_Tile H (i : Int)).f1, (rd_Tile H (i : Int)).f0]) F_69 :: blk gM #[.int .i64 ((walkL (stepM R wd) m (n - 1) (l ++ [(rd_Tile H (i : Int)).f0, (rd_Tile H (i : Int)).f1]) (H.eraseIdx i) (walkLTo (stepM R wd) m (n - 1) l H s i)).2 : Int)] 3 :: blk gB #[.slice A2_1 ((walkL (stepM R wd) m (n - 1) (l ++ [(rd_Tile H (i : Int)).f0, (rd_Tile H (i : Int)).f1]) (H.eraseIdx i) (walkLTo (stepM R wd) m (n - 1) l H s i)).1.length) c2_1] 39 :: row (Kd.int .i64) 3 w0.heap.size (.slice A2_1 ((walkL (stepM R wd) m (n - 1) (l ++ [(rd_Tile H (i : Int)).f0, (rd_Tile H (i : Int)).f1]) (H.eraseIdx i) (walkLTo (stepM R wd) m (n - 1) l H s i)).1.length) c2_1) ((walkL (stepM R wd) m (n - 1) (l ++ [(rd_Tile H (i : Int)).f0, (rd_Tile H (i : Int)).f1]) (H.eraseIdx i) (walkLTo (stepM R wd) m (n - 1) l H s i)).1) F2_1 :: blk gS #[.func (.func 46) #[] #[.pointer (some ⟨gR, 0, none⟩)]] 67 :: blk gR #[.int .i64 (R : Int)] 3 :: blk gN #[.int .i64 (m : Int)] 3 :: blk gE #[.func (.func 50) #[] #[.pointer (some ⟨gS, 0, none⟩), .pointer (some ⟨gM, 0, none⟩), .pointer (some ⟨gB, 0, none⟩)]] 59 :: blk gA #[.func (.func 77) #[] #[.pointer (some ⟨gN, 0, none⟩), .pointer (some ⟨gE, 0, none⟩), .pointer (some ⟨gA, 0, none⟩)]] 86 :: row k50 50 w0.heap.size (.slice A_11 ((H.eraseIdx i).length) c_12) (H.eraseIdx i) F_15 :: blk g_6 #[.int .i64 ((rd_Tile H (i : Int)).f0), .int .i64 ((rd_Tile H (i : Int)).f1)] 50 :: row (Kd.int .i64) 3 w0.heap.size (.slice Al l.length cl) l Fl :: cs) _ := ⟨_, Hp.made hp hb hR_71⟩
        refine step_fin hp.tail.tail ?_
        refine treeI_ev rfl ?_
        refine sx_append 53 (by rfl) (Kd.int .i64) 0 (by rfl) (.int .i64 0) 8 (by rfl) Try.underlying39 (by kernel_rfl) rfl (by decide) (by decide) ([(rd_Tile H (i : Int)).f1, (rd_Tile H (i : Int)).f0]) (by rfl) (by rfl) (row_C (hp.at_ 1 _ (by rfl))) (fun x cs h => h) hp.size (by first | omega | (simp; done) | (simp; omega)) hp ?_
        intro A_77 c_78 F_79 W_80 hp hz; clear hz; simp only [List.set_cons_succ, List.set_cons_zero] at hp
        refine step_fin hp.tail.tail ?_
        refine treeI_fin ?_
        exact ⟨_, A_77, c_78, F_79, fr_front [(0, .slice Al l.length cl), (1, .slice AH H.length cH), (4, .pointer (some ⟨gA, 0, none⟩)), (18, .slice AH H.length cH), (19, .int .i64 (H.length : Int)), (20, .int .i64 (i : Int)), (45, .func (.func 77) #[] #[.pointer (some ⟨gN, 0, none⟩), .pointer (some ⟨gE, 0, none⟩), .pointer (some ⟨gA, 0, none⟩)]), (53, .slice A_77 ((l ++ [(rd_Tile H (i : Int)).f1, (rd_Tile H (i : Int)).f0]).length) c_78), (54, .slice A_11 ((H.eraseIdx i).length) c_12)] ⟨rfl, rfl, rfl, rfl, rfl, rfl, rfl, rfl, rfl, trivial⟩, (hp.take [0, 2, 3, 4, 5, 6, 7, 8, 9, 10, 11, 12] 13 (by decide) (by simp))⟩
       exact treeI_non
      ·
       rintro _ W_81 ⟨r_, Am_65, cm_66, Fm_67, rfl, hp⟩
       refine tail_of [10] (by rfl) ?_
       refine tailI_op rfl ?_
       refine sx_call 55 (by rfl) (by kernel_rfl) ((ih (n - 1) (by omega) w0 _ (row k50 50 w0.heap.size (.slice A_11 ((H.eraseIdx i).length) c_12) (H.eraseIdx i) F_15 :: blk g_6 #[.int .i64 ((rd_Tile H (i : Int)).f0), .int .i64 ((rd_Tile H (i : Int)).f1)] 50 :: row (Kd.int .i64) 3 w0.heap.size (.slice Al l.length cl) l Fl :: cs) (l ++ [(rd_Tile H (i : Int)).f1, (rd_Tile H (i : Int)).f0]) Am_65 cm_66 Fm_67 (H.eraseIdx i) A_11 c_12 hHe (by simp; omega) (row_len (hp.at_ 9 _ (by rfl))).2 (fun W h => row_C (h.at_ 0 _ (by rfl))) (walkL (stepM R wd) m (n - 1) (l ++ [(rd_Tile H (i : Int)).f0, (rd_Tile H (i : Int)).f1]) (H.eraseIdx i) (walkLTo (stepM R wd) m (n - 1) l H s i)) hsA A2_1 c2_1 F2_1 hn2_1 (hbB (not_eq c_50)) (hp.take [0, 1, 2, 3, 4, 5, 6, 7, 8, 9, 10, 11] 12 (by decide) (by simp))).mono ?_)
       rintro _ W_82 ⟨A2_2, c2_2, F2_2, rfl, hn2_2, hp⟩
       refine ⟨_, rfl, ?_⟩
       refine tailI_next ?_
       refine tailI_nil ?_
       refine ex_blk_n ?_
       refine ex_then_n ?_
       refine sx_region ?_
       refine sx_rd 56 (.int .i64 ((i : Int) + 1)) (by rfl) (wr_ok (by omega) (by kernel_rfl)) ?_
       refine sx_rd 20 (.int .i64 ((i : Int) + 1)) (by rfl) (by kernel_rfl) ?_
       refine sx_nil ?_
       refine ex_then_n ?_
       have hq_83 : (walkL (stepM R wd) m (n - 1) (l ++ [(rd_Tile H (i : Int)).f1, (rd_Tile H (i : Int)).f0]) (H.eraseIdx i) (walkL (stepM R wd) m (n - 1) (l ++ [(rd_Tile H (i : Int)).f0, (rd_Tile H (i : Int)).f1]) (H.eraseIdx i) (walkLTo (stepM R wd) m (n - 1) l H s i))).1 = (walkLTo (stepM R wd) m (n - 1) l H s (i + 1)).1 := (congrArg Prod.fst (show (walkL (stepM R wd) m (n - 1) (l ++ [(rd_Tile H (i : Int)).f1, (rd_Tile H (i : Int)).f0]) (H.eraseIdx i) (walkL (stepM R wd) m (n - 1) (l ++ [(rd_Tile H (i : Int)).f0, (rd_Tile H (i : Int)).f1]) (H.eraseIdx i) (walkLTo (stepM R wd) m (n - 1) l H s i))) = (walkLTo (stepM R wd) m (n - 1) l H s (i + 1)) from (by rw [walkLTo_next, if_neg (by rw [show ((rd_Tile H (i : Int)).f0 == (rd_Tile H (i : Int)).f1) = false from (not_eq c_50)]; exact Bool.false_ne_true)])))
       rw [hq_83] at hp
       have hq_84 : ((walkL (stepM R wd) m (n - 1) (l ++ [(rd_Tile H (i : Int)).f1, (rd_Tile H (i : Int)).f0]) (H.eraseIdx i) (walkL (stepM R wd) m (n - 1) (l ++ [(rd_Tile H (i : Int)).f0, (rd_Tile H (i : Int)).f1]) (H.eraseIdx i) (walkLTo (stepM R wd) m (n - 1) l H s i))).2 : Int) = ((walkLTo (stepM R wd) m (n - 1) l H s (i + 1)).2 : Int) := (congrArg (fun z : List Int × Nat => (z.2 : Int)) (show (walkL (stepM R wd) m (n - 1) (l ++ [(rd_Tile H (i : Int)).f1, (rd_Tile H (i : Int)).f0]) (H.eraseIdx i) (walkL (stepM R wd) m (n - 1) (l ++ [(rd_Tile H (i : Int)).f0, (rd_Tile H (i : Int)).f1]) (H.eraseIdx i) (walkLTo (stepM R wd) m (n - 1) l H s i))) = (walkLTo (stepM R wd) m (n - 1) l H s (i + 1)) from (by rw [walkLTo_next, if_neg (by rw [show ((rd_Tile H (i : Int)).f0 == (rd_Tile H (i : Int)).f1) = false from (not_eq c_50)]; exact Bool.false_ne_true)])))
       rw [hq_84] at hp
       exact ⟨_, (by omega), _, (i + 1), _, _, _, _, rfl, fr_front [(0, .slice Al l.length cl), (1, .slice AH H.length cH), (4, .pointer (some ⟨gA, 0, none⟩)), (18, .slice AH H.length cH), (19, .int .i64 (H.length : Int)), (20, .int .i64 ((i + 1 : Nat) : Int))] ⟨rfl, rfl, rfl, rfl, rfl, rfl, trivial⟩, (hp.take [2, 0, 1, 10, 3, 4, 5, 6, 7] 11 (by decide) (by simp)), (by omega), (fun q => hn2_2 (by rw [show (walkL (stepM R wd) m (n - 1) (l ++ [(rd_Tile H (i : Int)).f1, (rd_Tile H (i : Int)).f0]) (H.eraseIdx i) (walkL (stepM R wd) m (n - 1) (l ++ [(rd_Tile H (i : Int)).f0, (rd_Tile H (i : Int)).f1]) (H.eraseIdx i) (walkLTo (stepM R wd) m (n - 1) l H s i))) = (walkLTo (stepM R wd) m (n - 1) l H s (i + 1)) from (by rw [walkLTo_next, if_neg (by rw [show ((rd_Tile H (i : Int)).f0 == (rd_Tile H (i : Int)).f1) = false from (not_eq c_50)]; exact Bool.false_ne_true)])]; exact q))⟩
     ·
      refine wp_skip ?_
      refine ex_blk_n ?_
      refine ex_then_n ?_
      refine sx_region ?_
      refine sx_rd 56 (.int .i64 ((i : Int) + 1)) (by rfl) (wr_ok (by omega) (by kernel_rfl)) ?_
      refine sx_rd 20 (.int .i64 ((i : Int) + 1)) (by rfl) (by kernel_rfl) ?_
      refine sx_nil ?_
      refine ex_then_n ?_
      have hq_85 : (walkL (stepM R wd) m (n - 1) (l ++ [(rd_Tile H (i : Int)).f0, (rd_Tile H (i : Int)).f1]) (H.eraseIdx i) (walkLTo (stepM R wd) m (n - 1) l H s i)).1 = (walkLTo (stepM R wd) m (n - 1) l H s (i + 1)).1 := (congrArg Prod.fst (show (walkL (stepM R wd) m (n - 1) (l ++ [(rd_Tile H (i : Int)).f0, (rd_Tile H (i : Int)).f1]) (H.eraseIdx i) (walkLTo (stepM R wd) m (n - 1) l H s i)) = (walkLTo (stepM R wd) m (n - 1) l H s (i + 1)) from (by rw [walkLTo_next, if_pos (show ((rd_Tile H (i : Int)).f0 == (rd_Tile H (i : Int)).f1) = true from (not_eq c_50))])))
      rw [hq_85] at hp
      have hq_86 : ((walkL (stepM R wd) m (n - 1) (l ++ [(rd_Tile H (i : Int)).f0, (rd_Tile H (i : Int)).f1]) (H.eraseIdx i) (walkLTo (stepM R wd) m (n - 1) l H s i)).2 : Int) = ((walkLTo (stepM R wd) m (n - 1) l H s (i + 1)).2 : Int) := (congrArg (fun z : List Int × Nat => (z.2 : Int)) (show (walkL (stepM R wd) m (n - 1) (l ++ [(rd_Tile H (i : Int)).f0, (rd_Tile H (i : Int)).f1]) (H.eraseIdx i) (walkLTo (stepM R wd) m (n - 1) l H s i)) = (walkLTo (stepM R wd) m (n - 1) l H s (i + 1)) from (by rw [walkLTo_next, if_pos (show ((rd_Tile H (i : Int)).f0 == (rd_Tile H (i : Int)).f1) = true from (not_eq c_50))])))
      rw [hq_86] at hp
      exact ⟨_, (by omega), _, (i + 1), _, _, _, _, rfl, fr_front [(0, .slice Al l.length cl), (1, .slice AH H.length cH), (4, .pointer (some ⟨gA, 0, none⟩)), (18, .slice AH H.length cH), (19, .int .i64 (H.length : Int)), (20, .int .i64 ((i + 1 : Nat) : Int))] ⟨rfl, rfl, rfl, rfl, rfl, rfl, trivial⟩, (hp.take [2, 0, 1, 10, 3, 4, 5, 6, 7] 11 (by decide) (by simp)), (by omega), (fun q => hn2_1 (by rw [show (walkL (stepM R wd) m (n - 1) (l ++ [(rd_Tile H (i : Int)).f0, (rd_Tile H (i : Int)).f1]) (H.eraseIdx i) (walkLTo (stepM R wd) m (n - 1) l H s i)) = (walkLTo (stepM R wd) m (n - 1) l H s (i + 1)) from (by rw [walkLTo_next, if_pos (show ((rd_Tile H (i : Int)).f0 == (rd_Tile H (i : Int)).f1) = true from (not_eq c_50))])]; exact q))⟩
   ·
    have c_5p := of_decide_eq_false c_5
    refine wp_exit ?_
    refine ex_then_e (ex_then_e (ex_blk_here ?_))
    refine sx_end_n (.tuple #[]) (res0 (by rfl)) ?_
    obtain rfl : i = H.length := by omega
    have hp := hp
    rw [walkLTo_fin (stepM R wd) m n l H s hHn (by omega)] at hp hnlI
    exact ⟨_, _, _, rfl, hnlI, (hp.take [1, 2, 0, 4, 5, 6, 7, 8] 9 (by decide) (by simp))⟩
end Go.Proofs.Ytbkaedmabdgdhaa.Hd
