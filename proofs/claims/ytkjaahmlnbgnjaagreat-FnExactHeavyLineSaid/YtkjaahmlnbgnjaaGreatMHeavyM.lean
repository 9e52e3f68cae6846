/- impl.weight, the comparison, slices.MaxFunc, the choice of HeavyLine, by hand. -/
import Derived.Test.YtkjaahmlnbgnjaaGreatPMovedE
import Derived.Test.YtkjaahmlnbgnjaaGreatPHeavyA
import Derived.Test.YtkjaahmlnbgnjaaGreatPDelF
import Derived.Test.YtkjaahmlnbgnjaaGreatMSx5
import Derived.Test.YtkjaahmlnbgnjaaGreatMTileR
namespace Go.Proofs.YtkjaahmlnbgnjaaGreat.Hd
open Go.RowKit Go.Proofs.YtkjaahmlnbgnjaaGreat.Pure Go.Proofs.YtkjaahmlnbgnjaaGreatW.PrintWords Go.Proofs.YtkjaahmlnbgnjaaGreatW.PrintLast Go.Proofs.YtkjaahmlnbgnjaaGreatW.PrintMore
set_option linter.unusedVariables false
set_option linter.unusedSimpArgs false
def pipA (l : List S_Tile) : Nat → Int
 | 0 => 0
 | i + 1 => pipA l i + ((rd_Tile l (i : Int)).f0 + (rd_Tile l (i : Int)).f1)
theorem pip_bd {l : List S_Tile} (h : l.all goodT = true) (i : Nat) (hi : i < l.length) : 0 ≤ (rd_Tile l (i : Int)).f0 + (rd_Tile l (i : Int)).f1 ∧ (rd_Tile l (i : Int)).f0 + (rd_Tile l (i : Int)).f1 ≤ 18 := by
 rw [rdT_lt hi]
 have := List.all_eq_true.1 h _ (List.getElem_mem hi)
 unfold goodT at this
 simp only [Bool.and_eq_true, decide_eq_true_eq] at this
 omega
theorem pipA_bd {l : List S_Tile} (h : l.all goodT = true) : ∀ i, i ≤ l.length → 0 ≤ pipA l i ∧ pipA l i ≤ 18 * i := by
 intro i
 induction i with
 | zero => intro _; exact ⟨Int.le_refl _, Int.le_refl _⟩
 | succ i ih =>
  intro hi
  have h1 := ih (by omega)
  have h2 := pip_bd h i (by omega)
  simp only [pipA]
  omega
def impl_pips.f (l : List S_Tile) : Option Int := if l.length ≤ 1000 ∧ l.all goodT = true then some (pipA l l.length) else none
set_option maxRecDepth 100000 in
set_option maxHeartbeats 40000000 in
theorem impl_pips.calls (A0 : Option Addr) (c0 : Nat) (l0 : List S_Tile) (r : Int) (w : World) (hr0 : Kd.C k59 w A0 l0.length l0) (hc0 : l0.length ≤ c0) (h : impl_pips.f l0 = some r) :
  Calls Tryz.prog 75 #[.slice A0 l0.length c0] w fun e w' => e = .returned (.int .i64 r) ∧ Below w.heap.size w w' := by
 unfold impl_pips.f at h
 by_cases hsz : l0.length ≤ 1000 ∧ l0.all goodT = true
 case neg => rw [if_neg hsz] at h; cases h
 rw [if_pos hsz] at h
 obtain ⟨hz0, hgd⟩ := hsz
 obtain ⟨cs, hcs⟩ : ∃ cs, cs = [old w w.heap.size] := ⟨_, rfl⟩
 have hp : Hp w cs w := by rw [hcs]; exact Hp.old_start w
 have hc2 : ∀ W, Hp w cs W → Below w.heap.size w W := fun W h => by rw [hcs] at h; exact h.since 0 _ rfl
 have hC0 : ∀ W, Hp w cs W → Kd.C k59 W A0 l0.length l0 := fun W h => Kd.C_below hr0 (hc2 W h)
 clear hcs
 refine sx_enter (N := 21) (l := [.slice A0 l0.length c0]) Tryz.func75 rfl rfl rfl ?_
 refine wp_seq ?_
 refine sx_region ?_
 refine sx_rd 2 (.int .i64 0) (by rfl) (by kernel_rfl) ?_
 refine sx_nil ?_
 refine ex_then_n ?_
 refine wp_seq ?_
 refine sx_region ?_
 refine sx_rd 3 (.int .i64 0) (by rfl) (by kernel_rfl) ?_
 refine sx_nil ?_
 refine ex_then_n ?_
 refine wp_seq ?_
 refine wp_seq ?_
 refine sx_region ?_
 refine sx_rd 6 (.slice A0 l0.length c0) (by rfl) (by kernel_rfl) ?_
 refine sx_rd 7 (.int .i64 (l0.length : Int)) (by rfl) (by kernel_rfl) ?_
 refine sx_rd 8 (.int .i64 0) (by rfl) (by kernel_rfl) ?_
 refine sx_nil ?_
 refine ex_then_n ?_
 refine wp_block ?_
 refine wp_loop_ghost (fun n a W => ∃ (r_ : List (Nat × Value)) (i : Nat) , n = l0.length - i ∧ a = fr 21 ([(3, .int .i64 (pipA l0 i)), (6, .slice A0 l0.length c0), (7, .int .i64 (l0.length : Int)), (8, .int .i64 (i : Int))] ++ r_) ∧ Hp w (cs) W ∧ (i ≤ l0.length)) _ ⟨_, 0, rfl, fr_front [(3, .int .i64 0), (6, .slice A0 l0.length c0), (7, .int .i64 (l0.length : Int)), (8, .int .i64 0)] ⟨rfl, rfl, rfl, rfl, trivial⟩, (hp.take [] 0 (by decide) (by simp)), Nat.zero_le _⟩ ?_
 rintro _ _ W_1 ⟨r_, i, rfl, rfl, hp, hi⟩
 have hpb := pipA_bd hgd i (by omega)
 refine wp_seq ?_
 refine sx_region ?_
 refine sx_rd 9 (.bool (decide ((i : Int) < (l0.length : Int)))) (by rfl) (by kernel_rfl) ?_
 refine sx_nil ?_
 refine ex_then_n ?_
 refine wp_seq ?_
 refine sx_cond (decide ((i : Int) < (l0.length : Int))) (by rfl) (fun c_2 => ?_) (fun c_2 => ?_)
 ·
  have c_2p := of_decide_eq_true c_2
  have hpe := pip_bd hgd i (by omega)
  refine wp_skip ?_
  refine ex_then_n ?_
  refine wp_seq ?_
  refine wp_block ?_
  refine wp_seq ?_
  refine sx_region ?_
  refine sx_rd 10 (.pointer (some (adr A0 (i : Int) 2))) (by rfl) (ix_run (d := k59) (hC0 _ hp) (t := 27) (by rfl) (by rfl) (by rfl) Tryz.underlying27 (by kernel_rfl) (by omega) (by omega)) ?_
  refine sx_rd 11 (.agg #[.int .i64 ((rd_Tile l0 (i : Int)).f0), .int .i64 ((rd_Tile l0 (i : Int)).f1)]) (by rfl) (el_run (d := k59) (hC0 _ hp) z59 (i : Int) (by omega) (by omega) (cells := [.int .i64 ((rd_Tile l0 (i : Int)).f0), .int .i64 ((rd_Tile l0 (i : Int)).f1)]) (fun cs h => k59_open h) 0 [.int .i64 ((rd_Tile l0 (i : Int)).f0), .int .i64 ((rd_Tile l0 (i : Int)).f1)] (by rfl) (t := 59) (p := (.tmp 10)) (by rfl) (by rfl) (by kernel_rfl) (by kernel_rfl)) ?_
  refine sx_box 5 hp #[.int .i64 0, .int .i64 0] 59 (by rfl) (fun W => by kernel_rfl) ?_
  intro g_3 W_4 hp
  refine sx_store (t := 59) (p := (.tmp 5)) (x := (.tmp 11)) (by rfl) (by rfl) 0 (by rfl) 0 [.int .i64 ((rd_Tile l0 (i : Int)).f0), .int .i64 ((rd_Tile l0 (i : Int)).f1)] (by rfl) (by rfl) (by kernel_rfl) (by simp [Value.oneCell']) (by show 2 ≤ 2; omega) #[.int .i64 ((rd_Tile l0 (i : Int)).f0), .int .i64 ((rd_Tile l0 (i : Int)).f1)] (by rfl) hp ?_
  intro W_5 hp; simp only [List.set_cons_succ, List.set_cons_zero] at hp
  refine sx_nil ?_
  refine ex_then_n ?_
  refine sx_region ?_
  refine sx_rd 12 (.int .i64 (pipA l0 i)) (by rfl) (by kernel_rfl) ?_
  refine sx_rd 13 (.pointer (some ⟨g_3, 0, none⟩)) (by rfl) (by kernel_rfl) ?_
  refine sx_rd 14 (.int .i64 ((rd_Tile l0 (i : Int)).f0)) (by rfl) (ld1 (t := 3) (p := (.tmp 13)) (by rfl) (by rfl) (by kernel_rfl) (hp.cell 0 (by rfl) 0 _ (by rfl))) ?_
  refine sx_rd 15 (.pointer (some ⟨g_3, 1, none⟩)) (by rfl) (by kernel_rfl) ?_
  refine sx_rd 16 (.int .i64 ((rd_Tile l0 (i : Int)).f1)) (by rfl) (ld1 (t := 3) (p := (.tmp 15)) (by rfl) (by rfl) (by kernel_rfl) (hp.cell 0 (by rfl) 1 _ (by rfl))) ?_
  refine sx_rd 17 (.int .i64 ((rd_Tile l0 (i : Int)).f0 + (rd_Tile l0 (i : Int)).f1)) (by rfl) (wr_ok (by omega) (by kernel_rfl)) ?_
  refine sx_rd 18 (.int .i64 ((pipA l0 i) + ((rd_Tile l0 (i : Int)).f0 + (rd_Tile l0 (i : Int)).f1))) (by rfl) (wr_ok (by omega) (by kernel_rfl)) ?_
  refine sx_rd 3 (.int .i64 ((pipA l0 i) + ((rd_Tile l0 (i : Int)).f0 + (rd_Tile l0 (i : Int)).f1))) (by rfl) (by kernel_rfl) ?_
  refine sx_nil ?_
  refine ex_blk_n ?_
  refine ex_then_n ?_
  refine sx_region ?_
  refine sx_rd 19 (.int .i64 ((i : Int) + 1)) (by rfl) (wr_ok (by omega) (by kernel_rfl)) ?_
  refine sx_rd 8 (.int .i64 ((i : Int) + 1)) (by rfl) (by kernel_rfl) ?_
  refine sx_nil ?_
  refine ex_then_n ?_
  have hq_6 : ((pipA l0 i) + ((rd_Tile l0 (i : Int)).f0 + (rd_Tile l0 (i : Int)).f1)) = (pipA l0 (i + 1)) := rfl
  exact ⟨_, (by omega), _, (i + 1), rfl, fr_front [(3, .int .i64 (pipA l0 (i + 1))), (6, .slice A0 l0.length c0), (7, .int .i64 (l0.length : Int)), (8, .int .i64 ((i + 1 : Nat) : Int))] ⟨congrArg (Value.int .i64) hq_6, rfl, rfl, rfl, trivial⟩, (hp.take [] 1 (by decide) (by simp)), (by omega)⟩
 ·
  have c_2p := of_decide_eq_false c_2
  refine wp_exit ?_
  refine ex_then_e (ex_then_e (ex_blk_here ?_))
  refine ex_then_n ?_
  refine wp_seq ?_
  refine sx_region ?_
  refine sx_rd 20 (.int .i64 (pipA l0 i)) (by rfl) (by kernel_rfl) ?_
  refine sx_rd 2 (.int .i64 (pipA l0 i)) (by rfl) (by kernel_rfl) ?_
  refine sx_nil ?_
  refine ex_then_n ?_
  refine wp_ret ?_
  refine sx_end (.int .i64 (pipA l0 i)) (res1 2 (by rfl)) ?_
  obtain rfl : i = l0.length := by omega
  obtain rfl := Option.some.inj h
  exact ⟨rfl, hc2 _ (hp)⟩
theorem pips_one {x : S_plLay} (h : goodT x.f0 = true) : impl_pips.f [x.f0] = some (wtM x) := by
 unfold impl_pips.f
 rw [if_pos ⟨by simp, by simp [h]⟩]
 show some (pipA [x.f0] 1) = _
 simp only [pipA]
 unfold wtM
 congr 1
 have e : rd_Tile [x.f0] ((0 : Nat) : Int) = x.f0 := rfl
 rw [e]
 omega
end Go.Proofs.YtkjaahmlnbgnjaaGreat.Hd
namespace Go.Proofs.YtkjaahmlnbgnjaaGreat.Hd
open Go.RowKit Go.Proofs.YtkjaahmlnbgnjaaGreat.Pure Go.Proofs.YtkjaahmlnbgnjaaGreatW.PrintWords Go.Proofs.YtkjaahmlnbgnjaaGreatW.PrintLast Go.Proofs.YtkjaahmlnbgnjaaGreatW.PrintMore
set_option linter.unusedVariables false
set_option linter.unusedSimpArgs false
theorem rdOf_map {L : List S_plLay} {i : Nat} (h : i < L.length) : rdOf ByteArray.empty (L.map txt) (i : Int) = txt (rd_plLay L (i : Int)) := by
  rw [rdOfS_at (by rw [List.length_map]; exact h), rdL_lt h, List.getElem_map]
theorem wok {g : Gm} {x : S_plLay} (h : x ∈ g.moves) : (x.f2 = true ∧ wtM x = 0) ∨ (x.f2 = false ∧ goodT x.f0 = true) := by
  rcases (moves_mem h).2 with rfl | ⟨hn, -, hg, -⟩
  · exact .inl ⟨rfl, rfl⟩
  · exact .inr ⟨hn, hg⟩
set_option maxRecDepth 100000 in
set_option maxHeartbeats 40000000 in
theorem weight_sx {w0 W : World} {cs : List Chunk} (x : S_plLay) (hwx : (x.f2 = true ∧ wtM x = 0) ∨ (x.f2 = false ∧ goodT x.f0 = true)) (hp : Hp w0 cs W) : Calls Tryz.prog 46 #[.string (txt x)] W fun e W' => e = .returned (.int .i64 (wtM x)) ∧ Hp w0 cs W' := by
  refine sx_enter (N := 9) (l := [.string (txt x)]) Tryz.func46 rfl rfl rfl ?_
  refine wp_seq ?_
  refine sx_region ?_
  refine sx_rd 2 (.int .i64 0) (by rfl) (by kernel_rfl) ?_
  refine sx_nil ?_
  refine ex_then_n ?_
  refine wp_seq ?_
  refine wp_seq ?_
  refine sx_region ?_
  refine sx_rd 3 (.string (txt x)) (by rfl) (by kernel_rfl) ?_
  refine sx_rd 4 (.bool (decide ((txt x) = (⟨#[45]⟩ : ByteArray)))) (by rfl) (seq_run (by rfl) (by rfl) (by rfl)) ?_
  refine sx_nil ?_
  refine ex_then_n ?_
  refine sx_cond (decide ((txt x) = (⟨#[45]⟩ : ByteArray))) (by rfl) (fun c_1 => ?_) (fun c_1 => ?_)
  ·
    have c_1p := of_decide_eq_true c_1
    have hx2 : x.f2 = true := by rw [← txt_pass_iff x]; exact c_1
    have hw0 : wtM x = 0 := by rcases hwx with q | q; exact q.2; rw [q.1] at hx2; cases hx2
    refine wp_seq ?_
    refine sx_region ?_
    refine sx_rd 2 (.int .i64 0) (by rfl) (by kernel_rfl) ?_
    refine sx_nil ?_
    refine ex_then_n ?_
    refine wp_ret ?_
    refine ex_then_r ?_
    refine sx_end (.int .i64 0) (res1 2 (by rfl)) ?_
    exact ⟨by rw [hw0], hp⟩
  ·
    have c_1p := of_decide_eq_false c_1
    have hx2 : x.f2 = false := by rw [← txt_pass_iff x]; exact c_1
    have hgx : goodT x.f0 = true := by rcases hwx with q | q; rw [q.1] at hx2; cases hx2; exact q.2
    refine wp_skip ?_
    refine ex_then_n ?_
    refine wp_seq ?_
    refine sx_region ?_
    refine sx_rd 5 (.string (txt x)) (by rfl) (by kernel_rfl) ?_
    refine sx_call 6 (by rfl) (by kernel_rfl) ((impl_moved.calls (txt x) _ _ _ ((moved_eq hx2 hgx).1)).mono ?_)
    rintro _ W_2 ⟨rfl, hb⟩
    refine ⟨_, rfl, ?_⟩
    replace hp := hp.below hb
    clear hb
    refine sx_lit 7 (by rfl) k59 w0.heap.size 59 ([x.f0]) [.int .i64 x.f0.f0, .int .i64 x.f0.f1] (fun W => by kernel_rfl) (tile_reps _ _ _) (by simp) hp.size hp ?_
    intro g_3 F_4 W_5 hp hz; clear hz
    refine sx_call 8 (by rfl) (by kernel_rfl) ((impl_pips.calls (some ⟨g_3, 0, none⟩) ([x.f0].length) ([x.f0]) _ _ (row_C (hp.at_ 0 _ (by rfl))) (row_len (hp.at_ 0 _ (by rfl))).2 (pips_one hgx)).mono ?_)
    rintro _ W_6 ⟨rfl, hb⟩
    refine ⟨_, rfl, ?_⟩
    replace hp := hp.below hb
    clear hb
    refine sx_rd 2 (.int .i64 (wtM x)) (by rfl) (by kernel_rfl) ?_
    refine sx_nil ?_
    refine ex_then_n ?_
    refine wp_ret ?_
    refine sx_end (.int .i64 (wtM x)) (res1 2 (by rfl)) ?_
    exact ⟨rfl, hp.tail⟩
set_option maxRecDepth 100000 in
set_option maxHeartbeats 40000000 in
theorem cmpH_sx {w0 W : World} {cs : List Chunk} (x y : S_plLay) (hwx : (x.f2 = true ∧ wtM x = 0) ∨ (x.f2 = false ∧ goodT x.f0 = true)) (hwy : (y.f2 = true ∧ wtM y = 0) ∨ (y.f2 = false ∧ goodT y.f0 = true)) (hbx : 0 ≤ wtM x ∧ wtM x ≤ 18) (hby : 0 ≤ wtM y ∧ wtM y ≤ 18) (a b : ByteArray) (ha : a = txt x) (hb : b = txt y) (hp : Hp w0 cs W) : Calls Tryz.prog 45 #[.string a, .string b] W fun e W' => e = .returned (.int .i64 (wtM x - wtM y)) ∧ Hp w0 cs W' := by
 subst ha; subst hb
 refine sx_enter (N := 10) (l := [.string (txt x), .string (txt y)]) Tryz.func45 rfl rfl rfl ?_
 refine wp_seq ?_
 refine sx_region ?_
 refine sx_rd 4 (.int .i64 0) (by rfl) (by kernel_rfl) ?_
 refine sx_nil ?_
 refine ex_then_n ?_
 refine wp_seq ?_
 refine sx_region ?_
 refine sx_rd 5 (.string (txt x)) (by rfl) (by kernel_rfl) ?_
 refine sx_call 6 (by rfl) (by kernel_rfl) ((weight_sx x hwx hp).mono ?_)
 rintro _ W_1 ⟨rfl, hp⟩
 refine ⟨_, rfl, ?_⟩
 refine sx_rd 7 (.string (txt y)) (by rfl) (by kernel_rfl) ?_
 refine sx_call 8 (by rfl) (by kernel_rfl) ((weight_sx y hwy hp).mono ?_)
 rintro _ W_2 ⟨rfl, hp⟩
 refine ⟨_, rfl, ?_⟩
 refine sx_rd 9 (.int .i64 ((wtM x) - (wtM y))) (by rfl) (wr_ok (by omega) (by kernel_rfl)) ?_
 refine sx_rd 4 (.int .i64 ((wtM x) - (wtM y))) (by rfl) (by kernel_rfl) ?_
 refine sx_nil ?_
 refine ex_then_n ?_
 refine wp_ret ?_
 refine sx_end (.int .i64 ((wtM x) - (wtM y))) (res1 4 (by rfl)) ?_
 exact ⟨rfl, hp⟩
set_option maxRecDepth 100000 in
set_option maxHeartbeats 40000000 in
theorem maxF_sx {w0 W : World} {cs : List Chunk} {base c : Nat} {A : Option Addr} {F : Nat → Prop} (L : List S_plLay) (hne : 0 < L.length) (hL : L.length ≤ 1000) (hwL : ∀ x ∈ L, (x.f2 = true ∧ wtM x = 0) ∨ (x.f2 = false ∧ goodT x.f0 = true)) (hbL : ∀ x ∈ L, 0 ≤ wtM x ∧ wtM x ≤ 18) (hp : Hp w0 (row Kd.string 9 base (.slice A ((L.map txt).length) c) (L.map txt) F :: cs) W) : Calls Tryz.prog 44 #[.slice A ((L.map txt).length) c, .func (.func 45) #[] #[]] W fun e W' => e = .returned (.string (txt (bestM L))) ∧ Hp w0 (row Kd.string 9 base (.slice A ((L.map txt).length) c) (L.map txt) F :: cs) W' := by
  have hml : (L.map txt).length = L.length := List.length_map _
  refine sx_enter (N := 33) (l := [.slice A ((L.map txt).length) c, .func (.func 45) #[] #[]]) Tryz.func44 rfl rfl rfl ?_
  refine wp_seq ?_
  refine sx_region ?_
  refine sx_rd 4 (.string (⟨#[]⟩ : ByteArray)) (by rfl) (by kernel_rfl) ?_
  refine sx_nil ?_
  refine ex_then_n ?_
  refine wp_seq ?_
  refine wp_seq ?_
  refine sx_region ?_
  refine sx_rd 7 (.slice A ((L.map txt).length) c) (by rfl) (by kernel_rfl) ?_
  refine sx_rd 8 (.int .i64 ((L.map txt).length : Int)) (by rfl) (by kernel_rfl) ?_
  refine sx_rd 9 (.bool (decide (((L.map txt).length : Int) < 1))) (by rfl) (by kernel_rfl) ?_
  refine sx_nil ?_
  refine ex_then_n ?_
  refine sx_cond (decide (((L.map txt).length : Int) < 1)) (by rfl) (fun c_1 => ?_) (fun c_1 => ?_)
  ·
    have c_1p := of_decide_eq_true c_1
    exact absurd c_1p (by omega)
  ·
    have c_1p := of_decide_eq_false c_1
    refine wp_skip ?_
    refine ex_then_n ?_
    refine wp_seq ?_
    refine sx_region ?_
    refine sx_rd 11 (.slice A ((L.map txt).length) c) (by rfl) (by kernel_rfl) ?_
    refine sx_rd 12 (.pointer (some (adr A 0 1))) (by rfl) (ix_run (d := Kd.string) (row_C (hp.at_ 0 _ (by rfl))) (t := 36) (by rfl) (by rfl) (by rfl) Tryz.underlying36 (by kernel_rfl) (by omega) (by omega)) ?_
    refine sx_rd 13 (.string (rdOf ByteArray.empty (L.map txt) 0)) (by rfl) (ld1 (t := 9) (p := (.tmp 12)) (by rfl) (by rfl) (by kernel_rfl) (el_cell (d := Kd.string) (row_C (hp.at_ 0 _ (by rfl))) ByteArray.empty 0 (by omega) (by omega) (cells := [.string (rdOf ByteArray.empty (L.map txt) 0)]) (fun cs h => h) 0 _ (by rfl))) ?_
    refine sx_rd 5 (.string (rdOf ByteArray.empty (L.map txt) 0)) (by rfl) (by kernel_rfl) ?_
    refine sx_nil ?_
    refine ex_then_n ?_
    refine wp_seq ?_
    refine wp_seq ?_
    refine sx_region ?_
    refine sx_rd 6 (.int .i64 1) (by rfl) (by kernel_rfl) ?_
    refine sx_nil ?_
    refine ex_then_n ?_
    refine wp_block ?_
    refine wp_loop_ghost (fun n a W => ∃ (r_ : List (Nat × Value)) (i : Nat) , n = L.length - i ∧ a = fr 33 ([(0, .slice A ((L.map txt).length) c), (1, .func (.func 45) #[] #[]), (5, .string (txt (bestTo L i))), (6, .int .i64 (i : Int))] ++ r_) ∧ Hp w0 (row Kd.string 9 base (.slice A ((L.map txt).length) c) (L.map txt) F :: cs) W ∧ (i ≤ L.length)) _ ⟨_, 1, rfl, fr_front [(0, .slice A ((L.map txt).length) c), (1, .func (.func 45) #[] #[]), (5, .string (txt (bestTo L 1))), (6, .int .i64 ((1 : Nat) : Int))] ⟨rfl, rfl, (by exact congrArg Value.string (show (rdOf ByteArray.empty (L.map txt) 0) = (txt (bestTo L 1)) from (by rw [bestTo_one]; exact rdOf_map (i := 0) hne))), rfl, trivial⟩, (hp.take [0] 1 (by decide) (by simp)), (by omega)⟩ ?_
    rintro _ _ W_2 ⟨r_, i, rfl, rfl, hp, hi⟩
    have hm2 := bestTo_mem hne i (by omega)
    refine wp_seq ?_
    refine wp_seq ?_
    refine sx_region ?_
    refine sx_rd 14 (.int .i64 (i : Int)) (by rfl) (by kernel_rfl) ?_
    refine sx_rd 15 (.slice A ((L.map txt).length) c) (by rfl) (by kernel_rfl) ?_
    refine sx_rd 16 (.int .i64 ((L.map txt).length : Int)) (by rfl) (by kernel_rfl) ?_
    refine sx_rd 17 (.bool (decide ((i : Int) < ((L.map txt).length : Int)))) (by rfl) (by kernel_rfl) ?_
    refine sx_nil ?_
    refine ex_then_n ?_
    refine sx_cond (decide ((i : Int) < ((L.map txt).length : Int))) (by rfl) (fun c_3 => ?_) (fun c_3 => ?_)
    ·
      have c_3p := of_decide_eq_true c_3
      have hm1 : rd_plLay L (i : Int) ∈ L := by rw [rdL_lt (show i < L.length by omega)]; exact List.getElem_mem _
      refine wp_skip ?_
      refine ex_then_n ?_
      refine wp_seq ?_
      refine wp_block ?_
      refine wp_seq ?_
      refine sx_region ?_
      refine sx_rd 20 (.func (.func 45) #[] #[]) (by rfl) (by kernel_rfl) ?_
      refine sx_rd 21 (.slice A ((L.map txt).length) c) (by rfl) (by kernel_rfl) ?_
      refine sx_rd 22 (.int .i64 (i : Int)) (by rfl) (by kernel_rfl) ?_
      refine sx_rd 23 (.pointer (some (adr A (i : Int) 1))) (by rfl) (ix_run (d := Kd.string) (row_C (hp.at_ 0 _ (by rfl))) (t := 36) (by rfl) (by rfl) (by rfl) Tryz.underlying36 (by kernel_rfl) (by omega) (by omega)) ?_
      refine sx_rd 24 (.string (rdOf ByteArray.empty (L.map txt) (i : Int))) (by rfl) (ld1 (t := 9) (p := (.tmp 23)) (by rfl) (by rfl) (by kernel_rfl) (el_cell (d := Kd.string) (row_C (hp.at_ 0 _ (by rfl))) ByteArray.empty (i : Int) (by omega) (by omega) (cells := [.string (rdOf ByteArray.empty (L.map txt) (i : Int))]) (fun cs h => h) 0 _ (by rfl))) ?_
      refine sx_rd 25 (.string (txt (bestTo L i))) (by rfl) (by kernel_rfl) ?_
      refine sx_call 26 (by rfl) (by kernel_rfl) ((cmpH_sx (rd_plLay L (i : Int)) (bestTo L i) (hwL _ hm1) (hwL _ hm2) (hbL _ hm1) (hbL _ hm2) _ _ (rdOf_map (by omega)) rfl hp).mono ?_)
      rintro _ W_4 ⟨rfl, hp⟩
      refine ⟨_, rfl, ?_⟩
      refine sx_rd 27 (.bool (decide ((wtM (rd_plLay L (i : Int)) - wtM (bestTo L i)) > 0))) (by rfl) (by kernel_rfl) ?_
      refine sx_nil ?_
      refine ex_then_n ?_
      refine sx_cond (decide ((wtM (rd_plLay L (i : Int)) - wtM (bestTo L i)) > 0)) (by rfl) (fun c_5 => ?_) (fun c_5 => ?_)
      ·
        have c_5p := of_decide_eq_true c_5
        refine sx_region ?_
        refine sx_rd 28 (.slice A ((L.map txt).length) c) (by rfl) (by kernel_rfl) ?_
        refine sx_rd 29 (.int .i64 (i : Int)) (by rfl) (by kernel_rfl) ?_
        refine sx_rd 30 (.pointer (some (adr A (i : Int) 1))) (by rfl) (ix_run (d := Kd.string) (row_C (hp.at_ 0 _ (by rfl))) (t := 36) (by rfl) (by rfl) (by rfl) Tryz.underlying36 (by kernel_rfl) (by omega) (by omega)) ?_
        refine sx_rd 31 (.string (rdOf ByteArray.empty (L.map txt) (i : Int))) (by rfl) (ld1 (t := 9) (p := (.tmp 30)) (by rfl) (by rfl) (by kernel_rfl) (el_cell (d := Kd.string) (row_C (hp.at_ 0 _ (by rfl))) ByteArray.empty (i : Int) (by omega) (by omega) (cells := [.string (rdOf ByteArray.empty (L.map txt) (i : Int))]) (fun cs h => h) 0 _ (by rfl))) ?_
        refine sx_rd 5 (.string (rdOf ByteArray.empty (L.map txt) (i : Int))) (by rfl) (by kernel_rfl) ?_
        refine sx_nil ?_
        refine ex_blk_n ?_
        refine ex_then_n ?_
        refine sx_region ?_
        refine sx_rd 18 (.int .i64 (i : Int)) (by rfl) (by kernel_rfl) ?_
        refine sx_rd 19 (.int .i64 ((i : Int) + 1)) (by rfl) (wr_ok (by omega) (by kernel_rfl)) ?_
        refine sx_rd 6 (.int .i64 ((i : Int) + 1)) (by rfl) (by kernel_rfl) ?_
        refine sx_nil ?_
        refine ex_then_n ?_
        have hq_6 : (rdOf ByteArray.empty (L.map txt) (i : Int)) = (txt (bestTo L (i + 1))) := by simp only [bestTo]; rw [if_pos (by omega)]; exact rdOf_map (by omega)
        exact ⟨_, (by omega), _, (i + 1), rfl, fr_front [(0, .slice A ((L.map txt).length) c), (1, .func (.func 45) #[] #[]), (5, .string (txt (bestTo L (i + 1)))), (6, .int .i64 ((i + 1 : Nat) : Int))] ⟨rfl, rfl, congrArg Value.string hq_6, rfl, trivial⟩, (hp.take [0] 1 (by decide) (by simp)), (by omega)⟩
      ·
        have c_5p := of_decide_eq_false c_5
        refine wp_skip ?_
        refine ex_blk_n ?_
        refine ex_then_n ?_
        refine sx_region ?_
        refine sx_rd 18 (.int .i64 (i : Int)) (by rfl) (by kernel_rfl) ?_
        refine sx_rd 19 (.int .i64 ((i : Int) + 1)) (by rfl) (wr_ok (by omega) (by kernel_rfl)) ?_
        refine sx_rd 6 (.int .i64 ((i : Int) + 1)) (by rfl) (by kernel_rfl) ?_
        refine sx_nil ?_
        refine ex_then_n ?_
        have hq_7 : (txt (bestTo L i)) = (txt (bestTo L (i + 1))) := by simp only [bestTo]; rw [if_neg (by omega)]
        exact ⟨_, (by omega), _, (i + 1), rfl, fr_front [(0, .slice A ((L.map txt).length) c), (1, .func (.func 45) #[] #[]), (5, .string (txt (bestTo L (i + 1)))), (6, .int .i64 ((i + 1 : Nat) : Int))] ⟨rfl, rfl, congrArg Value.string hq_7, rfl, trivial⟩, (hp.take [0] 1 (by decide) (by simp)), (by omega)⟩
    ·
      have c_3p := of_decide_eq_false c_3
      refine wp_exit ?_
      refine ex_then_e (ex_then_e (ex_blk_here ?_))
      refine ex_then_n ?_
      refine wp_seq ?_
      refine sx_region ?_
      refine sx_rd 32 (.string (txt (bestTo L i))) (by rfl) (by kernel_rfl) ?_
      refine sx_rd 4 (.string (txt (bestTo L i))) (by rfl) (by kernel_rfl) ?_
      refine sx_nil ?_
      refine ex_then_n ?_
      refine wp_ret ?_
      refine sx_end (.string (txt (bestTo L i))) (res1 4 (by rfl)) ?_
      obtain rfl : i = L.length := by omega
      exact ⟨rfl, (hp.take [0] 1 (by decide) (by simp))⟩
def impl_HeavyLine_1.f (f s : List S_Tile) (r : List Int) (t p : Int) : Option ByteArray := if gmB f s r t p ∧ Gm.over ⟨f, s, r, t, p⟩ = false then some (txt (bestM (Gm.moves ⟨f, s, r, t, p⟩))) else none
set_option maxRecDepth 100000 in
set_option maxHeartbeats 40000000 in
theorem impl_HeavyLine_1.calls (A0_0 : Option Addr) (c0_0 : Nat) (l0_0 : List S_Tile) (A0_1 : Option Addr) (c0_1 : Nat) (l0_1 : List S_Tile) (A0_2 : Option Addr) (c0_2 : Nat) (l0_2 : List Int) (a0_3 : Int) (a0_4 : Int) (r : ByteArray) (w : World) (hr0_0 : Kd.C k59 w A0_0 l0_0.length l0_0) (hc0_0 : l0_0.length ≤ c0_0) (hr0_1 : Kd.C k59 w A0_1 l0_1.length l0_1) (hc0_1 : l0_1.length ≤ c0_1) (hr0_2 : Kd.C (Kd.int .i64) w A0_2 l0_2.length l0_2) (hc0_2 : l0_2.length ≤ c0_2) (h : impl_HeavyLine_1.f l0_0 l0_1 l0_2 a0_3 a0_4 = some r) :
  Calls Tryz.prog 43 #[.agg #[.slice A0_0 l0_0.length c0_0, .slice A0_1 l0_1.length c0_1, .slice A0_2 l0_2.length c0_2, .int .i64 a0_3, .int .i64 a0_4]] w fun e w' => e = .returned (.string r) ∧ Below w.heap.size w w' := by
 unfold impl_HeavyLine_1.f at h
 by_cases hsz : gmB l0_0 l0_1 l0_2 a0_3 a0_4 ∧ Gm.over (⟨l0_0, l0_1, l0_2, a0_3, a0_4⟩ : Gm) = false
 case neg => rw [if_neg hsz] at h; cases h
 rw [if_pos hsz] at h
 obtain ⟨hgm, hov⟩ := hsz
 obtain ⟨cs, hcs⟩ : ∃ cs, cs = [old w w.heap.size] := ⟨_, rfl⟩
 have hp : Hp w cs w := by rw [hcs]; exact Hp.old_start w
 have hc2 : ∀ W, Hp w cs W → Below w.heap.size w W := fun W h => by rw [hcs] at h; exact h.since 0 _ rfl
 have hC0_0 : ∀ W, Hp w cs W → Kd.C k59 W A0_0 l0_0.length l0_0 := fun W h => Kd.C_below hr0_0 (hc2 W h)
 have hC0_1 : ∀ W, Hp w cs W → Kd.C k59 W A0_1 l0_1.length l0_1 := fun W h => Kd.C_below hr0_1 (hc2 W h)
 have hC0_2 : ∀ W, Hp w cs W → Kd.C (Kd.int .i64) W A0_2 l0_2.length l0_2 := fun W h => Kd.C_below hr0_2 (hc2 W h)
 clear hcs
 refine sx_enter (N := 6) (l := [.agg #[.slice A0_0 l0_0.length c0_0, .slice A0_1 l0_1.length c0_1, .slice A0_2 l0_2.length c0_2, .int .i64 a0_3, .int .i64 a0_4]]) Tryz.func43 rfl rfl rfl ?_
 refine wp_seq ?_
 refine sx_region ?_
 refine sx_box 1 hp #[.slice A0_0 l0_0.length c0_0, .slice A0_1 l0_1.length c0_1, .slice A0_2 l0_2.length c0_2, .int .i64 a0_3, .int .i64 a0_4] 29 (by rfl) (fun W => by kernel_rfl) ?_
 intro g_1 W_2 hp
 refine sx_rd 2 (.string (⟨#[]⟩ : ByteArray)) (by rfl) (by kernel_rfl) ?_
 refine sx_nil ?_
 refine ex_then_n ?_
 refine wp_seq ?_
 refine sx_region ?_
 refine sx_rd 3 (.agg #[.slice A0_0 l0_0.length c0_0, .slice A0_1 l0_1.length c0_1, .slice A0_2 l0_2.length c0_2, .int .i64 a0_3, .int .i64 a0_4]) (by rfl) (ldn (t := 29) (p := (.tmp 1)) (by rfl) (by rfl) (by kernel_rfl) (by kernel_rfl) (by kernel_rfl) (hp.at_ 0 _ (by rfl))) ?_
 refine sx_call 4 (by rfl) (by kernel_rfl) ((impl_Game_moves.calls A0_0 c0_0 l0_0 A0_1 c0_1 l0_1 A0_2 c0_2 l0_2 a0_3 a0_4 _ _ (hC0_0 _ hp.tail) hc0_0 (hC0_1 _ hp.tail) hc0_1 (hC0_2 _ hp.tail) hc0_2 (moves_eq (⟨l0_0, l0_1, l0_2, a0_3, a0_4⟩ : Gm) hgm)).mono ?_)
 rintro _ W_8 ⟨v_4, rfl, hR_3, hb⟩
 refine ⟨_, rfl, ?_⟩
 obtain ⟨A_5, c_6, rfl, hcc_c_6, _⟩ := Kd.R_reads hR_3
 obtain ⟨F_7, hp⟩ : ∃ F, Hp w (row Kd.string 9 w.heap.size (.slice A_5 ((⟨l0_0, l0_1, l0_2, a0_3, a0_4⟩ : Gm).moves.map txt).length c_6) ((⟨l0_0, l0_1, l0_2, a0_3, a0_4⟩ : Gm).moves.map txt) F :: blk g_1 #[.slice A0_0 l0_0.length c0_0, .slice A0_1 l0_1.length c0_1, .slice A0_2 l0_2.length c0_2, .int .i64 a0_3, .int .i64 a0_4] 29 :: cs) _ := ⟨_, Hp.made hp hb hR_3⟩
 refine sx_call 5 (by rfl) (by kernel_rfl) ((maxF_sx (⟨l0_0, l0_1, l0_2, a0_3, a0_4⟩ : Gm).moves (moves_ne hov) (by have q := movesL_len l0_0 l0_1 l0_2 a0_3 a0_4; exact Nat.le_trans q (by decide)) (fun x hx => wok hx) (fun x hx => wt_bd hx) (hp.take [0, 1] 2 (by decide) (by simp))).mono ?_)
 rintro _ W_9 ⟨rfl, hp⟩
 refine ⟨_, rfl, ?_⟩
 refine sx_rd 2 (.string (txt (bestM (⟨l0_0, l0_1, l0_2, a0_3, a0_4⟩ : Gm).moves))) (by rfl) (by kernel_rfl) ?_
 refine sx_nil ?_
 refine ex_then_n ?_
 refine wp_ret ?_
 refine sx_end (.string (txt (bestM (⟨l0_0, l0_1, l0_2, a0_3, a0_4⟩ : Gm).moves))) (res1 2 (by rfl)) ?_
 obtain rfl := Option.some.inj h
 exact ⟨rfl, hc2 _ (hp.tail.tail)⟩
end Go.Proofs.YtkjaahmlnbgnjaaGreat.Hd
