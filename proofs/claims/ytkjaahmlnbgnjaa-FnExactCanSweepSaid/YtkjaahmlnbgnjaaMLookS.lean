/- spec.plSweep.look, by hand. -/
import Derived.Test.YtkjaahmlnbgnjaaPSweepT
import Derived.Test.YtkjaahmlnbgnjaaMTileR
import Derived.Test.YtkjaahmlnbgnjaaMSxM
import Derived.Test.YtkjaahmlnbgnjaaPSweepB
namespace Go.Proofs.Ytkjaahmlnbgnjaa.Hd
open Go.RowKit Go.Proofs.Ytkjaahmlnbgnjaa.Pure Go.Proofs.YtkjaahmlnbgnjaaW.PrintWords Go.Proofs.YtkjaahmlnbgnjaaW.PrintLast Go.Proofs.YtkjaahmlnbgnjaaW.PrintMore
set_option linter.unusedVariables false
set_option linter.unusedSimpArgs false
section
variable {P : Program} {N : Nat} {s : List (Nat × Value)} {o : Oper} {W : World}
theorem shr_run {t t2 : TypeId} {X Y : Operand} {a i : Nat} (ho : o.op = .binOp .shr t X Y t2) (hX : evl N s X = .int .i64 (a : Int)) (hY : evl N s Y = .int .i64 (i : Int)) (h : i ≤ 64) : (execOp (evl N s) o).run P W = .ok (.value (.int .i64 ((bitq a i : Nat) : Int))) W := by
  have e : Op.shift .shr .i64 (a : Int) .i64 (i : Int) = pure (.int .i64 ((bitq a i : Nat) : Int)) := by
    have hm : min i IntKind.i64.bits = i := Nat.min_eq_left h
    unfold Op.shift bitq
    rw [if_neg (by omega), Int.toNat_natCast]
    simp only [hm]
    rw [Int.fdiv_eq_ediv_of_nonneg _ (Int.pow_nonneg (by decide))]
    simp
  unfold execOp
  simp only [ho, hX, hY]
  simp [binOp, e, eqGuard, Sem.run_bind, Sem.run_pure]
  simp [bitq]
theorem shl_run {t t2 : TypeId} {X Y : Operand} {a i : Nat} (ho : o.op = .binOp .shl t X Y t2) (hX : evl N s X = .int .i64 (a : Int)) (hY : evl N s Y = .int .i64 (i : Int)) (h : i ≤ 64) (hb : shlN a i ≤ 9223372036854775807) : (execOp (evl N s) o).run P W = .ok (.value (.int .i64 ((shlN a i : Nat) : Int))) W := by
  refine wr_ok (run := fun W => (execOp (evl N s) o).run P W) ⟨by omega, by omega⟩ ?_
  have e : Op.shift .shl .i64 (a : Int) .i64 (i : Int) = pure (.int .i64 (IntKind.i64.wrap ((shlN a i : Nat) : Int))) := by
    have hm : min i IntKind.i64.bits = i := Nat.min_eq_left h
    unfold Op.shift shlN
    rw [if_neg (by omega), Int.toNat_natCast]
    simp only [hm]
    simp
  unfold execOp
  simp only [ho, hX, hY]
  simp [binOp, e, eqGuard, Sem.run_bind, Sem.run_pure]
  simp [shlN]
theorem andn_all : ∀ a < 256, ∀ i < 8, IntKind.i64.wrap ((BitVec.ofInt 64 ((a : Nat) : Int) &&& ~~~ BitVec.ofInt 64 ((shlN 1 i : Nat) : Int)).toNat : Nat) = ((clr a i : Nat) : Int) := of_decide_eq_true (by kernel_rfl)
theorem andn_run {t t2 : TypeId} {X Y : Operand} {a i : Nat} (ho : o.op = .binOp .andNot t X Y t2) (hX : evl N s X = .int .i64 (a : Int)) (hY : evl N s Y = .int .i64 ((shlN 1 i : Nat) : Int)) (ha : a < 256) (hi : i < 8) : (execOp (evl N s) o).run P W = .ok (.value (.int .i64 ((clr a i : Nat) : Int))) W := by
  have e : Op.intBits .andNot .i64 (a : Int) ((shlN 1 i : Nat) : Int) = pure (.int .i64 ((clr a i : Nat) : Int)) := by
    unfold Op.intBits
    exact congrArg (fun z => (pure (Value.int .i64 z) : Sem Value)) (andn_all a ha i hi)
  unfold execOp
  simp only [ho, hX, hY]
  simp [binOp, e, eqGuard, Sem.run_bind, Sem.run_pure]
end
end Go.Proofs.Ytkjaahmlnbgnjaa.Hd
namespace Go.Proofs.Ytkjaahmlnbgnjaa.Hd
open Go.RowKit Go.Proofs.Ytkjaahmlnbgnjaa.Pure Go.Proofs.YtkjaahmlnbgnjaaW.PrintWords Go.Proofs.YtkjaahmlnbgnjaaW.PrintLast Go.Proofs.YtkjaahmlnbgnjaaW.PrintMore
set_option linter.unusedVariables false
set_option linter.unusedSimpArgs false
theorem shl8 : ∀ i, i < 8 → shlN 1 i ≤ 128 := by decide
def LookS (d : Nat) : Prop := ∀ (w0 W : World) (cs : List Chunk) (h : List S_Tile) (AH : Option Addr) (cH g gL cL n : Nat) (sn : List Bool) (FL : Nat → Prop) (s : Nat) (l r : Int) (P : Nat), h.Nodup → h.length ≤ 8 → (∀ t ∈ h, goodT t = true) → h.length ≤ cH → P = 2 ^ h.length → s < P → s < d → n = 100 * P → sn.length = n → 0 ≤ l → l ≤ 9 → 0 ≤ r → r ≤ 9 → OldOk h sn s → (∀ W, Hp w0 cs W → Kd.C k79 W AH h.length h) → Hp w0 (blk g #[.slice AH h.length cH, .slice (some ⟨gL, 0, none⟩) n cL] 77 :: row Kd.bool 4 w0.heap.size (.slice (some ⟨gL, 0, none⟩) n cL) sn FL :: cs) W → Calls Try.prog 51 #[.pointer (some ⟨g, 0, none⟩), .int .i64 (s : Int), .int .i64 l, .int .i64 r] W fun e W' => ∃ (sn' : List Bool) (FL' : Nat → Prop), e = .returned (.bool (sw (subH h s) l r)) ∧ sn'.length = n ∧ (sw (subH h s) l r = false → ExtT h sn sn') ∧ Hp w0 (blk g #[.slice AH h.length cH, .slice (some ⟨gL, 0, none⟩) n cL] 77 :: row Kd.bool 4 w0.heap.size (.slice (some ⟨gL, 0, none⟩) n cL) sn' FL' :: cs) W'
set_option maxRecDepth 100000 in
set_option maxHeartbeats 40000000 in
theorem lookS_of (d : Nat) (hIH : LookS d) : LookS (d + 1) := by
 intro w0 W cs h AH cH g gL cL n sn FL s l r P hnd h8 hg hcH hP hsP hsd hN hsn hl0 hl9 hr0 hr9 hO hCH hp
 have hP8 : P ≤ 256 := by have := (pow_all h.length h8).1; omega
 refine sx_enter (N := 98) (l := [.pointer (some ⟨g, 0, none⟩), .int .i64 (s : Int), .int .i64 l, .int .i64 r]) Try.func51 rfl rfl rfl ?_
 refine wp_seq ?_
 refine sx_region ?_
 refine sx_rd 8 (.bool false) (by rfl) (by kernel_rfl) ?_
 refine sx_nil ?_
 refine ex_then_n ?_
 refine wp_seq ?_
 refine wp_seq ?_
 refine sx_region ?_
 refine sx_rd 16 (.int .i64 (s : Int)) (by rfl) (by kernel_rfl) ?_
 refine sx_rd 17 (.bool ((s : Int) == 0)) (by rfl) (by kernel_rfl) ?_
 refine sx_nil ?_
 refine ex_then_n ?_
 refine sx_cond ((s : Int) == 0) (by rfl) (fun c_1 => ?_) (fun c_1 => ?_)
 ·
  have c_1p := eq_of_beq_ c_1
  refine wp_seq ?_
  refine sx_region ?_
  refine sx_rd 8 (.bool true) (by rfl) (by kernel_rfl) ?_
  refine sx_nil ?_
  refine ex_then_n ?_
  refine wp_ret ?_
  refine ex_then_r ?_
  refine sx_end (.bool true) (res1 8 (by rfl)) ?_
  obtain rfl : s = 0 := by omega
  have hf := sw_zero h l r
  exact ⟨_, _, congrArg (fun b => Ending.returned (.bool b)) hf.symm, hsn, (fun q => by rw [hf] at q; cases q), (hp.take [0, 1] 2 (by decide) (by simp))⟩
 ·
  have c_1p := ne_of_beq_ c_1
  refine wp_skip ?_
  refine ex_then_n ?_
  refine wp_seq ?_
  refine sx_region ?_
  refine sx_rd 18 (.int .i64 (s : Int)) (by rfl) (by kernel_rfl) ?_
  refine sx_rd 19 (.int .i64 ((s : Int) * 10)) (by rfl) (wr_ok (by omega) (by kernel_rfl)) ?_
  refine sx_rd 20 (.int .i64 l) (by rfl) (by kernel_rfl) ?_
  refine sx_rd 21 (.int .i64 (((s : Int) * 10) + l)) (by rfl) (wr_ok (by omega) (by kernel_rfl)) ?_
  refine sx_rd 22 (.int .i64 ((((s : Int) * 10) + l) * 10)) (by rfl) (wr_ok (by omega) (by kernel_rfl)) ?_
  refine sx_rd 23 (.int .i64 r) (by rfl) (by kernel_rfl) ?_
  refine sx_rd 24 (.int .i64 (((((s : Int) * 10) + l) * 10) + r)) (by rfl) (wr_ok (by omega) (by kernel_rfl)) ?_
  refine sx_rd 9 (.int .i64 (((((s : Int) * 10) + l) * 10) + r)) (by rfl) (by kernel_rfl) ?_
  refine sx_nil ?_
  refine ex_then_n ?_
  refine wp_seq ?_
  refine wp_seq ?_
  refine sx_region ?_
  refine sx_rd 25 (.pointer (some ⟨g, 0, none⟩)) (by rfl) (by kernel_rfl) ?_
  refine sx_rd 26 (.pointer (some ⟨g, 0, none⟩)) (by rfl) (by kernel_rfl) ?_
  refine sx_rd 27 (.pointer (some ⟨g, 1, none⟩)) (by rfl) (by kernel_rfl) ?_
  refine sx_rd 28 (.slice (some ⟨gL, 0, none⟩) n cL) (by rfl) (ld1 (t := 75) (p := (.tmp 27)) (by rfl) (by rfl) (by kernel_rfl) (hp.cell 0 (by rfl) 1 _ (by rfl))) ?_
  refine sx_rd 29 (.int .i64 (((((s : Int) * 10) + l) * 10) + r)) (by rfl) (by kernel_rfl) ?_
  refine sx_rd 30 (.pointer (some (adr (some ⟨gL, 0, none⟩) (((((s : Int) * 10) + l) * 10) + r) 1))) (by rfl) (ix_some (t := 75) (sz := 1) (by rfl) (by rfl) (by rfl) Try.underlying75 (by kernel_rfl) (by omega) (by omega)) ?_
  refine sx_rd 31 (.bool (rdOf false sn (((((s : Int) * 10) + l) * 10) + r))) (by rfl) (ld1 (t := 4) (p := (.tmp 30)) (by rfl) (by rfl) (by kernel_rfl) (el_cell (d := Kd.bool) (row_C (hp.at_ 1 _ (by rfl))) false (((((s : Int) * 10) + l) * 10) + r) (by omega) (by omega) (cells := [.bool (rdOf false sn (((((s : Int) * 10) + l) * 10) + r))]) (fun cs h => h) 0 _ (by rfl))) ?_
  refine sx_nil ?_
  refine ex_then_n ?_
  refine sx_cond (rdOf false sn (((((s : Int) * 10) + l) * 10) + r)) (by rfl) (fun c_2 => ?_) (fun c_2 => ?_)
  ·
   refine wp_seq ?_
   refine sx_region ?_
   refine sx_rd 8 (.bool false) (by rfl) (by kernel_rfl) ?_
   refine sx_nil ?_
   refine ex_then_n ?_
   refine wp_ret ?_
   refine ex_then_r ?_
   refine sx_end (.bool false) (res1 8 (by rfl)) ?_
   have hf := hO.seen ⟨by rw [← hP]; exact hsP, hl0, hl9, hr0, hr9⟩ c_2
   exact ⟨_, _, congrArg (fun b => Ending.returned (.bool b)) hf.symm, hsn, fun _ => ExtT.refl _ _, (hp.take [0, 1] 2 (by decide) (by simp))⟩
  ·
   refine wp_skip ?_
   refine ex_then_n ?_
   refine wp_seq ?_
   refine sx_region ?_
   refine sx_rd 32 (.pointer (some ⟨g, 0, none⟩)) (by rfl) (by kernel_rfl) ?_
   refine sx_rd 33 (.pointer (some ⟨g, 0, none⟩)) (by rfl) (by kernel_rfl) ?_
   refine sx_rd 34 (.pointer (some ⟨g, 1, none⟩)) (by rfl) (by kernel_rfl) ?_
   refine sx_rd 35 (.slice (some ⟨gL, 0, none⟩) n cL) (by rfl) (ld1 (t := 75) (p := (.tmp 34)) (by rfl) (by rfl) (by kernel_rfl) (hp.cell 0 (by rfl) 1 _ (by rfl))) ?_
   refine sx_rd 36 (.int .i64 (((((s : Int) * 10) + l) * 10) + r)) (by rfl) (by kernel_rfl) ?_
   refine sx_rd 37 (.pointer (some (adr (some ⟨gL, 0, none⟩) (((((s : Int) * 10) + l) * 10) + r) 1))) (by rfl) (ix_some (t := 75) (sz := 1) (by rfl) (by rfl) (by rfl) Try.underlying75 (by kernel_rfl) (by omega) (by omega)) ?_
   refine sx_rowstore (t := 4) (p := (.tmp 37)) (x := (.const (Go.Value.bool true))) (by rfl) (by rfl) 1 Kd.bool (by rfl) (((((s : Int) * 10) + l) * 10) + r) true [.bool true] (by rfl) (by rfl) (by kernel_rfl) (by simp [Value.oneCell']) (by rfl) (by omega) (by omega) false (fun _ => rfl) hp ?_
   intro F_3 W_4 hp; simp only [List.set_cons_succ, List.set_cons_zero] at hp
   refine sx_nil ?_
   refine ex_then_n ?_
   refine wp_seq ?_
   refine wp_seq ?_
   refine sx_region ?_
   refine sx_rd 38 (.pointer (some ⟨g, 0, none⟩)) (by rfl) (by kernel_rfl) ?_
   refine sx_rd 39 (.pointer (some ⟨g, 0, none⟩)) (by rfl) (by kernel_rfl) ?_
   refine sx_rd 40 (.pointer (some ⟨g, 0, none⟩)) (by rfl) (by kernel_rfl) ?_
   refine sx_rd 41 (.slice AH h.length cH) (by rfl) (ld1 (t := 39) (p := (.tmp 40)) (by rfl) (by rfl) (by kernel_rfl) (hp.cell 0 (by rfl) 0 _ (by rfl))) ?_
   refine sx_rd 42 (.int .i64 (h.length : Int)) (by rfl) (by kernel_rfl) ?_
   refine sx_rd 43 (.int .i64 0) (by rfl) (by kernel_rfl) ?_
   refine sx_nil ?_
   refine ex_then_n ?_
   refine wp_block ?_
   refine wp_loop_ghost (fun n_ a_ W => ∃ (r_ : List (Nat × Value)) (i : Nat) (sn2 : List Bool) (Fi : Nat → Prop), n_ = h.length - i ∧ a_ = fr 98 ([(0, .pointer (some ⟨g, 0, none⟩)), (1, .int .i64 (s : Int)), (2, .int .i64 l), (3, .int .i64 r), (41, .slice AH h.length cH), (42, .int .i64 (h.length : Int)), (43, .int .i64 (i : Int))] ++ r_) ∧ Hp w0 (blk g #[.slice AH h.length cH, .slice (some ⟨gL, 0, none⟩) n cL] 77 :: row Kd.bool 4 w0.heap.size (.slice (some ⟨gL, 0, none⟩) n cL) sn2 Fi :: cs) W ∧ (i ≤ h.length) ∧ (sn2.length = n) ∧ (ExtT h (sn.set (((((s : Int) * 10) + l) * 10) + r).toNat true) sn2) ∧ (∀ j, j < i → bitq s j % 2 = 1 → ∀ k, k < 2 → endS h (clr s j) (rd_Tile h (j : Int)) (endN (rd_Tile h (j : Int)) k) l r = false)) _ ⟨_, 0, (sn.set ((((((s : Int) * 10) + l) * 10) + r)).toNat true), _, rfl, fr_front [(0, .pointer (some ⟨g, 0, none⟩)), (1, .int .i64 (s : Int)), (2, .int .i64 l), (3, .int .i64 r), (41, .slice AH h.length cH), (42, .int .i64 (h.length : Int)), (43, .int .i64 ((0 : Nat) : Int))] ⟨rfl, rfl, rfl, rfl, rfl, rfl, rfl, trivial⟩, (hp.take [0, 1] 2 (by decide) (by simp)), (Nat.zero_le _), (by simp; exact hsn), (ExtT.refl _ _), (fun j hj => absurd hj (Nat.not_lt_zero _))⟩ ?_
   rintro _ _ W_5 ⟨r_, i, sn2, Fi, rfl, rfl, hp, hi, hl2, hE2, hno2⟩
   refine wp_seq ?_
   refine sx_region ?_
   refine sx_rd 44 (.bool (decide ((i : Int) < (h.length : Int)))) (by rfl) (by kernel_rfl) ?_
   refine sx_nil ?_
   refine ex_then_n ?_
   refine wp_seq ?_
   refine sx_cond (decide ((i : Int) < (h.length : Int))) (by rfl) (fun c_6 => ?_) (fun c_6 => ?_)
   ·
    have c_6p := of_decide_eq_true c_6
    have hgt : goodT (rd_Tile h (i : Int)) = true := by rw [rdTile_lt (show i < h.length by omega)]; exact hg _ (List.getElem_mem _)
    refine wp_skip ?_
    refine ex_then_n ?_
    refine wp_seq ?_
    refine wp_block ?_
    refine wp_seq ?_
    refine sx_region ?_
    refine sx_rd 45 (.int .i64 (i : Int)) (by rfl) (by kernel_rfl) ?_
    refine sx_rd 46 (.pointer (some (adr AH (i : Int) 2))) (by rfl) (ix_run (d := k79) (hCH _ hp.tail.tail) (t := 39) (by rfl) (by rfl) (by rfl) Try.underlying39 (by kernel_rfl) (by omega) (by omega)) ?_
    refine sx_rd 47 (.agg #[.int .i64 ((rd_Tile h (i : Int)).f0), .int .i64 ((rd_Tile h (i : Int)).f1)]) (by rfl) (el_run (d := k79) (hCH _ hp.tail.tail) z79 (i : Int) (by omega) (by omega) (cells := [.int .i64 ((rd_Tile h (i : Int)).f0), .int .i64 ((rd_Tile h (i : Int)).f1)]) (fun cs h => k79_open h) 0 [.int .i64 ((rd_Tile h (i : Int)).f0), .int .i64 ((rd_Tile h (i : Int)).f1)] (by rfl) (t := 79) (p := (.tmp 46)) (by rfl) (by rfl) (by kernel_rfl) (by kernel_rfl)) ?_
    refine sx_box 11 hp #[.int .i64 0, .int .i64 0] 79 (by rfl) (fun W => by kernel_rfl) ?_
    intro g_7 W_8 hp
    refine sx_rd 10 (.int .i64 (i : Int)) (by rfl) (by kernel_rfl) ?_
    refine sx_store (t := 79) (p := (.tmp 11)) (x := (.tmp 47)) (by rfl) (by rfl) 0 (by rfl) 0 [.int .i64 ((rd_Tile h (i : Int)).f0), .int .i64 ((rd_Tile h (i : Int)).f1)] (by rfl) (by rfl) (by kernel_rfl) (by simp [Value.oneCell']) (by show 2 ≤ 2; omega) #[.int .i64 ((rd_Tile h (i : Int)).f0), .int .i64 ((rd_Tile h (i : Int)).f1)] (by rfl) hp ?_
    intro W_9 hp; simp only [List.set_cons_succ, List.set_cons_zero] at hp
    refine sx_nil ?_
    refine ex_then_n ?_
    refine wp_seq ?_
    refine wp_seq ?_
    refine sx_region ?_
    refine sx_rd 48 (.int .i64 (s : Int)) (by rfl) (by kernel_rfl) ?_
    refine sx_rd 49 (.int .i64 (i : Int)) (by rfl) (by kernel_rfl) ?_
    refine sx_rd 50 (.int .i64 ((bitq s i : Nat) : Int)) (by rfl) (shr_run (by rfl) (by rfl) (by rfl) (by omega)) ?_
    refine sx_rd 51 (.int .i64 (((bitq s i : Nat) : Int) % 2)) (by rfl) (rem_ok (by omega) (by kernel_rfl)) ?_
    refine sx_rd 52 (.bool ((((bitq s i : Nat) : Int) % 2) == 0)) (by rfl) (by kernel_rfl) ?_
    refine sx_nil ?_
    refine ex_then_n ?_
    refine sx_cond ((((bitq s i : Nat) : Int) % 2) == 0) (by rfl) (fun c_10 => ?_) (fun c_10 => ?_)
    ·
     have c_10p := eq_of_beq_ c_10
     refine wp_exit ?_
     refine ex_then_e (ex_blk_here ?_)
     refine ex_then_n ?_
     refine sx_region ?_
     refine sx_rd 97 (.int .i64 ((i : Int) + 1)) (by rfl) (wr_ok (by omega) (by kernel_rfl)) ?_
     refine sx_rd 43 (.int .i64 ((i : Int) + 1)) (by rfl) (by kernel_rfl) ?_
     refine sx_nil ?_
     refine ex_then_n ?_
     exact ⟨_, (by omega), _, (i + 1), sn2, _, rfl, fr_front [(0, .pointer (some ⟨g, 0, none⟩)), (1, .int .i64 (s : Int)), (2, .int .i64 l), (3, .int .i64 r), (41, .slice AH h.length cH), (42, .int .i64 (h.length : Int)), (43, .int .i64 ((i + 1 : Nat) : Int))] ⟨rfl, rfl, rfl, rfl, rfl, rfl, rfl, trivial⟩, (hp.take [1, 2] 3 (by decide) (by simp)), (by omega), hl2, hE2, (fun j hj hb2 => by rcases Nat.lt_succ_iff_lt_or_eq.1 hj with q | rfl; exact hno2 j q hb2; exact absurd hb2 (bit_no c_10))⟩
    ·
     have c_10p := ne_of_beq_ c_10
     have hbit := bit_of c_10
     have hcl := clr_bits s (by omega) i (by omega)
     have hclt := hcl.1 hbit
     have hO1 := OldOk.mark (c := clr s i) hO ⟨hl0, hl9, hr0, hr9⟩ hclt
     have hk2 : ([(rd_Tile h (i : Int)).f0, (rd_Tile h (i : Int)).f1].length : Int) = 2 := rfl
     refine wp_skip ?_
     refine ex_then_n ?_
     refine wp_seq ?_
     refine sx_region ?_
     refine sx_rd 53 (.int .i64 (s : Int)) (by rfl) (by kernel_rfl) ?_
     refine sx_rd 54 (.int .i64 (i : Int)) (by rfl) (by kernel_rfl) ?_
     refine sx_rd 55 (.int .i64 ((shlN 1 i : Nat) : Int)) (by rfl) (shl_run (a := 1) (i := i) (by rfl) (by rfl) (by rfl) (by omega) (by have := shl8 i (by omega); omega)) ?_
     refine sx_rd 56 (.int .i64 ((clr s i : Nat) : Int)) (by rfl) (andn_run (by rfl) (by rfl) (by rfl) (by omega) (by omega)) ?_
     refine sx_rd 12 (.int .i64 ((clr s i : Nat) : Int)) (by rfl) (by kernel_rfl) ?_
     refine sx_nil ?_
     refine ex_then_n ?_
     refine wp_seq ?_
     refine sx_region ?_
     refine sx_rd 57 (.pointer (some ⟨g_7, 0, none⟩)) (by rfl) (by kernel_rfl) ?_
     refine sx_rd 58 (.int .i64 ((rd_Tile h (i : Int)).f0)) (by rfl) (ld1 (t := 3) (p := (.tmp 57)) (by rfl) (by rfl) (by kernel_rfl) (hp.cell 0 (by rfl) 0 _ (by rfl))) ?_
     refine sx_rd 59 (.pointer (some ⟨g_7, 1, none⟩)) (by rfl) (by kernel_rfl) ?_
     refine sx_rd 60 (.int .i64 ((rd_Tile h (i : Int)).f1)) (by rfl) (ld1 (t := 3) (p := (.tmp 59)) (by rfl) (by rfl) (by kernel_rfl) (hp.cell 0 (by rfl) 1 _ (by rfl))) ?_
     refine sx_lit 61 (by rfl) (Kd.int .i64) w0.heap.size 3 ([(rd_Tile h (i : Int)).f0, (rd_Tile h (i : Int)).f1]) [.int .i64 ((rd_Tile h (i : Int)).f0), .int .i64 ((rd_Tile h (i : Int)).f1)] (fun W => by kernel_rfl) (reps_ints [(rd_Tile h (i : Int)).f0, (rd_Tile h (i : Int)).f1]) (by simp) hp.size hp ?_
     intro g_11 F_12 W_13 hp hz; clear hz
     refine sx_rd 62 (.int .i64 ([(rd_Tile h (i : Int)).f0, (rd_Tile h (i : Int)).f1].length : Int)) (by rfl) (by kernel_rfl) ?_
     refine sx_rd 63 (.int .i64 0) (by rfl) (by kernel_rfl) ?_
     refine sx_nil ?_
     refine ex_then_n ?_
     refine wp_block ?_
     refine wp_loop_ghost (fun n_ a_ W => ∃ (r_ : List (Nat × Value)) (k : Nat) (sn3 : List Bool) (Fk : Nat → Prop), n_ = 2 - k ∧ a_ = fr 98 ([(0, .pointer (some ⟨g, 0, none⟩)), (1, .int .i64 (s : Int)), (2, .int .i64 l), (3, .int .i64 r), (11, .pointer (some ⟨g_7, 0, none⟩)), (12, .int .i64 ((clr s i : Nat) : Int)), (41, .slice AH h.length cH), (42, .int .i64 (h.length : Int)), (43, .int .i64 (i : Int)), (61, .slice (some ⟨g_11, 0, none⟩) ([(rd_Tile h (i : Int)).f0, (rd_Tile h (i : Int)).f1].length) ([(rd_Tile h (i : Int)).f0, (rd_Tile h (i : Int)).f1].length)), (62, .int .i64 ([(rd_Tile h (i : Int)).f0, (rd_Tile h (i : Int)).f1].length : Int)), (63, .int .i64 (k : Int))] ++ r_) ∧ Hp w0 (blk g #[.slice AH h.length cH, .slice (some ⟨gL, 0, none⟩) n cL] 77 :: row Kd.bool 4 w0.heap.size (.slice (some ⟨gL, 0, none⟩) n cL) sn3 Fk :: row (Kd.int .i64) 3 w0.heap.size (.slice (some ⟨g_11, 0, none⟩) ([(rd_Tile h (i : Int)).f0, (rd_Tile h (i : Int)).f1].length) ([(rd_Tile h (i : Int)).f0, (rd_Tile h (i : Int)).f1].length)) ([(rd_Tile h (i : Int)).f0, (rd_Tile h (i : Int)).f1]) F_12 :: blk g_7 #[.int .i64 ((rd_Tile h (i : Int)).f0), .int .i64 ((rd_Tile h (i : Int)).f1)] 79 :: cs) W ∧ (k ≤ 2) ∧ (sn3.length = n) ∧ (ExtT h (sn.set (((((s : Int) * 10) + l) * 10) + r).toNat true) sn3) ∧ (∀ j, j < k → endS h (clr s i) (rd_Tile h (i : Int)) (endN (rd_Tile h (i : Int)) j) l r = false)) _ ⟨_, 0, sn2, _, rfl, fr_front [(0, .pointer (some ⟨g, 0, none⟩)), (1, .int .i64 (s : Int)), (2, .int .i64 l), (3, .int .i64 r), (11, .pointer (some ⟨g_7, 0, none⟩)), (12, .int .i64 ((clr s i : Nat) : Int)), (41, .slice AH h.length cH), (42, .int .i64 (h.length : Int)), (43, .int .i64 (i : Int)), (61, .slice (some ⟨g_11, 0, none⟩) ([(rd_Tile h (i : Int)).f0, (rd_Tile h (i : Int)).f1].length) ([(rd_Tile h (i : Int)).f0, (rd_Tile h (i : Int)).f1].length)), (62, .int .i64 ([(rd_Tile h (i : Int)).f0, (rd_Tile h (i : Int)).f1].length : Int)), (63, .int .i64 ((0 : Nat) : Int))] ⟨rfl, rfl, rfl, rfl, rfl, rfl, rfl, rfl, rfl, rfl, rfl, rfl, trivial⟩, (hp.take [2, 3, 0, 1] 4 (by decide) (by simp)), (Nat.zero_le _), hl2, hE2, (fun j hj => absurd hj (Nat.not_lt_zero _))⟩ ?_
     rintro _ _ W_14 ⟨r_, k, sn3, Fk, rfl, rfl, hp, hk, hl3, hE3, hno3⟩
     refine wp_seq ?_
     refine sx_region ?_
     refine sx_rd 64 (.bool (decide ((k : Int) < ([(rd_Tile h (i : Int)).f0, (rd_Tile h (i : Int)).f1].length : Int)))) (by rfl) (by kernel_rfl) ?_
     refine sx_nil ?_
     refine ex_then_n ?_
     refine wp_seq ?_
     refine sx_cond (decide ((k : Int) < ([(rd_Tile h (i : Int)).f0, (rd_Tile h (i : Int)).f1].length : Int))) (by rfl) (fun c_15 => ?_) (fun c_15 => ?_)
     ·
      have c_15p := of_decide_eq_true c_15
      have hbd : 0 ≤ (rd ([(rd_Tile h (i : Int)).f0, (rd_Tile h (i : Int)).f1]) (k : Int)) ∧ (rd ([(rd_Tile h (i : Int)).f0, (rd_Tile h (i : Int)).f1]) (k : Int)) ≤ 9 ∧ 0 ≤ (((rd_Tile h (i : Int)).f0 + (rd_Tile h (i : Int)).f1) - (rd ([(rd_Tile h (i : Int)).f0, (rd_Tile h (i : Int)).f1]) (k : Int))) ∧ (((rd_Tile h (i : Int)).f0 + (rd_Tile h (i : Int)).f1) - (rd ([(rd_Tile h (i : Int)).f0, (rd_Tile h (i : Int)).f1]) (k : Int))) ≤ 9 := endN_bd (k := k) hgt (by omega)
      refine wp_skip ?_
      refine ex_then_n ?_
      refine wp_seq ?_
      refine wp_block ?_
      refine wp_seq ?_
      refine sx_region ?_
      refine sx_rd 65 (.pointer (some (adr (some ⟨g_11, 0, none⟩) (k : Int) 1))) (by rfl) (ix_run (d := (Kd.int .i64)) (row_C (hp.at_ 2 _ (by rfl))) (t := 33) (by rfl) (by rfl) (by rfl) Try.underlying33 (by kernel_rfl) (by omega) (by omega)) ?_
      refine sx_rd 66 (.int .i64 (rd ([(rd_Tile h (i : Int)).f0, (rd_Tile h (i : Int)).f1]) (k : Int))) (by rfl) (ld1 (t := 3) (p := (.tmp 65)) (by rfl) (by rfl) (by kernel_rfl) (el_cell (d := (Kd.int .i64)) (row_C (hp.at_ 2 _ (by rfl))) 0 (k : Int) (by omega) (by omega) (cells := [.int .i64 (rd ([(rd_Tile h (i : Int)).f0, (rd_Tile h (i : Int)).f1]) (k : Int))]) (fun cs h => h) 0 _ (by rfl))) ?_
      refine sx_rd 14 (.int .i64 (rd ([(rd_Tile h (i : Int)).f0, (rd_Tile h (i : Int)).f1]) (k : Int))) (by rfl) (by kernel_rfl) ?_
      refine sx_nil ?_
      refine ex_then_n ?_
      refine wp_seq ?_
      refine sx_region ?_
      refine sx_rd 67 (.pointer (some ⟨g_7, 0, none⟩)) (by rfl) (by kernel_rfl) ?_
      refine sx_rd 68 (.int .i64 ((rd_Tile h (i : Int)).f0)) (by rfl) (ld1 (t := 3) (p := (.tmp 67)) (by rfl) (by rfl) (by kernel_rfl) (hp.cell 3 (by rfl) 0 _ (by rfl))) ?_
      refine sx_rd 69 (.pointer (some ⟨g_7, 1, none⟩)) (by rfl) (by kernel_rfl) ?_
      refine sx_rd 70 (.int .i64 ((rd_Tile h (i : Int)).f1)) (by rfl) (ld1 (t := 3) (p := (.tmp 69)) (by rfl) (by rfl) (by kernel_rfl) (hp.cell 3 (by rfl) 1 _ (by rfl))) ?_
      refine sx_rd 71 (.int .i64 ((rd_Tile h (i : Int)).f0 + (rd_Tile h (i : Int)).f1)) (by rfl) (wr_ok (by omega) (by kernel_rfl)) ?_
      refine sx_rd 72 (.int .i64 (rd ([(rd_Tile h (i : Int)).f0, (rd_Tile h (i : Int)).f1]) (k : Int))) (by rfl) (by kernel_rfl) ?_
      refine sx_rd 73 (.int .i64 (((rd_Tile h (i : Int)).f0 + (rd_Tile h (i : Int)).f1) - (rd ([(rd_Tile h (i : Int)).f0, (rd_Tile h (i : Int)).f1]) (k : Int)))) (by rfl) (wr_ok (by omega) (by kernel_rfl)) ?_
      refine sx_rd 15 (.int .i64 (((rd_Tile h (i : Int)).f0 + (rd_Tile h (i : Int)).f1) - (rd ([(rd_Tile h (i : Int)).f0, (rd_Tile h (i : Int)).f1]) (k : Int)))) (by rfl) (by kernel_rfl) ?_
      refine sx_nil ?_
      refine ex_then_n ?_
      refine wp_seq ?_
      rcases Bool.eq_false_or_eq_true ((rd ([(rd_Tile h (i : Int)).f0, (rd_Tile h (i : Int)).f1]) (k : Int)) == l) with c_16 | c_16
      ·
       have c_16p := eq_of_beq_ c_16
       rcases Bool.eq_false_or_eq_true (sw (subH h (clr s i)) (((rd_Tile h (i : Int)).f0 + (rd_Tile h (i : Int)).f1) - (rd ([(rd_Tile h (i : Int)).f0, (rd_Tile h (i : Int)).f1]) (k : Int))) r) with c_17 | c_17
       ·
        refine sx_region ?_
        refine sx_rd 74 (.int .i64 (rd ([(rd_Tile h (i : Int)).f0, (rd_Tile h (i : Int)).f1]) (k : Int))) (by rfl) (by kernel_rfl) ?_
        refine sx_rd 75 (.int .i64 l) (by rfl) (by kernel_rfl) ?_
        refine sx_rd 76 (.bool true) (by rfl) (bv c_16 (by kernel_rfl)) ?_
        refine sx_rd 77 (.bool true) (by rfl) (by kernel_rfl) ?_
        refine sx_want (by rfl) ?_
        refine sx_rd 78 (.pointer (some ⟨g, 0, none⟩)) (by rfl) (by kernel_rfl) ?_
        refine sx_want (by rfl) ?_
        refine sx_rd 79 (.int .i64 ((clr s i : Nat) : Int)) (by rfl) (by kernel_rfl) ?_
        refine sx_want (by rfl) ?_
        refine sx_rd 80 (.int .i64 (((rd_Tile h (i : Int)).f0 + (rd_Tile h (i : Int)).f1) - (rd ([(rd_Tile h (i : Int)).f0, (rd_Tile h (i : Int)).f1]) (k : Int)))) (by rfl) (by kernel_rfl) ?_
        refine sx_want (by rfl) ?_
        refine sx_rd 81 (.int .i64 r) (by rfl) (by kernel_rfl) ?_
        refine sx_want (by rfl) ?_
        have hprev18 : ExtT h (sn.set (((((s : Int) * 10) + l) * 10) + r).toNat true) sn3 := hE3
        refine sx_call 82 (by rfl) (by kernel_rfl) ((hIH w0 _ (row (Kd.int .i64) 3 w0.heap.size (.slice (some ⟨g_11, 0, none⟩) ([(rd_Tile h (i : Int)).f0, (rd_Tile h (i : Int)).f1].length) ([(rd_Tile h (i : Int)).f0, (rd_Tile h (i : Int)).f1].length)) ([(rd_Tile h (i : Int)).f0, (rd_Tile h (i : Int)).f1]) F_12 :: blk g_7 #[.int .i64 ((rd_Tile h (i : Int)).f0), .int .i64 ((rd_Tile h (i : Int)).f1)] 79 :: cs) h AH cH g gL cL n sn3 Fk (clr s i) (((rd_Tile h (i : Int)).f0 + (rd_Tile h (i : Int)).f1) - (rd ([(rd_Tile h (i : Int)).f0, (rd_Tile h (i : Int)).f1]) (k : Int))) r P hnd h8 hg hcH hP (by omega) (by omega) hN hl3 (by omega) (by omega) (by omega) (by omega) (hO1.ext hprev18) (fun W q => hCH W q.tail.tail) (hp.take [0, 1, 2, 3] 4 (by decide) (by simp))).mono ?_)
        rintro _ W_19 ⟨sn18x, F18x, rfl, hl18x, hx18, hp⟩
        refine ⟨.bool true, congrArg (fun b => Ending.returned (.bool b)) c_17, ?_⟩
        have hE18x : (sw (subH h (clr s i)) (((rd_Tile h (i : Int)).f0 + (rd_Tile h (i : Int)).f1) - (rd ([(rd_Tile h (i : Int)).f0, (rd_Tile h (i : Int)).f1]) (k : Int))) r) = false → ExtT h (sn.set (((((s : Int) * 10) + l) * 10) + r).toNat true) sn18x := fun q => ExtT.trans hprev18 (hx18 q)
        refine sx_rd 83 (.bool true) (by rfl) (by kernel_rfl) ?_
        refine sx_rd 84 (.bool true) (by rfl) (by kernel_rfl) ?_
        refine sx_skip 85 (by rfl) (by rfl) (by rfl) ?_
        refine sx_skip 86 (by rfl) (by rfl) (by rfl) ?_
        refine sx_skip 87 (by rfl) (by rfl) (by rfl) ?_
        refine sx_skip 88 (by rfl) (by rfl) (by rfl) ?_
        refine sx_skip 89 (by rfl) (by rfl) (by rfl) ?_
        refine sx_skip 90 (by rfl) (by rfl) (by rfl) ?_
        refine sx_skip 91 (by rfl) (by rfl) (by rfl) ?_
        refine sx_skip 92 (by rfl) (by rfl) (by rfl) ?_
        refine sx_skip 93 (by rfl) (by rfl) (by rfl) ?_
        refine sx_skip 94 (by rfl) (by rfl) (by rfl) ?_
        refine sx_rd 95 (.bool true) (by rfl) (by kernel_rfl) ?_
        refine sx_nil ?_
        refine ex_then_n ?_
        refine sx_then true (by rfl) rfl ?_
        refine wp_seq ?_
        refine sx_region ?_
        refine sx_rd 8 (.bool true) (by rfl) (by kernel_rfl) ?_
        refine sx_nil ?_
        refine ex_then_n ?_
        refine wp_ret ?_
        refine ex_blk_r (ex_then_r (ex_then_r (ex_blk_r (ex_blk_r (ex_then_r (ex_then_r (ex_blk_r (ex_then_r ?_))))))))
        refine sx_end (.bool true) (res1 8 (by rfl)) ?_
        have hf := sw_yesR (k := k) hnd h8 (show s < 256 by omega) (show i < h.length by omega) (by omega) hbit (endS_yl c_16 c_17)
        exact ⟨_, _, congrArg (fun b => Ending.returned (.bool b)) hf.symm, hl18x, (fun q => by rw [hf] at q; cases q), (hp.take [0, 1] 4 (by decide) (by simp))⟩
       ·
        rcases Bool.eq_false_or_eq_true ((rd ([(rd_Tile h (i : Int)).f0, (rd_Tile h (i : Int)).f1]) (k : Int)) == r) with c_20 | c_20
        ·
         have c_20p := eq_of_beq_ c_20
         refine sx_region ?_
         refine sx_rd 74 (.int .i64 (rd ([(rd_Tile h (i : Int)).f0, (rd_Tile h (i : Int)).f1]) (k : Int))) (by rfl) (by kernel_rfl) ?_
         refine sx_rd 75 (.int .i64 l) (by rfl) (by kernel_rfl) ?_
         refine sx_rd 76 (.bool true) (by rfl) (bv c_16 (by kernel_rfl)) ?_
         refine sx_rd 77 (.bool true) (by rfl) (by kernel_rfl) ?_
         refine sx_want (by rfl) ?_
         refine sx_rd 78 (.pointer (some ⟨g, 0, none⟩)) (by rfl) (by kernel_rfl) ?_
         refine sx_want (by rfl) ?_
         refine sx_rd 79 (.int .i64 ((clr s i : Nat) : Int)) (by rfl) (by kernel_rfl) ?_
         refine sx_want (by rfl) ?_
         refine sx_rd 80 (.int .i64 (((rd_Tile h (i : Int)).f0 + (rd_Tile h (i : Int)).f1) - (rd ([(rd_Tile h (i : Int)).f0, (rd_Tile h (i : Int)).f1]) (k : Int)))) (by rfl) (by kernel_rfl) ?_
         refine sx_want (by rfl) ?_
         refine sx_rd 81 (.int .i64 r) (by rfl) (by kernel_rfl) ?_
         refine sx_want (by rfl) ?_
         have hprev21 : ExtT h (sn.set (((((s : Int) * 10) + l) * 10) + r).toNat true) sn3 := hE3
         refine sx_call 82 (by rfl) (by kernel_rfl) ((hIH w0 _ (row (Kd.int .i64) 3 w0.heap.size (.slice (some ⟨g_11, 0, none⟩) ([(rd_Tile h (i : Int)).f0, (rd_Tile h (i : Int)).f1].length) ([(rd_Tile h (i : Int)).f0, (rd_Tile h (i : Int)).f1].length)) ([(rd_Tile h (i : Int)).f0, (rd_Tile h (i : Int)).f1]) F_12 :: blk g_7 #[.int .i64 ((rd_Tile h (i : Int)).f0), .int .i64 ((rd_Tile h (i : Int)).f1)] 79 :: cs) h AH cH g gL cL n sn3 Fk (clr s i) (((rd_Tile h (i : Int)).f0 + (rd_Tile h (i : Int)).f1) - (rd ([(rd_Tile h (i : Int)).f0, (rd_Tile h (i : Int)).f1]) (k : Int))) r P hnd h8 hg hcH hP (by omega) (by omega) hN hl3 (by omega) (by omega) (by omega) (by omega) (hO1.ext hprev21) (fun W q => hCH W q.tail.tail) (hp.take [0, 1, 2, 3] 4 (by decide) (by simp))).mono ?_)
         rintro _ W_22 ⟨sn21x, F21x, rfl, hl21x, hx21, hp⟩
         refine ⟨.bool false, congrArg (fun b => Ending.returned (.bool b)) c_17, ?_⟩
         have hE21x : (sw (subH h (clr s i)) (((rd_Tile h (i : Int)).f0 + (rd_Tile h (i : Int)).f1) - (rd ([(rd_Tile h (i : Int)).f0, (rd_Tile h (i : Int)).f1]) (k : Int))) r) = false → ExtT h (sn.set (((((s : Int) * 10) + l) * 10) + r).toNat true) sn21x := fun q => ExtT.trans hprev21 (hx21 q)
         refine sx_rd 83 (.bool false) (by rfl) (by kernel_rfl) ?_
         refine sx_rd 84 (.bool false) (by rfl) (by kernel_rfl) ?_
         refine sx_want (by rfl) ?_
         refine sx_rd 85 (.int .i64 (rd ([(rd_Tile h (i : Int)).f0, (rd_Tile h (i : Int)).f1]) (k : Int))) (by rfl) (by kernel_rfl) ?_
         refine sx_want (by rfl) ?_
         refine sx_rd 86 (.int .i64 r) (by rfl) (by kernel_rfl) ?_
         refine sx_want (by rfl) ?_
         refine sx_rd 87 (.bool true) (by rfl) (bv c_20 (by kernel_rfl)) ?_
         refine sx_want (by rfl) ?_
         refine sx_rd 88 (.bool true) (by rfl) (by kernel_rfl) ?_
         refine sx_want (by rfl) ?_
         refine sx_rd 89 (.pointer (some ⟨g, 0, none⟩)) (by rfl) (by kernel_rfl) ?_
         refine sx_want (by rfl) ?_
         refine sx_rd 90 (.int .i64 ((clr s i : Nat) : Int)) (by rfl) (by kernel_rfl) ?_
         refine sx_want (by rfl) ?_
         refine sx_rd 91 (.int .i64 l) (by rfl) (by kernel_rfl) ?_
         refine sx_want (by rfl) ?_
         refine sx_rd 92 (.int .i64 (((rd_Tile h (i : Int)).f0 + (rd_Tile h (i : Int)).f1) - (rd ([(rd_Tile h (i : Int)).f0, (rd_Tile h (i : Int)).f1]) (k : Int)))) (by rfl) (by kernel_rfl) ?_
         refine sx_want (by rfl) ?_
         have hprev23 : ExtT h (sn.set (((((s : Int) * 10) + l) * 10) + r).toNat true) sn21x := (hE21x c_17)
         refine sx_call 93 (by rfl) (by kernel_rfl) ((hIH w0 _ (row (Kd.int .i64) 3 w0.heap.size (.slice (some ⟨g_11, 0, none⟩) ([(rd_Tile h (i : Int)).f0, (rd_Tile h (i : Int)).f1].length) ([(rd_Tile h (i : Int)).f0, (rd_Tile h (i : Int)).f1].length)) ([(rd_Tile h (i : Int)).f0, (rd_Tile h (i : Int)).f1]) F_12 :: blk g_7 #[.int .i64 ((rd_Tile h (i : Int)).f0), .int .i64 ((rd_Tile h (i : Int)).f1)] 79 :: cs) h AH cH g gL cL n sn21x F21x (clr s i) l (((rd_Tile h (i : Int)).f0 + (rd_Tile h (i : Int)).f1) - (rd ([(rd_Tile h (i : Int)).f0, (rd_Tile h (i : Int)).f1]) (k : Int))) P hnd h8 hg hcH hP (by omega) (by omega) hN hl21x (by omega) (by omega) (by omega) (by omega) (hO1.ext hprev23) (fun W q => hCH W q.tail.tail) (hp.take [0, 1, 2, 3] 4 (by decide) (by simp))).mono ?_)
         rintro _ W_24 ⟨sn23x, F23x, rfl, hl23x, hx23, hp⟩
         refine ⟨_, rfl, ?_⟩
         have hE23x : (sw (subH h (clr s i)) l (((rd_Tile h (i : Int)).f0 + (rd_Tile h (i : Int)).f1) - (rd ([(rd_Tile h (i : Int)).f0, (rd_Tile h (i : Int)).f1]) (k : Int)))) = false → ExtT h (sn.set (((((s : Int) * 10) + l) * 10) + r).toNat true) sn23x := fun q => ExtT.trans hprev23 (hx23 q)
         refine sx_want (by rfl) ?_
         refine sx_rd 94 (.bool (sw (subH h (clr s i)) l (((rd_Tile h (i : Int)).f0 + (rd_Tile h (i : Int)).f1) - (rd ([(rd_Tile h (i : Int)).f0, (rd_Tile h (i : Int)).f1]) (k : Int))))) (by rfl) (by kernel_rfl) ?_
         refine sx_rd 95 (.bool (sw (subH h (clr s i)) l (((rd_Tile h (i : Int)).f0 + (rd_Tile h (i : Int)).f1) - (rd ([(rd_Tile h (i : Int)).f0, (rd_Tile h (i : Int)).f1]) (k : Int))))) (by rfl) (by kernel_rfl) ?_
         refine sx_nil ?_
         refine ex_then_n ?_
         refine sx_cond (sw (subH h (clr s i)) l (((rd_Tile h (i : Int)).f0 + (rd_Tile h (i : Int)).f1) - (rd ([(rd_Tile h (i : Int)).f0, (rd_Tile h (i : Int)).f1]) (k : Int)))) (by rfl) (fun c_25 => ?_) (fun c_25 => ?_)
         ·
          refine wp_seq ?_
          refine sx_region ?_
          refine sx_rd 8 (.bool true) (by rfl) (by kernel_rfl) ?_
          refine sx_nil ?_
          refine ex_then_n ?_
          refine wp_ret ?_
          refine ex_blk_r (ex_then_r (ex_then_r (ex_blk_r (ex_blk_r (ex_then_r (ex_then_r (ex_blk_r (ex_then_r ?_))))))))
          refine sx_end (.bool true) (res1 8 (by rfl)) ?_
          have hf := sw_yesR (k := k) hnd h8 (show s < 256 by omega) (show i < h.length by omega) (by omega) hbit (endS_yr c_20 c_25)
          exact ⟨_, _, congrArg (fun b => Ending.returned (.bool b)) hf.symm, hl23x, (fun q => by rw [hf] at q; cases q), (hp.take [0, 1] 4 (by decide) (by simp))⟩
         ·
          refine wp_skip ?_
          refine ex_blk_n ?_
          refine ex_then_n ?_
          refine sx_region ?_
          refine sx_rd 96 (.int .i64 ((k : Int) + 1)) (by rfl) (wr_ok (by omega) (by kernel_rfl)) ?_
          refine sx_rd 63 (.int .i64 ((k : Int) + 1)) (by rfl) (by kernel_rfl) ?_
          refine sx_nil ?_
          refine ex_then_n ?_
          exact ⟨_, (by omega), _, (k + 1), sn23x, _, rfl, fr_front [(0, .pointer (some ⟨g, 0, none⟩)), (1, .int .i64 (s : Int)), (2, .int .i64 l), (3, .int .i64 r), (11, .pointer (some ⟨g_7, 0, none⟩)), (12, .int .i64 ((clr s i : Nat) : Int)), (41, .slice AH h.length cH), (42, .int .i64 (h.length : Int)), (43, .int .i64 (i : Int)), (61, .slice (some ⟨g_11, 0, none⟩) ([(rd_Tile h (i : Int)).f0, (rd_Tile h (i : Int)).f1].length) ([(rd_Tile h (i : Int)).f0, (rd_Tile h (i : Int)).f1].length)), (62, .int .i64 ([(rd_Tile h (i : Int)).f0, (rd_Tile h (i : Int)).f1].length : Int)), (63, .int .i64 ((k + 1 : Nat) : Int))] ⟨rfl, rfl, rfl, rfl, rfl, rfl, rfl, rfl, rfl, rfl, rfl, rfl, trivial⟩, (hp.take [0, 1, 2, 3] 4 (by decide) (by simp)), (by omega), hl23x, (hE23x c_25), (fun j hj => by rcases Nat.lt_succ_iff_lt_or_eq.1 hj with q | rfl; exact hno3 j q; exact endS_no (.inr c_17) (.inr c_25))⟩
        ·
         have c_20p := ne_of_beq_ c_20
         refine sx_region ?_
         refine sx_rd 74 (.int .i64 (rd ([(rd_Tile h (i : Int)).f0, (rd_Tile h (i : Int)).f1]) (k : Int))) (by rfl) (by kernel_rfl) ?_
         refine sx_rd 75 (.int .i64 l) (by rfl) (by kernel_rfl) ?_
         refine sx_rd 76 (.bool true) (by rfl) (bv c_16 (by kernel_rfl)) ?_
         refine sx_rd 77 (.bool true) (by rfl) (by kernel_rfl) ?_
         refine sx_want (by rfl) ?_
         refine sx_rd 78 (.pointer (some ⟨g, 0, none⟩)) (by rfl) (by kernel_rfl) ?_
         refine sx_want (by rfl) ?_
         refine sx_rd 79 (.int .i64 ((clr s i : Nat) : Int)) (by rfl) (by kernel_rfl) ?_
         refine sx_want (by rfl) ?_
         refine sx_rd 80 (.int .i64 (((rd_Tile h (i : Int)).f0 + (rd_Tile h (i : Int)).f1) - (rd ([(rd_Tile h (i : Int)).f0, (rd_Tile h (i : Int)).f1]) (k : Int)))) (by rfl) (by kernel_rfl) ?_
         refine sx_want (by rfl) ?_
         refine sx_rd 81 (.int .i64 r) (by rfl) (by kernel_rfl) ?_
         refine sx_want (by rfl) ?_
         have hprev26 : ExtT h (sn.set (((((s : Int) * 10) + l) * 10) + r).toNat true) sn3 := hE3
         refine sx_call 82 (by rfl) (by kernel_rfl) ((hIH w0 _ (row (Kd.int .i64) 3 w0.heap.size (.slice (some ⟨g_11, 0, none⟩) ([(rd_Tile h (i : Int)).f0, (rd_Tile h (i : Int)).f1].length) ([(rd_Tile h (i : Int)).f0, (rd_Tile h (i : Int)).f1].length)) ([(rd_Tile h (i : Int)).f0, (rd_Tile h (i : Int)).f1]) F_12 :: blk g_7 #[.int .i64 ((rd_Tile h (i : Int)).f0), .int .i64 ((rd_Tile h (i : Int)).f1)] 79 :: cs) h AH cH g gL cL n sn3 Fk (clr s i) (((rd_Tile h (i : Int)).f0 + (rd_Tile h (i : Int)).f1) - (rd ([(rd_Tile h (i : Int)).f0, (rd_Tile h (i : Int)).f1]) (k : Int))) r P hnd h8 hg hcH hP (by omega) (by omega) hN hl3 (by omega) (by omega) (by omega) (by omega) (hO1.ext hprev26) (fun W q => hCH W q.tail.tail) (hp.take [0, 1, 2, 3] 4 (by decide) (by simp))).mono ?_)
         rintro _ W_27 ⟨sn26x, F26x, rfl, hl26x, hx26, hp⟩
         refine ⟨.bool false, congrArg (fun b => Ending.returned (.bool b)) c_17, ?_⟩
         have hE26x : (sw (subH h (clr s i)) (((rd_Tile h (i : Int)).f0 + (rd_Tile h (i : Int)).f1) - (rd ([(rd_Tile h (i : Int)).f0, (rd_Tile h (i : Int)).f1]) (k : Int))) r) = false → ExtT h (sn.set (((((s : Int) * 10) + l) * 10) + r).toNat true) sn26x := fun q => ExtT.trans hprev26 (hx26 q)
         refine sx_rd 83 (.bool false) (by rfl) (by kernel_rfl) ?_
         refine sx_rd 84 (.bool false) (by rfl) (by kernel_rfl) ?_
         refine sx_want (by rfl) ?_
         refine sx_rd 85 (.int .i64 (rd ([(rd_Tile h (i : Int)).f0, (rd_Tile h (i : Int)).f1]) (k : Int))) (by rfl) (by kernel_rfl) ?_
         refine sx_want (by rfl) ?_
         refine sx_rd 86 (.int .i64 r) (by rfl) (by kernel_rfl) ?_
         refine sx_want (by rfl) ?_
         refine sx_rd 87 (.bool false) (by rfl) (bv c_20 (by kernel_rfl)) ?_
         refine sx_want (by rfl) ?_
         refine sx_rd 88 (.bool false) (by rfl) (by kernel_rfl) ?_
         refine sx_skip 89 (by rfl) (by rfl) (by rfl) ?_
         refine sx_skip 90 (by rfl) (by rfl) (by rfl) ?_
         refine sx_skip 91 (by rfl) (by rfl) (by rfl) ?_
         refine sx_skip 92 (by rfl) (by rfl) (by rfl) ?_
         refine sx_skip 93 (by rfl) (by rfl) (by rfl) ?_
         refine sx_want (by rfl) ?_
         refine sx_rd 94 (.bool false) (by rfl) (by kernel_rfl) ?_
         refine sx_rd 95 (.bool false) (by rfl) (by kernel_rfl) ?_
         refine sx_nil ?_
         refine ex_then_n ?_
         refine sx_else false (by rfl) rfl ?_
         refine wp_skip ?_
         refine ex_blk_n ?_
         refine ex_then_n ?_
         refine sx_region ?_
         refine sx_rd 96 (.int .i64 ((k : Int) + 1)) (by rfl) (wr_ok (by omega) (by kernel_rfl)) ?_
         refine sx_rd 63 (.int .i64 ((k : Int) + 1)) (by rfl) (by kernel_rfl) ?_
         refine sx_nil ?_
         refine ex_then_n ?_
         exact ⟨_, (by omega), _, (k + 1), sn26x, _, rfl, fr_front [(0, .pointer (some ⟨g, 0, none⟩)), (1, .int .i64 (s : Int)), (2, .int .i64 l), (3, .int .i64 r), (11, .pointer (some ⟨g_7, 0, none⟩)), (12, .int .i64 ((clr s i : Nat) : Int)), (41, .slice AH h.length cH), (42, .int .i64 (h.length : Int)), (43, .int .i64 (i : Int)), (61, .slice (some ⟨g_11, 0, none⟩) ([(rd_Tile h (i : Int)).f0, (rd_Tile h (i : Int)).f1].length) ([(rd_Tile h (i : Int)).f0, (rd_Tile h (i : Int)).f1].length)), (62, .int .i64 ([(rd_Tile h (i : Int)).f0, (rd_Tile h (i : Int)).f1].length : Int)), (63, .int .i64 ((k + 1 : Nat) : Int))] ⟨rfl, rfl, rfl, rfl, rfl, rfl, rfl, rfl, rfl, rfl, rfl, rfl, trivial⟩, (hp.take [0, 1, 2, 3] 4 (by decide) (by simp)), (by omega), hl26x, (hE26x c_17), (fun j hj => by rcases Nat.lt_succ_iff_lt_or_eq.1 hj with q | rfl; exact hno3 j q; exact endS_no (.inr c_17) (.inl c_20))⟩
      ·
       have c_16p := ne_of_beq_ c_16
       rcases Bool.eq_false_or_eq_true ((rd ([(rd_Tile h (i : Int)).f0, (rd_Tile h (i : Int)).f1]) (k : Int)) == r) with c_28 | c_28
       ·
        have c_28p := eq_of_beq_ c_28
        refine sx_region ?_
        refine sx_rd 74 (.int .i64 (rd ([(rd_Tile h (i : Int)).f0, (rd_Tile h (i : Int)).f1]) (k : Int))) (by rfl) (by kernel_rfl) ?_
        refine sx_rd 75 (.int .i64 l) (by rfl) (by kernel_rfl) ?_
        refine sx_rd 76 (.bool false) (by rfl) (bv c_16 (by kernel_rfl)) ?_
        refine sx_rd 77 (.bool false) (by rfl) (by kernel_rfl) ?_
        refine sx_skip 78 (by rfl) (by rfl) (by rfl) ?_
        refine sx_skip 79 (by rfl) (by rfl) (by rfl) ?_
        refine sx_skip 80 (by rfl) (by rfl) (by rfl) ?_
        refine sx_skip 81 (by rfl) (by rfl) (by rfl) ?_
        refine sx_skip 82 (by rfl) (by rfl) (by rfl) ?_
        refine sx_rd 83 (.bool false) (by rfl) (by kernel_rfl) ?_
        refine sx_rd 84 (.bool false) (by rfl) (by kernel_rfl) ?_
        refine sx_want (by rfl) ?_
        refine sx_rd 85 (.int .i64 (rd ([(rd_Tile h (i : Int)).f0, (rd_Tile h (i : Int)).f1]) (k : Int))) (by rfl) (by kernel_rfl) ?_
        refine sx_want (by rfl) ?_
        refine sx_rd 86 (.int .i64 r) (by rfl) (by kernel_rfl) ?_
        refine sx_want (by rfl) ?_
        refine sx_rd 87 (.bool true) (by rfl) (bv c_28 (by kernel_rfl)) ?_
        refine sx_want (by rfl) ?_
        refine sx_rd 88 (.bool true) (by rfl) (by kernel_rfl) ?_
        refine sx_want (by rfl) ?_
        refine sx_rd 89 (.pointer (some ⟨g, 0, none⟩)) (by rfl) (by kernel_rfl) ?_
        refine sx_want (by rfl) ?_
        refine sx_rd 90 (.int .i64 ((clr s i : Nat) : Int)) (by rfl) (by kernel_rfl) ?_
        refine sx_want (by rfl) ?_
        refine sx_rd 91 (.int .i64 l) (by rfl) (by kernel_rfl) ?_
        refine sx_want (by rfl) ?_
        refine sx_rd 92 (.int .i64 (((rd_Tile h (i : Int)).f0 + (rd_Tile h (i : Int)).f1) - (rd ([(rd_Tile h (i : Int)).f0, (rd_Tile h (i : Int)).f1]) (k : Int)))) (by rfl) (by kernel_rfl) ?_
        refine sx_want (by rfl) ?_
        have hprev29 : ExtT h (sn.set (((((s : Int) * 10) + l) * 10) + r).toNat true) sn3 := hE3
        refine sx_call 93 (by rfl) (by kernel_rfl) ((hIH w0 _ (row (Kd.int .i64) 3 w0.heap.size (.slice (some ⟨g_11, 0, none⟩) ([(rd_Tile h (i : Int)).f0, (rd_Tile h (i : Int)).f1].length) ([(rd_Tile h (i : Int)).f0, (rd_Tile h (i : Int)).f1].length)) ([(rd_Tile h (i : Int)).f0, (rd_Tile h (i : Int)).f1]) F_12 :: blk g_7 #[.int .i64 ((rd_Tile h (i : Int)).f0), .int .i64 ((rd_Tile h (i : Int)).f1)] 79 :: cs) h AH cH g gL cL n sn3 Fk (clr s i) l (((rd_Tile h (i : Int)).f0 + (rd_Tile h (i : Int)).f1) - (rd ([(rd_Tile h (i : Int)).f0, (rd_Tile h (i : Int)).f1]) (k : Int))) P hnd h8 hg hcH hP (by omega) (by omega) hN hl3 (by omega) (by omega) (by omega) (by omega) (hO1.ext hprev29) (fun W q => hCH W q.tail.tail) (hp.take [0, 1, 2, 3] 4 (by decide) (by simp))).mono ?_)
        rintro _ W_30 ⟨sn29x, F29x, rfl, hl29x, hx29, hp⟩
        refine ⟨_, rfl, ?_⟩
        have hE29x : (sw (subH h (clr s i)) l (((rd_Tile h (i : Int)).f0 + (rd_Tile h (i : Int)).f1) - (rd ([(rd_Tile h (i : Int)).f0, (rd_Tile h (i : Int)).f1]) (k : Int)))) = false → ExtT h (sn.set (((((s : Int) * 10) + l) * 10) + r).toNat true) sn29x := fun q => ExtT.trans hprev29 (hx29 q)
        refine sx_want (by rfl) ?_
        refine sx_rd 94 (.bool (sw (subH h (clr s i)) l (((rd_Tile h (i : Int)).f0 + (rd_Tile h (i : Int)).f1) - (rd ([(rd_Tile h (i : Int)).f0, (rd_Tile h (i : Int)).f1]) (k : Int))))) (by rfl) (by kernel_rfl) ?_
        refine sx_rd 95 (.bool (sw (subH h (clr s i)) l (((rd_Tile h (i : Int)).f0 + (rd_Tile h (i : Int)).f1) - (rd ([(rd_Tile h (i : Int)).f0, (rd_Tile h (i : Int)).f1]) (k : Int))))) (by rfl) (by kernel_rfl) ?_
        refine sx_nil ?_
        refine ex_then_n ?_
        refine sx_cond (sw (subH h (clr s i)) l (((rd_Tile h (i : Int)).f0 + (rd_Tile h (i : Int)).f1) - (rd ([(rd_Tile h (i : Int)).f0, (rd_Tile h (i : Int)).f1]) (k : Int)))) (by rfl) (fun c_31 => ?_) (fun c_31 => ?_)
        ·
         refine wp_seq ?_
         refine sx_region ?_
         refine sx_rd 8 (.bool true) (by rfl) (by kernel_rfl) ?_
         refine sx_nil ?_
         refine ex_then_n ?_
         refine wp_ret ?_
         refine ex_blk_r (ex_then_r (ex_then_r (ex_blk_r (ex_blk_r (ex_then_r (ex_then_r (ex_blk_r (ex_then_r ?_))))))))
         refine sx_end (.bool true) (res1 8 (by rfl)) ?_
         have hf := sw_yesR (k := k) hnd h8 (show s < 256 by omega) (show i < h.length by omega) (by omega) hbit (endS_yr c_28 c_31)
         exact ⟨_, _, congrArg (fun b => Ending.returned (.bool b)) hf.symm, hl29x, (fun q => by rw [hf] at q; cases q), (hp.take [0, 1] 4 (by decide) (by simp))⟩
        ·
         refine wp_skip ?_
         refine ex_blk_n ?_
         refine ex_then_n ?_
         refine sx_region ?_
         refine sx_rd 96 (.int .i64 ((k : Int) + 1)) (by rfl) (wr_ok (by omega) (by kernel_rfl)) ?_
         refine sx_rd 63 (.int .i64 ((k : Int) + 1)) (by rfl) (by kernel_rfl) ?_
         refine sx_nil ?_
         refine ex_then_n ?_
         exact ⟨_, (by omega), _, (k + 1), sn29x, _, rfl, fr_front [(0, .pointer (some ⟨g, 0, none⟩)), (1, .int .i64 (s : Int)), (2, .int .i64 l), (3, .int .i64 r), (11, .pointer (some ⟨g_7, 0, none⟩)), (12, .int .i64 ((clr s i : Nat) : Int)), (41, .slice AH h.length cH), (42, .int .i64 (h.length : Int)), (43, .int .i64 (i : Int)), (61, .slice (some ⟨g_11, 0, none⟩) ([(rd_Tile h (i : Int)).f0, (rd_Tile h (i : Int)).f1].length) ([(rd_Tile h (i : Int)).f0, (rd_Tile h (i : Int)).f1].length)), (62, .int .i64 ([(rd_Tile h (i : Int)).f0, (rd_Tile h (i : Int)).f1].length : Int)), (63, .int .i64 ((k + 1 : Nat) : Int))] ⟨rfl, rfl, rfl, rfl, rfl, rfl, rfl, rfl, rfl, rfl, rfl, rfl, trivial⟩, (hp.take [0, 1, 2, 3] 4 (by decide) (by simp)), (by omega), hl29x, (hE29x c_31), (fun j hj => by rcases Nat.lt_succ_iff_lt_or_eq.1 hj with q | rfl; exact hno3 j q; exact endS_no (.inl c_16) (.inr c_31))⟩
       ·
        have c_28p := ne_of_beq_ c_28
        refine sx_region ?_
        refine sx_rd 74 (.int .i64 (rd ([(rd_Tile h (i : Int)).f0, (rd_Tile h (i : Int)).f1]) (k : Int))) (by rfl) (by kernel_rfl) ?_
        refine sx_rd 75 (.int .i64 l) (by rfl) (by kernel_rfl) ?_
        refine sx_rd 76 (.bool false) (by rfl) (bv c_16 (by kernel_rfl)) ?_
        refine sx_rd 77 (.bool false) (by rfl) (by kernel_rfl) ?_
        refine sx_skip 78 (by rfl) (by rfl) (by rfl) ?_
        refine sx_skip 79 (by rfl) (by rfl) (by rfl) ?_
        refine sx_skip 80 (by rfl) (by rfl) (by rfl) ?_
        refine sx_skip 81 (by rfl) (by rfl) (by rfl) ?_
        refine sx_skip 82 (by rfl) (by rfl) (by rfl) ?_
        refine sx_rd 83 (.bool false) (by rfl) (by kernel_rfl) ?_
        refine sx_rd 84 (.bool false) (by rfl) (by kernel_rfl) ?_
        refine sx_want (by rfl) ?_
        refine sx_rd 85 (.int .i64 (rd ([(rd_Tile h (i : Int)).f0, (rd_Tile h (i : Int)).f1]) (k : Int))) (by rfl) (by kernel_rfl) ?_
        refine sx_want (by rfl) ?_
        refine sx_rd 86 (.int .i64 r) (by rfl) (by kernel_rfl) ?_
        refine sx_want (by rfl) ?_
        refine sx_rd 87 (.bool false) (by rfl) (bv c_28 (by kernel_rfl)) ?_
        refine sx_want (by rfl) ?_
        refine sx_rd 88 (.bool false) (by rfl) (by kernel_rfl) ?_
        refine sx_skip 89 (by rfl) (by rfl) (by rfl) ?_
        refine sx_skip 90 (by rfl) (by rfl) (by rfl) ?_
        refine sx_skip 91 (by rfl) (by rfl) (by rfl) ?_
        refine sx_skip 92 (by rfl) (by rfl) (by rfl) ?_
        refine sx_skip 93 (by rfl) (by rfl) (by rfl) ?_
        refine sx_want (by rfl) ?_
        refine sx_rd 94 (.bool false) (by rfl) (by kernel_rfl) ?_
        refine sx_rd 95 (.bool false) (by rfl) (by kernel_rfl) ?_
        refine sx_nil ?_
        refine ex_then_n ?_
        refine sx_else false (by rfl) rfl ?_
        refine wp_skip ?_
        refine ex_blk_n ?_
        refine ex_then_n ?_
        refine sx_region ?_
        refine sx_rd 96 (.int .i64 ((k : Int) + 1)) (by rfl) (wr_ok (by omega) (by kernel_rfl)) ?_
        refine sx_rd 63 (.int .i64 ((k : Int) + 1)) (by rfl) (by kernel_rfl) ?_
        refine sx_nil ?_
        refine ex_then_n ?_
        exact ⟨_, (by omega), _, (k + 1), sn3, _, rfl, fr_front [(0, .pointer (some ⟨g, 0, none⟩)), (1, .int .i64 (s : Int)), (2, .int .i64 l), (3, .int .i64 r), (11, .pointer (some ⟨g_7, 0, none⟩)), (12, .int .i64 ((clr s i : Nat) : Int)), (41, .slice AH h.length cH), (42, .int .i64 (h.length : Int)), (43, .int .i64 (i : Int)), (61, .slice (some ⟨g_11, 0, none⟩) ([(rd_Tile h (i : Int)).f0, (rd_Tile h (i : Int)).f1].length) ([(rd_Tile h (i : Int)).f0, (rd_Tile h (i : Int)).f1].length)), (62, .int .i64 ([(rd_Tile h (i : Int)).f0, (rd_Tile h (i : Int)).f1].length : Int)), (63, .int .i64 ((k + 1 : Nat) : Int))] ⟨rfl, rfl, rfl, rfl, rfl, rfl, rfl, rfl, rfl, rfl, rfl, rfl, trivial⟩, (hp.take [0, 1, 2, 3] 4 (by decide) (by simp)), (by omega), hl3, hE3, (fun j hj => by rcases Nat.lt_succ_iff_lt_or_eq.1 hj with q | rfl; exact hno3 j q; exact endS_no (.inl c_16) (.inl c_28))⟩
     ·
      have c_15p := of_decide_eq_false c_15
      refine wp_exit ?_
      refine ex_then_e (ex_then_e (ex_blk_here ?_))
      refine ex_blk_n ?_
      refine ex_then_n ?_
      refine sx_region ?_
      refine sx_rd 97 (.int .i64 ((i : Int) + 1)) (by rfl) (wr_ok (by omega) (by kernel_rfl)) ?_
      refine sx_rd 43 (.int .i64 ((i : Int) + 1)) (by rfl) (by kernel_rfl) ?_
      refine sx_nil ?_
      refine ex_then_n ?_
      exact ⟨_, (by omega), _, (i + 1), sn3, _, rfl, fr_front [(0, .pointer (some ⟨g, 0, none⟩)), (1, .int .i64 (s : Int)), (2, .int .i64 l), (3, .int .i64 r), (41, .slice AH h.length cH), (42, .int .i64 (h.length : Int)), (43, .int .i64 ((i + 1 : Nat) : Int))] ⟨rfl, rfl, rfl, rfl, rfl, rfl, rfl, trivial⟩, (hp.take [0, 1] 4 (by decide) (by simp)), (by omega), hl3, hE3, (fun j hj hb2 => by rcases Nat.lt_succ_iff_lt_or_eq.1 hj with q | rfl; exact hno2 j q hb2; exact fun k2 hk2 => hno3 k2 (by omega))⟩
   ·
    have c_6p := of_decide_eq_false c_6
    refine wp_exit ?_
    refine ex_then_e (ex_then_e (ex_blk_here ?_))
    refine ex_then_n ?_
    refine wp_seq ?_
    refine sx_region ?_
    refine sx_rd 8 (.bool false) (by rfl) (by kernel_rfl) ?_
    refine sx_nil ?_
    refine ex_then_n ?_
    refine wp_ret ?_
    refine sx_end (.bool false) (res1 8 (by rfl)) ?_
    have hf := sw_noR (l := l) (r := r) hnd h8 (by rw [← hP]; exact hsP) (show s ≠ 0 by omega) (fun j hj => hno2 j (by omega))
    exact ⟨_, _, congrArg (fun b => Ending.returned (.bool b)) hf.symm, hl2, fun q => ExtT.fails ⟨hl0, hl9, hr0, hr9⟩ hE2 q, (hp.take [0, 1] 2 (by decide) (by simp))⟩
theorem lookS_all : ∀ d, LookS d := by
 intro d
 induction d with
 | zero => intro w0 W cs h AH cH g gL cL n sn FL s l r P hnd h8 hg hcH hP hsP hsd; omega
 | succ d ih => exact lookS_of d ih
end Go.Proofs.Ytkjaahmlnbgnjaa.Hd
