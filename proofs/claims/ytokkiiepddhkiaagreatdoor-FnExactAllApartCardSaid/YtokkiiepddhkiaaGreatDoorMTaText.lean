/- spec.taText, by hand. -/
import Derived.Laws.IdiomStrings
import Derived.Test.YtokkiiepddhkiaaGreatDoorPTaText
import Derived.Test.YtokkiiepddhkiaaGreatDoorMSxM
import Derived.Test.YtokkiiepddhkiaaGreatDoorMSx3
import Derived.Test.YtokkiiepddhkiaaGreatDoorMSx4
namespace Go.Proofs.YtokkiiepddhkiaaGreatDoor.Hd
open Go Go.RowKit Go.Proofs.YtokkiiepddhkiaaGreatDoor.Pure Go.Proofs.YtokkiiepddhkiaaGreatDoorW.PrintWords Go.Proofs.YtokkiiepddhkiaaGreatDoorW.PrintLast Go.Proofs.YtokkiiepddhkiaaGreatDoorW.PrintMore
set_option linter.unusedVariables false
set_option linter.unusedSimpArgs false
theorem convC_run {P : Program} {N : Nat} {s : List (Nat × Value)} {o : Oper} {W : World} {src dst e : TypeId} {x : Operand} {A : Option Addr} {c : Nat} {xs : List Int} (ho : o.op = .convert src dst x) (hx : evl N s x = .slice A xs.length c) (hs : P.underlying src = some (.slice e)) (he : P.underlying e = some (.int .u8)) (hd : P.underlying dst = some .string) (hC : Kd.C (Kd.int .u8) W A xs.length xs) (h0 : 0 < xs.length) (hb : ∀ x ∈ xs, 0 ≤ x ∧ x < 256) :
  (execOp (evl N s) o).run P W = .ok (.value (.string (strOfNums xs))) W := by
 obtain ⟨ad, rfl, _⟩ := hC.2.2 h0
 have hl : (xs.map fun n => UInt8.ofNat n.toNat).length = xs.length := by simp
 have hr := run_convert_bytes_back (P := P) W src dst e ad c (xs.map fun n => UInt8.ofNat n.toNat) hs he hd (fun j hj => by
  rw [hl] at hj
  have q := el_cell (d := Kd.int .u8) hC 0 (j : Int) (by omega) (by omega) (cells := [.int .u8 (rd xs (j : Int))]) (fun cs h => h) 0 _ rfl
  have e4 : (adr (some ad) (j : Int) (Kd.int .u8).sz).add 0 = ad.add j := by
   unfold adr
   rw [add_add, Option.getD_some]
   show Addr.add ad ((j : Int).toNat * 1 + 0) = _
   rw [Int.toNat_natCast, Nat.mul_one, Nat.add_zero]
  rw [e4] at q
  rw [q, List.getElem_map, u8_back (hb _ (List.getElem_mem _)), rd_at (by omega)])
 rw [hl] at hr
 unfold execOp
 simp only [ho, hx]
 simp [Sem.run_bind, Sem.run_pure, hr, strOfNums]
def spec_taText.f (a0_0 a0_1 : Int) (l0_2 l1 : List Int) : Option ByteArray := if 1 ≤ a0_0 ∧ a0_0 ≤ 30 ∧ 0 ≤ a0_1 ∧ a0_1 ≤ 30 ∧ (l1.length : Int) = a0_1 * a0_0 ∧ ∀ x ∈ l1, 0 ≤ x ∧ x < 256 then some (formT a0_0.toNat a0_1.toNat l1) else none
set_option maxRecDepth 100000 in
set_option maxHeartbeats 40000000 in
theorem spec_taText.calls (a0_0 : Int) (a0_1 : Int) (A0_2 : Option Addr) (c0_2 : Nat) (l0_2 : List Int) (A1 : Option Addr) (c1 : Nat) (l1 : List Int) (r : ByteArray) (w : World) (hr0_2 : Kd.C (Kd.int .i64) w A0_2 l0_2.length l0_2) (hc0_2 : l0_2.length ≤ c0_2) (hr1 : Kd.C (Kd.int .u8) w A1 l1.length l1) (hc1 : l1.length ≤ c1) (h : spec_taText.f a0_0 a0_1 l0_2 l1 = some r) :
  Calls Tryz.prog 24 #[.agg #[.int .i64 a0_0, .int .i64 a0_1, .slice A0_2 l0_2.length c0_2], .slice A1 l1.length c1] w fun e w' => e = .returned (.string r) ∧ Below w.heap.size w w' := by
 unfold spec_taText.f at h
 split at h
 case isFalse => cases h
 case isTrue hq =>
 obtain ⟨hw1, hw2, hh1, hh2, hbl, hbb⟩ := hq
 obtain ⟨wd, rfl⟩ : ∃ wd : Nat, a0_0 = (wd : Int) := ⟨a0_0.toNat, by omega⟩
 obtain ⟨R, rfl⟩ : ∃ R : Nat, a0_1 = (R : Int) := ⟨a0_1.toNat, by omega⟩
 rw [← Int.natCast_mul] at hbl
 rw [Int.toNat_natCast, Int.toNat_natCast] at h
 obtain rfl := Option.some.inj h
 have hrw : R * wd ≤ 900 := Nat.le_trans (Nat.mul_le_mul (show R ≤ 30 by omega) (show wd ≤ 30 by omega)) (by decide)
 obtain ⟨cs, hcs⟩ : ∃ cs, cs = [old w w.heap.size] := ⟨_, rfl⟩
 have hp : Hp w cs w := by rw [hcs]; exact Hp.old_start w
 have hc2 : ∀ W, Hp w cs W → Below w.heap.size w W := fun W h => by rw [hcs] at h; exact h.since 0 _ rfl
 have hC0_2 : ∀ W, Hp w cs W → Kd.C (Kd.int .i64) W A0_2 l0_2.length l0_2 := fun W h => Kd.C_below hr0_2 (hc2 W h)
 have hC1 : ∀ W, Hp w cs W → Kd.C (Kd.int .u8) W A1 l1.length l1 := fun W h => Kd.C_below hr1 (hc2 W h)
 clear hcs
 refine sx_enter (N := 32) (l := [.agg #[.int .i64 (wd : Int), .int .i64 (R : Int), .slice A0_2 l0_2.length c0_2], .slice A1 l1.length c1]) Tryz.func24 rfl rfl rfl ?_
 refine wp_seq ?_
 refine sx_region ?_
 refine sx_box 2 hp #[.int .i64 (wd : Int), .int .i64 (R : Int), .slice A0_2 l0_2.length c0_2] 44 (by rfl) (fun W => by kernel_rfl) ?_
 intro g_1 W_2 hp
 refine sx_rd 4 (.string (⟨#[]⟩ : ByteArray)) (by rfl) (by kernel_rfl) ?_
 refine sx_nil ?_
 refine ex_then_n ?_
 refine wp_seq ?_
 refine sx_region ?_
 refine sx_rd 5 (.string (⟨#[]⟩ : ByteArray)) (by rfl) (by kernel_rfl) ?_
 refine sx_nil ?_
 refine ex_then_n ?_
 refine wp_seq ?_
 refine wp_seq ?_
 refine sx_region ?_
 refine sx_rd 6 (.int .i64 0) (by rfl) (by kernel_rfl) ?_
 refine sx_nil ?_
 refine ex_then_n ?_
 refine wp_block ?_
 refine wp_loop_ghost (fun n_ a_ W => ∃ (r_ : List (Nat × Value)) (i : Nat) , n_ = R - i ∧ a_ = fr 32 ([(1, .slice A1 l1.length c1), (2, .pointer (some ⟨g_1, 0, none⟩)), (5, .string (formT wd i l1)), (6, .int .i64 (i : Int))] ++ r_) ∧ Hp w (blk g_1 #[.int .i64 (wd : Int), .int .i64 (R : Int), .slice A0_2 l0_2.length c0_2] 44 :: cs) W ∧ (i ≤ R)) _ ⟨_, 0, rfl, fr_front [(1, .slice A1 l1.length c1), (2, .pointer (some ⟨g_1, 0, none⟩)), (5, .string (formT wd 0 l1)), (6, .int .i64 0)] ⟨rfl, rfl, (by exact congrArg Value.string (show (⟨#[]⟩ : ByteArray) = (formT wd 0 l1) from rfl)), rfl, trivial⟩, (hp.take [0] 1 (by decide) (by simp)), Nat.zero_le _⟩ ?_
 rintro _ _ W_3 ⟨r_, i, rfl, rfl, hp, hi⟩
 have m4 : (i + 1) * wd = i * wd + wd := by rw [Nat.succ_mul]
 have m1 : i * wd ≤ R * wd := Nat.mul_le_mul_right wd hi
 have s1 := formT_size wd i l1
 have h47 : (⟨#[47]⟩ : ByteArray).size = 1 := rfl
 refine wp_seq ?_
 refine wp_seq ?_
 refine sx_region ?_
 refine sx_rd 7 (.int .i64 (i : Int)) (by rfl) (by kernel_rfl) ?_
 refine sx_rd 8 (.pointer (some ⟨g_1, 1, none⟩)) (by rfl) (by kernel_rfl) ?_
 refine sx_rd 9 (.int .i64 (R : Int)) (by rfl) (ld1 (t := 3) (p := (.tmp 8)) (by rfl) (by rfl) (by kernel_rfl) (hp.cell 0 (by rfl) 1 _ (by rfl))) ?_
 refine sx_rd 10 (.bool (decide ((i : Int) < (R : Int)))) (by rfl) (by kernel_rfl) ?_
 refine sx_nil ?_
 refine ex_then_n ?_
 refine sx_cond (decide ((i : Int) < (R : Int))) (by rfl) (fun c_4 => ?_) (fun c_4 => ?_)
 ·
  have c_4p := of_decide_eq_true c_4
  have m2 : (i + 1) * wd ≤ R * wd := Nat.mul_le_mul_right wd (by omega)
  have hso : (strOfNums ((l1.take ((i + 1) * wd)).drop (i * wd))).size = wd := by rw [strOf_size, List.length_drop, List.length_take]; omega
  refine wp_skip ?_
  refine ex_then_n ?_
  refine wp_seq ?_
  refine wp_block ?_
  refine wp_seq ?_
  refine wp_seq ?_
  refine sx_region ?_
  refine sx_rd 13 (.int .i64 (i : Int)) (by rfl) (by kernel_rfl) ?_
  refine sx_rd 14 (.bool (decide ((i : Int) > 0))) (by rfl) (by kernel_rfl) ?_
  refine sx_nil ?_
  refine ex_then_n ?_
  refine sx_cond (decide ((i : Int) > 0)) (by rfl) (fun c_5 => ?_) (fun c_5 => ?_)
  ·
   have c_5p := of_decide_eq_true c_5
   refine sx_region ?_
   refine sx_rd 15 (.string (formT wd i l1)) (by rfl) (by kernel_rfl) ?_
   refine sx_rd 16 (.string ((formT wd i l1) ++ (⟨#[47]⟩ : ByteArray))) (by rfl) (sadd_run (by rfl) (by rfl) (by rfl) (by first | (rw [h47]; omega) | (rw [hso]; omega) | (rw [app_size, h47, hso]; omega))) ?_
   refine sx_rd 5 (.string ((formT wd i l1) ++ (⟨#[47]⟩ : ByteArray))) (by rfl) (by kernel_rfl) ?_
   refine sx_nil ?_
   refine ex_then_n ?_
   refine sx_region ?_
   refine sx_rd 17 (.string ((formT wd i l1) ++ (⟨#[47]⟩ : ByteArray))) (by rfl) (by kernel_rfl) ?_
   refine sx_rd 18 (.slice A1 l1.length c1) (by rfl) (by kernel_rfl) ?_
   refine sx_rd 19 (.int .i64 (i : Int)) (by rfl) (by kernel_rfl) ?_
   refine sx_rd 20 (.pointer (some ⟨g_1, 0, none⟩)) (by rfl) (by kernel_rfl) ?_
   refine sx_rd 21 (.int .i64 (wd : Int)) (by rfl) (ld1 (t := 3) (p := (.tmp 20)) (by rfl) (by rfl) (by kernel_rfl) (hp.cell 0 (by rfl) 0 _ (by rfl))) ?_
   refine sx_rd 22 (.int .i64 ((i * wd : Nat) : Int)) (by rfl) (mul_run (by rfl) (by rfl) (by rfl) (Int.natCast_mul i wd).symm (by omega)) ?_
   refine sx_rd 23 (.int .i64 (i : Int)) (by rfl) (by kernel_rfl) ?_
   refine sx_rd 24 (.int .i64 ((i : Int) + 1)) (by rfl) (wr_ok (by omega) (by kernel_rfl)) ?_
   refine sx_rd 25 (.pointer (some ⟨g_1, 0, none⟩)) (by rfl) (by kernel_rfl) ?_
   refine sx_rd 26 (.int .i64 (wd : Int)) (by rfl) (ld1 (t := 3) (p := (.tmp 25)) (by rfl) (by rfl) (by kernel_rfl) (hp.cell 0 (by rfl) 0 _ (by rfl))) ?_
   refine sx_rd 27 (.int .i64 (((i + 1) * wd : Nat) : Int)) (by rfl) (mul_run (by rfl) (by rfl) (by rfl) (Int.natCast_mul (i + 1) wd).symm (by omega)) ?_
   have hcap_6 : l1.length ≤ c1 := hc1
   refine sx_rd 28 (.slice (if c1 = (i * wd : Nat) then A1 else Option.map (fun x => x.add ((i * wd : Nat) * 1)) A1) (((l1.take ((i + 1) * wd : Nat)).drop (i * wd : Nat)).length) (c1 - (i * wd : Nat))) (by rfl) (sl_lh (i * wd : Nat) ((i + 1) * wd : Nat) (sz := 1) (xs := l1) (by rfl) (by rfl) (by rfl) (by omega) (by rfl) (by omega) Tryz.underlying49 (by kernel_rfl) (by omega) (by omega) hcap_6) ?_
   refine sx_rd 29 (.string (strOfNums ((l1.take ((i + 1) * wd : Nat)).drop (i * wd : Nat)))) (by rfl) (convC_run (by rfl) (by rfl) Tryz.underlying49 Tryz.underlying5 Tryz.underlying9 (Kd.C_drop (Kd.C_take (hC1 _ hp.tail) (by omega)) (by simp; omega) (show (l1.take ((i + 1) * wd : Nat)).length ≤ c1 by simp; omega)) (by simp; omega) (fun x hx => hbb x (List.mem_of_mem_take (List.mem_of_mem_drop hx)))) ?_
   refine sx_rd 30 (.string (((formT wd i l1) ++ (⟨#[47]⟩ : ByteArray)) ++ (strOfNums ((l1.take ((i + 1) * wd : Nat)).drop (i * wd : Nat))))) (by rfl) (sadd_run (by rfl) (by rfl) (by rfl) (by first | (rw [h47]; omega) | (rw [hso]; omega) | (rw [app_size, h47, hso]; omega))) ?_
   refine sx_rd 5 (.string (((formT wd i l1) ++ (⟨#[47]⟩ : ByteArray)) ++ (strOfNums ((l1.take ((i + 1) * wd : Nat)).drop (i * wd : Nat))))) (by rfl) (by kernel_rfl) ?_
   refine sx_nil ?_
   refine ex_blk_n ?_
   refine ex_then_n ?_
   refine sx_region ?_
   refine sx_rd 11 (.int .i64 (i : Int)) (by rfl) (by kernel_rfl) ?_
   refine sx_rd 12 (.int .i64 ((i : Int) + 1)) (by rfl) (wr_ok (by omega) (by kernel_rfl)) ?_
   refine sx_rd 6 (.int .i64 ((i : Int) + 1)) (by rfl) (by kernel_rfl) ?_
   refine sx_nil ?_
   refine ex_then_n ?_
   have hq_7 : (((formT wd i l1) ++ (⟨#[47]⟩ : ByteArray)) ++ (strOfNums ((l1.take ((i + 1) * wd : Nat)).drop (i * wd : Nat)))) = (formT wd (i + 1) l1) := (by rw [strOf_ch]; exact (formT_next wd i l1 (by omega)).symm)
   exact ⟨_, (by omega), _, (i + 1), rfl, fr_front [(1, .slice A1 l1.length c1), (2, .pointer (some ⟨g_1, 0, none⟩)), (5, .string (formT wd (i + 1) l1)), (6, .int .i64 ((i + 1 : Nat) : Int))] ⟨rfl, rfl, congrArg Value.string hq_7, rfl, trivial⟩, (hp.take [0] 1 (by decide) (by simp)), (by omega)⟩
  ·
   have c_5p := of_decide_eq_false c_5
   refine wp_skip ?_
   refine ex_then_n ?_
   refine sx_region ?_
   refine sx_rd 17 (.string (formT wd i l1)) (by rfl) (by kernel_rfl) ?_
   refine sx_rd 18 (.slice A1 l1.length c1) (by rfl) (by kernel_rfl) ?_
   refine sx_rd 19 (.int .i64 (i : Int)) (by rfl) (by kernel_rfl) ?_
   refine sx_rd 20 (.pointer (some ⟨g_1, 0, none⟩)) (by rfl) (by kernel_rfl) ?_
   refine sx_rd 21 (.int .i64 (wd : Int)) (by rfl) (ld1 (t := 3) (p := (.tmp 20)) (by rfl) (by rfl) (by kernel_rfl) (hp.cell 0 (by rfl) 0 _ (by rfl))) ?_
   refine sx_rd 22 (.int .i64 ((i * wd : Nat) : Int)) (by rfl) (mul_run (by rfl) (by rfl) (by rfl) (Int.natCast_mul i wd).symm (by omega)) ?_
   refine sx_rd 23 (.int .i64 (i : Int)) (by rfl) (by kernel_rfl) ?_
   refine sx_rd 24 (.int .i64 ((i : Int) + 1)) (by rfl) (wr_ok (by omega) (by kernel_rfl)) ?_
   refine sx_rd 25 (.pointer (some ⟨g_1, 0, none⟩)) (by rfl) (by kernel_rfl) ?_
   refine sx_rd 26 (.int .i64 (wd : Int)) (by rfl) (ld1 (t := 3) (p := (.tmp 25)) (by rfl) (by rfl) (by kernel_rfl) (hp.cell 0 (by rfl) 0 _ (by rfl))) ?_
   refine sx_rd 27 (.int .i64 (((i + 1) * wd : Nat) : Int)) (by rfl) (mul_run (by rfl) (by rfl) (by rfl) (Int.natCast_mul (i + 1) wd).symm (by omega)) ?_
   have hcap_8 : l1.length ≤ c1 := hc1
   refine sx_rd 28 (.slice (if c1 = (i * wd : Nat) then A1 else Option.map (fun x => x.add ((i * wd : Nat) * 1)) A1) (((l1.take ((i + 1) * wd : Nat)).drop (i * wd : Nat)).length) (c1 - (i * wd : Nat))) (by rfl) (sl_lh (i * wd : Nat) ((i + 1) * wd : Nat) (sz := 1) (xs := l1) (by rfl) (by rfl) (by rfl) (by omega) (by rfl) (by omega) Tryz.underlying49 (by kernel_rfl) (by omega) (by omega) hcap_8) ?_
   refine sx_rd 29 (.string (strOfNums ((l1.take ((i + 1) * wd : Nat)).drop (i * wd : Nat)))) (by rfl) (convC_run (by rfl) (by rfl) Tryz.underlying49 Tryz.underlying5 Tryz.underlying9 (Kd.C_drop (Kd.C_take (hC1 _ hp.tail) (by omega)) (by simp; omega) (show (l1.take ((i + 1) * wd : Nat)).length ≤ c1 by simp; omega)) (by simp; omega) (fun x hx => hbb x (List.mem_of_mem_take (List.mem_of_mem_drop hx)))) ?_
   refine sx_rd 30 (.string ((formT wd i l1) ++ (strOfNums ((l1.take ((i + 1) * wd : Nat)).drop (i * wd : Nat))))) (by rfl) (sadd_run (by rfl) (by rfl) (by rfl) (by first | (rw [h47]; omega) | (rw [hso]; omega) | (rw [app_size, h47, hso]; omega))) ?_
   refine sx_rd 5 (.string ((formT wd i l1) ++ (strOfNums ((l1.take ((i + 1) * wd : Nat)).drop (i * wd : Nat))))) (by rfl) (by kernel_rfl) ?_
   refine sx_nil ?_
   refine ex_blk_n ?_
   refine ex_then_n ?_
   refine sx_region ?_
   refine sx_rd 11 (.int .i64 (i : Int)) (by rfl) (by kernel_rfl) ?_
   refine sx_rd 12 (.int .i64 ((i : Int) + 1)) (by rfl) (wr_ok (by omega) (by kernel_rfl)) ?_
   refine sx_rd 6 (.int .i64 ((i : Int) + 1)) (by rfl) (by kernel_rfl) ?_
   refine sx_nil ?_
   refine ex_then_n ?_
   have hq_9 : ((formT wd i l1) ++ (strOfNums ((l1.take ((i + 1) * wd : Nat)).drop (i * wd : Nat)))) = (formT wd (i + 1) l1) := (by obtain rfl : i = 0 := (by omega); rw [strOf_ch]; exact (formT_first wd l1).symm)
   exact ⟨_, (by omega), _, (i + 1), rfl, fr_front [(1, .slice A1 l1.length c1), (2, .pointer (some ⟨g_1, 0, none⟩)), (5, .string (formT wd (i + 1) l1)), (6, .int .i64 ((i + 1 : Nat) : Int))] ⟨rfl, rfl, congrArg Value.string hq_9, rfl, trivial⟩, (hp.take [0] 1 (by decide) (by simp)), (by omega)⟩
 ·
  have c_4p := of_decide_eq_false c_4
  refine wp_exit ?_
  refine ex_then_e (ex_then_e (ex_blk_here ?_))
  refine ex_then_n ?_
  refine wp_seq ?_
  refine sx_region ?_
  refine sx_rd 31 (.string (formT wd i l1)) (by rfl) (by kernel_rfl) ?_
  refine sx_rd 4 (.string (formT wd i l1)) (by rfl) (by kernel_rfl) ?_
  refine sx_nil ?_
  refine ex_then_n ?_
  refine wp_ret ?_
  refine sx_end (.string (formT wd i l1)) (res1 4 (by rfl)) ?_
  obtain rfl : i = R := by omega
  exact ⟨rfl, hc2 _ (hp.tail)⟩
end Go.Proofs.YtokkiiepddhkiaaGreatDoor.Hd
