/- MirrorTable: what both sides answer. -/
import Derived.Test.YtjhbnkplpaffoaaDoorPGrid
import Derived.Test.YtjhbnkplpaffoaaDoorMMirT
import Derived.Test.YtjhbnkplpaffoaaDoorG2
namespace Go.Proofs.YtjhbnkplpaffoaaDoor.Pure
open Go Go.RowKit Go.Proofs.YtjhbnkplpaffoaaDoor.Hd Go.Proofs.YtjhbnkplpaffoaaDoorW.PrintWords Go.Proofs.YtjhbnkplpaffoaaDoorW.PrintLast
set_option linter.unusedVariables false
set_option linter.unusedSimpArgs false
def mirI (w i : Nat) : Nat := i / w * w + w - 1 - i % w
def mirC (w : Nat) (C : List Int) (n : Nat) : List Int := (List.range n).map (fun i => rd C ((mirI w i : Nat) : Int))
theorem mirC_succ (w : Nat) (C : List Int) (n : Nat) : mirC w C (n + 1) = mirC w C n ++ [rd C ((mirI w n : Nat) : Int)] := by
  unfold mirC
  rw [List.range_succ, List.map_append]
  rfl
theorem mirI_lt {w h i : Nat} (hw : 0 < w) (hi : i < h * w) : mirI w i < h * w ∧ i / w * w ≤ i := by
  have h1 := Nat.div_add_mod i w
  have hq : i / w < h := (Nat.div_lt_iff_lt_mul hw).2 hi
  have h2 : (i / w + 1) * w ≤ h * w := Nat.mul_le_mul_right _ hq
  rw [Nat.succ_mul] at h2
  have h3 := Nat.div_mul_le_self i w
  unfold mirI
  omega
theorem mir_sub (a w r m : Nat) (h : m = a + w - 1 - r) (hr : r < w) : (a : Int) + (w : Int) - 1 - (r : Int) = (m : Int) := by omega
theorem mir_idx (w i n : Nat) (hw : 0 < w) (hwl : w ≤ 1000) (hi : i < n) (hn : n ≤ 1000) : wrap64 (Int.tdiv (i : Int) (w : Int)) = ((i / w : Nat) : Int) ∧ wrap64 (((i / w : Nat) : Int) * (w : Int)) = ((i / w * w : Nat) : Int) ∧ wrap64 (((i / w * w : Nat) : Int) + (w : Int)) = ((i / w * w : Nat) : Int) + (w : Int) ∧ wrap64 (((i / w * w : Nat) : Int) + (w : Int) - 1) = ((i / w * w : Nat) : Int) + (w : Int) - 1 ∧ wrap64 (((i / w * w : Nat) : Int) + (w : Int) - 1 - ((i % w : Nat) : Int)) = ((mirI w i : Nat) : Int) := by
  have hmod : i % w < w := Nat.mod_lt _ hw
  have hdl : i / w ≤ i := Nat.div_le_self _ _
  have hdm : i / w * w ≤ i := Nat.div_mul_le_self _ _
  have hmi : mirI w i = i / w * w + w - 1 - i % w := rfl
  have ed : Int.tdiv (i : Int) (w : Int) = ((i / w : Nat) : Int) := by rw [Int.tdiv_eq_ediv_of_nonneg (by omega)]; exact (Int.natCast_ediv i w).symm
  have e5 := mir_sub (i / w * w) w (i % w) (mirI w i) hmi hmod
  have e1 : ((i / w : Nat) : Int) * (w : Int) = ((i / w * w : Nat) : Int) := (Int.natCast_mul _ _).symm
  have hml : mirI w i ≤ 3000 := by rw [hmi]; omega
  rw [ed, e5, e1]
  generalize i / w * w = a at *
  generalize i / w = q at *
  generalize mirI w i = m at *
  exact ⟨w64' rfl (by omega) (by omega), w64' rfl (by omega) (by omega), w64' rfl (by omega) (by omega), w64' rfl (by omega) (by omega), w64' rfl (by omega) (by omega)⟩
theorem spec_mir_l0 (w h : Nat) (C : List Int) (hw : 0 < w) (hn : C.length = h * w) (hl : C.length ≤ 1000) (hwl : w ≤ 1000) (res : ByteArray) (hK : Ev (fun k => spec_taDigits.f k (w : Int) (h : Int) (mirC w C C.length)) res) :
    ∀ (d i : Nat), i + d = C.length → Ev (fun k => spec_MirrorTable.l0 k (C.length : Int) (i : Int) (w : Int) (h : Int) C (w : Int) (h : Int) (mirC w C i)) (res, true) := by
  intro d
  induction d with
  | zero =>
    intro i h1
    refine Ev.succ ?_
    simp only [spec_MirrorTable.l0]
    obtain rfl : i = C.length := by omega
    exact Ev.neg (by omega) (Ev.bd hK (Ev.now _))
  | succ d ih =>
    intro i h1
    obtain ⟨m1, m2⟩ := mirI_lt (h := h) hw (show i < h * w by omega)
    obtain ⟨e0, e1, e2, e3, e4⟩ := mir_idx w i (h * w) hw hwl (by omega) (by omega)
    have em := tmod_nat i w
    have hh := ih (i + 1) (by omega)
    rw [mirC_succ] at hh
    have hlen : (mirC w C i).length = i := by simp [mirC]
    refine Ev.succ ?_
    simp only [spec_MirrorTable.l0]
    rw [e0, e1, e2, e3, em, e4, w64' (n := (i : Int) + 1) (m := ((i + 1 : Nat) : Int)) (by omega) (by omega) (by omega)]
    clear e0 e1 e2 e3 e4 em m2 ih hK
    generalize mirI w i = m at *
    have g1 : (i : Int) < (C.length : Int) := by omega
    have g2 : ¬ (w : Int) = 0 := by omega
    have g3 : (0 : Int) ≤ (m : Int) := by omega
    have g4 : (m : Int) < (C.length : Int) := by rw [hn]; omega
    have g5 : (mirC w C i).length < 17592186044416 := by rw [hlen]; omega
    exact Ev.pos g1 (Ev.neg g2 (Ev.pos g3 (Ev.pos g4 (Ev.pos g5 hh))))
theorem rd_mirC (w : Nat) (C : List Int) (n i : Nat) (hi : i < n) : rd (mirC w C n) (i : Int) = rd C ((mirI w i : Nat) : Int) := by
  have : i < (mirC w C n).length := by simp [mirC]; exact hi
  rw [rd_at this]
  simp [mirC]
theorem grid_mir (w h : Nat) (C : List Int) (hw : 0 < w) : gridD w h (mirC w C (h * w)) = (gridD w h C).map List.reverse := by
  unfold gridD
  rw [List.map_map]
  refine List.map_congr_left (fun y hy => ?_)
  rw [List.mem_range] at hy
  refine List.ext_getElem (by simp [rowD]) (fun x h1 h2 => ?_)
  have hx : x < w := by simpa [rowD] using h1
  have hk : y * w + x < h * w := by
    have h2 : (y + 1) * w ≤ h * w := Nat.mul_le_mul_right _ hy
    rw [Nat.succ_mul] at h2
    omega
  have hm : mirI w (y * w + x) = y * w + (w - 1 - x) := by
    have e1 : (y * w + x) / w = y := by rw [Nat.mul_comm, Nat.mul_add_div hw, Nat.div_eq_of_lt hx, Nat.add_zero]
    have e2 : (y * w + x) % w = x := by rw [Nat.mul_comm, Nat.mul_add_mod, Nat.mod_eq_of_lt hx]
    unfold mirI
    rw [e1, e2]
    omega
  simp only [rowD, Function.comp, List.getElem_map, List.getElem_range, List.getElem_reverse, List.length_map, List.length_range]
  rw [rd_mirC w C (h * w) (y * w + x) hk, hm]
theorem specMir_ev (s : ByteArray) (hs : s.size ≤ 1048576) : Ev (fun k => spec_MirrorTable.f k s) (mirF s) := by
  unfold spec_MirrorTable.f
  refine Ev.bd (taRead_ev s hs) ?_
  cases h : isTab s with
  | false =>
    rw [isTab_no h]
    refine Ev.neg (by simp) (Ev.ret ?_)
    unfold mirF
    rw [h, if_neg (by simp)]
  | true =>
    rw [isTab_tab h]
    obtain ⟨c1, c2, c3, c4⟩ := cells_n h
    have hn : (cells s).length = (rowsB s).length * w0 (rowsB s) := by rw [c1, Nat.mul_comm]
    have hwl : w0 (rowsB s) ≤ 1000 := by
      obtain ⟨h1, _⟩ := form_size h
      have := (w0_le s).1
      omega
    have hlen : (mirC (w0 (rowsB s)) (cells s) (cells s).length).length = (cells s).length := by simp [mirC]
    have hK := taDigits_ev (w0 (rowsB s)) (rowsB s).length (mirC (w0 (rowsB s)) (cells s) (cells s).length) c3 (fun k hk => by
      rw [hlen] at hk
      rw [rd_mirC _ _ _ _ hk]
      obtain ⟨m1, m2⟩ := mirI_lt (h := (rowsB s).length) c3 (show k < (rowsB s).length * w0 (rowsB s) by omega)
      exact cells_bd h _ (by omega)) (by omega) (by omega)
    have hk := spec_mir_l0 (w0 (rowsB s)) (rowsB s).length (cells s) c3 hn (by omega) hwl _ hK (cells s).length 0 (by omega)
    have e : mirF s = (⟨(Lib.join (gridD (w0 (rowsB s)) (rowsB s).length (mirC (w0 (rowsB s)) (cells s) (cells s).length)) [47]).toArray⟩, true) := by
      unfold mirF joinB
      rw [if_pos h, hn, grid_mir _ _ _ c3, ← rows_grid h, List.map_map, List.map_map]
      congr 3
    rw [e]
    exact Ev.pos rfl hk
theorem implMir_eq (s : ByteArray) (hs : s.size ≤ 1048576) : impl_MirrorTable.f s = some (mirF s) := if_pos hs
end Go.Proofs.YtjhbnkplpaffoaaDoor.Pure
