/- HandsOfTable: the hand that marks on tiles tell, its text; plain. -/
import Derived.Test.YtokkiiepddhkiaaGreatDoorPApA
import Derived.Test.YtokkiiepddhkiaaGreatDoorMHtM
import Derived.Test.YtokkiiepddhkiaaGreatDoorMSorted
import Derived.Test.YtokkiiepddhkiaaGreatDoorMStrJ
import Derived.Test.YtokkiiepddhkiaaGreatDoorG2
import Derived.Test.YtokkiiepddhkiaaGreatDoorPTile0
import Derived.Lib.Join
import Derived.Test.YtokkiiepddhkiaaGreatDoorPTile
import Derived.Test.YtokkiiepddhkiaaGreatDoorG1
namespace Go.Proofs.YtokkiiepddhkiaaGreatDoor.Pure
open Go.RowKit Go.Proofs.YtokkiiepddhkiaaGreatDoor.Hd Go.Proofs.YtokkiiepddhkiaaGreatDoorW.PrintWords Go.Proofs.YtokkiiepddhkiaaGreatDoorW.PrintLast
set_option linter.unusedVariables false
set_option linter.unusedSimpArgs false
/-- The tiles with the lesser number lo and the greater one hi, hi + 1, .. (d of them). -/
def rowT (lo hi : Nat) : Nat → List S_Tile
  | 0 => []
  | d + 1 => ⟨lo, hi⟩ :: rowT lo (hi + 1) d
/-- The tiles with lesser numbers lo, lo + 1, .. (d of them), the greater one up to n. -/
def rowsT (n lo : Nat) : Nat → List S_Tile
  | 0 => []
  | d + 1 => rowT lo lo (n + 1 - lo) ++ rowsT n (lo + 1) d
def setT (n : Nat) : List S_Tile := rowsT n 0 (n + 1)
theorem rowT_len (lo hi d : Nat) : (rowT lo hi d).length = d := by
  induction d generalizing hi with
  | zero => rfl
  | succ d ih => simp [rowT, ih]
theorem rowsT_len (n lo d : Nat) : (rowsT n lo d).length ≤ (n + 1) * d := by
  induction d generalizing lo with
  | zero => simp [rowsT]
  | succ d ih =>
    have h1 := ih (lo + 1)
    simp only [rowsT, List.length_append, rowT_len, Nat.mul_succ]
    have : n + 1 - lo ≤ n + 1 := Nat.sub_le _ _
    omega
theorem setT_len {n : Nat} (h : n ≤ 9) : (setT n).length ≤ 100 := by
  have h1 := rowsT_len n 0 (n + 1)
  have : (n + 1) * (n + 1) ≤ 10 * 10 := Nat.mul_le_mul (by omega) (by omega)
  unfold setT; omega
theorem rowT_mem (lo hi d : Nat) (t : S_Tile) : t ∈ rowT lo hi d ↔ t.f0 = lo ∧ (hi : Int) ≤ t.f1 ∧ t.f1 < hi + d := by
  induction d generalizing hi with
  | zero => simp only [rowT, List.not_mem_nil, false_iff]; omega
  | succ d ih =>
    simp only [rowT, List.mem_cons, ih]
    obtain ⟨a, b⟩ := t
    simp only [S_Tile.mk.injEq]
    omega
theorem rowsT_mem (n lo d : Nat) (t : S_Tile) (h : lo + d = n + 1) : t ∈ rowsT n lo d ↔ (lo : Int) ≤ t.f0 ∧ t.f0 ≤ t.f1 ∧ t.f1 ≤ n := by
  induction d generalizing lo with
  | zero => simp only [rowsT, List.not_mem_nil, false_iff]; omega
  | succ d ih =>
    simp only [rowsT, List.mem_append, rowT_mem, ih (lo + 1) (by omega)]
    omega
theorem setT_mem (n : Nat) (t : S_Tile) : t ∈ setT n ↔ 0 ≤ t.f0 ∧ t.f0 ≤ t.f1 ∧ t.f1 ≤ n := by
  unfold setT
  have := rowsT_mem n 0 (n + 1) t (by omega)
  simpa using this
theorem setT_good (t : S_Tile) : t ∈ setT 9 ↔ goodT t = true := by
  rw [setT_mem]
  simp only [goodT, Bool.and_eq_true, decide_eq_true_eq, and_assoc]
  omega
theorem tiSet_l0 (n : Nat) (hn : n ≤ 9) : ∀ (d lo : Nat) (acc : List S_Tile), lo + d = n + 1 → acc.length + 10 * d ≤ 500 → Ev (fun k => spec_tiSet.l0 k (n : Int) acc (lo : Int)) (acc ++ rowsT n lo d) := by
  intro d
  induction d with
  | zero =>
    intro lo acc h1 h2
    refine Ev.succ ?_
    simp only [spec_tiSet.l0]
    exact Ev.neg (by omega) (Ev.ret (by simp [rowsT]))
  | succ d ih =>
    intro lo acc h1 h2
    refine Ev.succ ?_
    simp only [spec_tiSet.l0]
    refine Ev.pos (by omega) ?_
    have key : ∀ (d2 hi : Nat) (acc : List S_Tile), hi + d2 = n + 1 → acc.length + d2 + 10 * d ≤ 500 → Ev (fun k => spec_tiSet.l1 k (n : Int) acc (lo : Int) (hi : Int)) (acc ++ rowT lo hi d2 ++ rowsT n (lo + 1) d) := by
      intro d2
      induction d2 with
      | zero =>
        intro hi acc h1' h2'
        refine Ev.succ ?_
        simp only [spec_tiSet.l1]
        rw [w64' (n := (lo : Int) + 1) (m := ((lo + 1 : Nat) : Int)) (by omega) (by omega) (by omega)]
        refine Ev.neg (by omega) ?_
        simp only [rowT, List.append_nil]
        exact ih (lo + 1) acc (by omega) (by omega)
      | succ d2 ih2 =>
        intro hi acc h1' h2'
        refine Ev.succ ?_
        simp only [spec_tiSet.l1]
        rw [w64' (n := (hi : Int) + 1) (m := ((hi + 1 : Nat) : Int)) (by omega) (by omega) (by omega)]
        have hh := ih2 (hi + 1) (acc ++ [⟨lo, hi⟩]) (by omega) (by simp only [List.length_append, List.length_cons, List.length_nil]; omega)
        simp only [List.append_assoc] at hh ⊢
        exact Ev.pos (by omega) (Ev.pos (by omega) hh)
    have := key (n + 1 - lo) lo acc (by omega) (by omega)
    rw [List.append_assoc] at this
    exact this
theorem tiSet_ev (n : Nat) (hn : n ≤ 9) : Ev (fun k => spec_tiSet.f k (n : Int)) (setT n) := by
  unfold spec_tiSet.f
  exact tiSet_l0 n hn (n + 1) 0 [] (by omega) (by simp only [List.length_nil]; omega)
/-- Those of a list that are in another one exactly if they should be. -/
def keepT (b : List S_Tile) (inn : Bool) (l : List S_Tile) : List S_Tile := l.filter fun t => decide (t ∈ b) == inn
theorem keepT_take (b : List S_Tile) (inn : Bool) (l : List S_Tile) (i : Nat) (h : i < l.length) : keepT b inn (l.take (i + 1)) = keepT b inn (l.take i) ++ (if (decide (l[i] ∈ b) == inn) = true then [l[i]] else []) := by
  unfold keepT
  rw [List.take_succ_eq_append_getElem h, List.filter_append]
  congr 1
  simp only [List.filter_cons, List.filter_nil]
theorem keepT_len (b : List S_Tile) (inn : Bool) (l : List S_Tile) : (keepT b inn l).length ≤ l.length := List.length_filter_le _ _
theorem idx_dec (b : List S_Tile) (t : S_Tile) : decide (idxT b t ≥ 0) = decide (t ∈ b) := by rw [decide_eq_decide]; exact idxT_ge b t
theorem tiPick_l0 (b : List S_Tile) (hb : b.length ≤ 1048576) (inn : Bool) (l : List S_Tile) (hl : l.length ≤ 1048576) : ∀ (d i : Nat), i + d = l.length →
    Ev (fun k => spec_tiPick.l0 k b inn (keepT b inn (l.take i)) l (l.length : Int) (i : Int)) (keepT b inn l) := by
  intro d
  induction d with
  | zero =>
    intro i hi
    refine Ev.succ ?_
    simp only [spec_tiPick.l0]
    exact Ev.neg (by omega) (Ev.ret (by rw [List.take_of_length_le (by omega)]))
  | succ d ih =>
    intro i hi
    refine Ev.succ ?_
    have hlt : i < l.length := by omega
    have h2 := keepT_len b inn (l.take i)
    rw [List.length_take] at h2
    have hk := keepT_take b inn l i hlt
    have hh := ih (i + 1) (by omega)
    simp only [spec_tiPick.l0]
    rw [rdT_at hlt, w64' (n := (i : Int) + 1) (m := ((i + 1 : Nat) : Int)) (by omega) (by omega) (by omega)]
    refine Ev.pos (by omega) (Ev.pos (by omega) (Ev.pos (by omega) (Ev.bd (tiPlace_ev b (by omega) l[i]) ?_)))
    simp only [idx_dec]
    by_cases c : (decide (l[i] ∈ b) == inn) = true
    · rw [if_pos c] at hk
      refine Ev.pos c (Ev.pos (by omega) ?_)
      rw [hk] at hh
      exact hh
    · rw [if_neg c, List.append_nil] at hk
      rw [hk] at hh
      exact Ev.neg c hh
theorem tiPick_ev (n : Nat) (hn : n ≤ 9) (b : List S_Tile) (hb : b.length ≤ 1048576) (inn : Bool) : Ev (fun k => spec_tiPick.f k (n : Int) b inn) (keepT b inn (setT n)) := by
  unfold spec_tiPick.f
  have := setT_len hn
  exact Ev.bd (tiSet_ev n hn) (tiPick_l0 b hb inn (setT n) (by omega) (setT n).length 0 (by omega))
/-- A hand sorted. -/
def sortT (l : List S_Tile) : List S_Tile := keepT l true (setT 9)
theorem sortT_len (l : List S_Tile) : (sortT l).length ≤ 100 := Nat.le_trans (keepT_len _ _ _) (setT_len (by omega))
theorem tiSort_ev (l : List S_Tile) (hl : l.length ≤ 1048576) : Ev (fun k => spec_tiSort.f k l) (sortT l) := by
  unfold spec_tiSort.f
  exact Ev.bd (tiPick_ev 9 (by omega) l hl true) (Ev.ret rfl)
theorem sortT_mem (l : List S_Tile) (t : S_Tile) : t ∈ sortT l ↔ t ∈ l ∧ goodT t = true := by
  unfold sortT keepT
  rw [List.mem_filter, setT_good]
  simp only [beq_true, decide_eq_true_eq]
  exact And.comm
end Go.Proofs.YtokkiiepddhkiaaGreatDoor.Pure
namespace Go.Proofs.YtokkiiepddhkiaaGreatDoor.Pure
open Go Go.RowKit Go.Proofs.YtokkiiepddhkiaaGreatDoor.Hd Go.Proofs.YtokkiiepddhkiaaGreatDoorW.PrintWords Go.Proofs.YtokkiiepddhkiaaGreatDoorW.PrintLast
set_option linter.unusedVariables false
set_option linter.unusedSimpArgs false
def dgU (n : Int) : UInt8 := UInt8.ofNat (48 + n.toNat)
def tlU (t : S_Tile) : List UInt8 := [dgU t.f0, dgU t.f1]
def handU (l : List S_Tile) : List UInt8 := if l.length = 0 then [45] else Lib.join (l.map tlU) [44]
theorem good_bdU {t : S_Tile} (h : goodT t = true) : (0 ≤ t.f0 ∧ t.f0 ≤ 9) ∧ 0 ≤ t.f1 ∧ t.f1 ≤ 9 := by
  unfold goodT at h
  simp only [Bool.and_eq_true, decide_eq_true_eq] at h
  omega
end Go.Proofs.YtokkiiepddhkiaaGreatDoor.Pure
namespace Go.Proofs.YtokkiiepddhkiaaGreatDoor.Pure
open Go Go.RowKit Go.Proofs.YtokkiiepddhkiaaGreatDoor.Hd Go.Proofs.YtokkiiepddhkiaaGreatDoorW.PrintWords Go.Proofs.YtokkiiepddhkiaaGreatDoorW.PrintLast
set_option linter.unusedVariables false
set_option linter.unusedSimpArgs false
def mkU (l : List UInt8) : ByteArray := ⟨l.toArray⟩
theorem mkU_list (l : List UInt8) : (mkU l).data.toList = l := by simp [mkU]
theorem numU {n : Int} (h0 : 0 ≤ n) (h9 : n ≤ 9) : UInt8.ofNat ((wrap64 (48 + n)) % 256).toNat = dgU n := by
  have e : wrap64 (48 + n) = 48 + n := w64' rfl (by omega) (by omega)
  rw [e]
  unfold dgU
  congr 1
  omega
theorem strU (l : List Int) : strOfNums l = mkU (l.map fun n => UInt8.ofNat n.toNat) := by
  first | rfl | (unfold strOfNums mkU; simp)
theorem digitsU {t : S_Tile} (h : goodT t = true) : impl_Tile_digits.f t.f0 t.f1 = some (mkU (tlU t)) := by
  obtain ⟨⟨a, b⟩, c, d⟩ := good_bdU h
  unfold impl_Tile_digits.f
  rw [strU]
  simp only [List.map_cons, List.map_nil, numU a b, numU c d]
  rfl
theorem handText_l0 (l : List S_Tile) (hl : l.length ≤ 1000) (hg : ∀ t ∈ l, goodT t = true) (hj : strings_Join.f (l.map fun t => mkU (tlU t)) (⟨#[44]⟩ : ByteArray) = some (mkU (Lib.join (l.map tlU) [44]))) : ∀ (d i : Nat), i + d = l.length → Ev (fun k => impl_handText.l0 k ((l.take i).map fun t => mkU (tlU t)) l (l.length : Int) (i : Int)) (mkU (Lib.join (l.map tlU) [44])) := by
  intro d
  induction d with
  | zero =>
    intro i hi
    refine Ev.succ ?_
    simp only [impl_handText.l0]
    rw [List.take_of_length_le (by omega)]
    exact Ev.neg (by omega) (Ev.bs hj (Ev.ret rfl))
  | succ d ih =>
    intro i hi
    have hlt : i < l.length := by omega
    refine Ev.succ ?_
    simp only [impl_handText.l0]
    rw [rdT_at hlt, w64' (n := (i : Int) + 1) (m := ((i + 1 : Nat) : Int)) (by omega) (by omega) (by omega)]
    have h2 := ih (i + 1) (by omega)
    rw [List.take_succ_eq_append_getElem hlt, List.map_append] at h2
    exact Ev.pos (by omega) (Ev.pos (by omega) (Ev.pos (by omega) (Ev.bs (digitsU (hg _ (List.getElem_mem hlt))) (Ev.pos (by simp; omega) h2))))
theorem joinU_len : ∀ (l : List S_Tile), (Lib.joinTail [44] (l.map tlU)).length = 3 * l.length
  | [] => rfl
  | a :: l => by
    have h := joinU_len l
    simp only [Lib.joinTail, List.map_cons, List.flatten_cons, tlU, List.cons_append, List.nil_append, List.length_cons] at h ⊢
    omega
theorem handText_ev (l : List S_Tile) (hl : l.length ≤ 1000) (hg : ∀ t ∈ l, goodT t = true) : Ev (fun k => impl_handText.f k l) (mkU (handU l)) := by
  unfold impl_handText.f
  by_cases h : l.length = 0
  · refine Ev.pos (by omega) (Ev.ret ?_)
    unfold handU
    rw [if_pos h]; rfl
  · refine Ev.neg (by omega) ?_
    unfold handU
    rw [if_neg h]
    refine handText_l0 l hl hg ?_ l.length 0 (by omega)
    have em : (l.map fun t => mkU (tlU t)).map (·.data.toList) = l.map tlU := by
      rw [List.map_map]
      exact List.map_congr_left fun t _ => mkU_list _
    have hj : (Lib.join (l.map tlU) [44]).length ≤ 3 * l.length := by
      cases l with
      | nil => simp at h
      | cons a l =>
        rw [List.map_cons, Lib.join_cons, List.length_append, joinU_len]
        simp [tlU]; omega
    have e44 : ((⟨#[44]⟩ : ByteArray).data.toList) = [44] := rfl
    unfold strings_Join.f
    rw [em, e44, if_pos ⟨by simp; omega, by omega⟩]
    rfl
theorem sortT_goodU (l : List S_Tile) : ∀ t ∈ sortT l, goodT t = true := fun t ht => ((sortT_mem l t).1 ht).2
theorem handText_sort (l : List S_Tile) : Ev (fun k => impl_handText.f k (sortT l)) (mkU (handU (sortT l))) :=
  handText_ev _ (Nat.le_trans (sortT_len l) (by omega)) (sortT_goodU l)
end Go.Proofs.YtokkiiepddhkiaaGreatDoor.Pure
namespace Go.Proofs.YtokkiiepddhkiaaGreatDoor.Pure
open Go.RowKit Go.Proofs.YtokkiiepddhkiaaGreatDoor.Hd Go.Proofs.YtokkiiepddhkiaaGreatDoorW.PrintWords Go.Proofs.YtokkiiepddhkiaaGreatDoorW.PrintLast
set_option linter.unusedVariables false
set_option linter.unusedSimpArgs false
theorem leT_iff (x y : S_Tile) : leT x y = true ↔ x.f0 < y.f0 ∨ (x.f0 = y.f0 ∧ x.f1 ≤ y.f1) := by unfold leT; rw [decide_eq_true_iff]
theorem leT_anti (x y : S_Tile) (h1 : leT x y = true) (h2 : leT y x = true) : x = y := by
  rw [leT_iff] at h1 h2
  obtain ⟨a, b⟩ := x
  obtain ⟨c, d⟩ := y
  dsimp only at h1 h2
  obtain ⟨rfl, rfl⟩ : a = c ∧ b = d := by omega
  rfl
theorem setT_pair : (setT 9).Pairwise (fun x y => leT x y = true ∧ x ≠ y) := of_decide_eq_true (by kernel_rfl)
theorem hand_t10 {l : List S_Tile} (h : l.all goodT = true) : l.all t10 = true := by
  rw [List.all_eq_true] at h ⊢
  intro t ht
  have := h t ht
  unfold goodT at this
  simp only [Bool.and_eq_true, decide_eq_true_eq] at this
  rw [t10_iff]; omega
theorem sort_eq {l : List S_Tile} (hg : l.all goodT = true) (hd : l.Nodup) : l.mergeSort leT = sortT l := by
  have h1 : (sortT l).Pairwise (fun x y => leT x y = true ∧ x ≠ y) := by unfold sortT keepT; exact setT_pair.filter _
  have hn : (sortT l).Nodup := h1.imp (fun h => h.2)
  refine List.Perm.eq_of_pairwise (le := fun x y => leT x y = true) (fun a b _ _ => leT_anti a b) ?_ (h1.imp fun h => h.1) ?_
  · exact List.pairwise_mergeSort (fun a b c h1 h2 => by rw [leT_iff] at *; omega) (fun a b => by
      rw [Bool.or_eq_true, leT_iff, leT_iff]; omega) l
  · refine (List.mergeSort_perm l leT).trans ?_
    rw [List.perm_ext_iff_of_nodup hd hn]
    intro t
    rw [sortT_mem]
    exact ⟨fun h => ⟨h, List.all_eq_true.1 hg t h⟩, fun h => h.1⟩
theorem sorted_eq {l : List S_Tile} (hg : l.all goodT = true) (hd : l.Nodup) (hl : l.length ≤ 8388608) : impl_sorted.f l = some (sortT l) := by
  unfold impl_sorted.f
  rw [if_pos ⟨hand_t10 hg, hl⟩, sort_eq hg hd]
end Go.Proofs.YtokkiiepddhkiaaGreatDoor.Pure
namespace Go.Proofs.YtokkiiepddhkiaaGreatDoor.Pure
open Go Go.RowKit Go.Proofs.YtokkiiepddhkiaaGreatDoor.Hd Go.Proofs.YtokkiiepddhkiaaGreatDoorW.PrintWords Go.Proofs.YtokkiiepddhkiaaGreatDoorW.PrintLast
set_option linter.unusedVariables false
set_option linter.unusedSimpArgs false
/-- The hand of the marked tiles, in order, and its text. -/
def handM (m : S_Tile → Bool) : List S_Tile := (setT 9).filter m
def mtx (m : S_Tile → Bool) : ByteArray := mkU (handU (handM m))
theorem goodT_set {t : S_Tile} : goodT t = true ↔ t ∈ setT 9 := by
  rw [setT_mem]
  unfold goodT
  simp only [Bool.and_eq_true, decide_eq_true_eq]
  omega
theorem sort_handM {l : List S_Tile} {m : S_Tile → Bool} (h : ∀ x, x ∈ l ↔ goodT x = true ∧ m x = true) : sortT l = handM m := by
  unfold sortT keepT handM
  refine List.filter_congr fun t ht => ?_
  have q := h t
  rw [goodT_set] at q
  by_cases c : t ∈ l
  · simp [c, (q.1 c).2]
  · cases hm : m t with
    | true => exact absurd (q.2 ⟨ht, hm⟩) c
    | false => simp [c]
theorem hand_len {l : List S_Tile} (hd : l.Nodup) (hg : ∀ t ∈ l, goodT t = true) : l.length ≤ 100 := by
  have hn : (sortT l).Nodup := by unfold sortT keepT; exact (setT_pair.filter _).imp (fun h => h.2)
  have hp : l.Perm (sortT l) := by
    rw [List.perm_ext_iff_of_nodup hd hn]
    intro t
    rw [sortT_mem]
    exact ⟨fun h => ⟨h, hg t h⟩, fun h => h.1⟩
  rw [hp.length_eq]
  exact sortT_len l
theorem hand_mtx {l : List S_Tile} {m : S_Tile → Bool} (h : sortT l = handM m) : Ev (fun k => impl_handText.f k (sortT l)) (mtx m) := by
  have q := handText_sort l
  rw [h] at q
  rw [h]
  exact q
theorem handU_len (l : List S_Tile) : (handU l).length ≤ 3 * l.length + 1 := by
  unfold handU
  split
  · simp
  · rename_i q
    cases l with
    | nil => simp at q
    | cons a l =>
      rw [List.map_cons, Lib.join_cons, List.length_append, joinU_len]
      simp [tlU]; omega
theorem mtx_size (m : S_Tile → Bool) : (mtx m).size ≤ 1000 := by
  have h1 := handU_len (handM m)
  have h2 : (handM m).length ≤ 100 := Nat.le_trans (List.length_filter_le _ _) (setT_len (by omega))
  unfold mtx
  rw [size_len, mkU_list]
  omega
theorem tilT_gt {s : ByteArray} (h : isTab s = true) {i j : Nat} (hi : i < (cells s).length) (hj : j < (cells s).length) : goodT (tilT s i j) = true := by
  have h1 := (cell_at h i hi).2
  have h2 := (cell_at h j hj).2
  unfold tilT tileAt tileN mn mx goodT
  simp only [Bool.and_eq_true, decide_eq_true_eq]
  refine ⟨⟨?_, ?_⟩, ?_⟩ <;> (repeat' split) <;> omega
/-- The search that HandsOfTable makes. -/
def seaH (s : ByteArray) : Sea ((S_Tile → Bool) × List ByteArray) := markS (tilT s) false (fun m L _ => (true, addTx L (mtx m)))
def htR (s : ByteArray) : List ByteArray := (layG (seaH s) (w0 (rowsB s) : Int) (cells s).length 31 (List.replicate (cells s).length 0) 0 (fun _ => false, [])).2.2
end Go.Proofs.YtokkiiepddhkiaaGreatDoor.Pure
