/- A table's rows and its cells: row y, place x is cell y * w + x; plain. -/
import Derived.Test.YtokkiiepddhkiaaDoorPDig
namespace Go.Proofs.YtokkiiepddhkiaaDoor.Pure
open Go Go.RowKit Go.Proofs.YtokkiiepddhkiaaDoor.Hd Go.Proofs.YtokkiiepddhkiaaDoorW.PrintWords Go.Proofs.YtokkiiepddhkiaaDoorW.PrintLast
set_option linter.unusedVariables false
set_option linter.unusedSimpArgs false
theorem flat_at (w : Nat) : ∀ (T : List (List UInt8)), (∀ r ∈ T, r.length = w) → ∀ y x, x < w → T.flatten[y * w + x]? = (T[y]?).bind (fun r => r[x]?) := by
  intro T
  induction T with
  | nil => intro _ y x _; simp
  | cons a t ih =>
    intro hT y x hx
    have ha : a.length = w := hT a (by simp)
    rw [List.flatten_cons]
    cases y with
    | zero =>
      rw [List.getElem?_append_left (by omega)]
      simp
    | succ y =>
      have e : (y + 1) * w + x - a.length = y * w + x := by rw [ha, Nat.succ_mul]; omega
      rw [List.getElem?_append_right (by rw [ha, Nat.succ_mul]; omega), e, ih (fun r hr => hT r (List.mem_cons_of_mem _ hr)) y x hx]
      rfl
theorem dgt_cel {b : UInt8} (h : dig b = true) : dgt (cel b) = b := by
  unfold dig at h
  rw [Bool.and_eq_true, decide_eq_true_eq, decide_eq_true_eq] at h
  unfold dgt cel
  have e : 48 + ((b.toNat : Int) - 48).toNat = b.toNat := by omega
  rw [e, UInt8.ofNat_toNat]
theorem rows_T {s : ByteArray} : (rowsB s).map (·.data.toList) = rowsOf s.data.toList := by
  unfold rowsB
  rw [List.map_map]
  have : ((fun x : ByteArray => x.data.toList) ∘ mkB) = id := by funext x; exact toList_mkB x
  rw [this, List.map_id]
theorem tab_rows {s : ByteArray} (h : isTab s = true) : (∀ r ∈ rowsOf s.data.toList, r.length = w0 (rowsB s) ∧ ∀ b ∈ r, dig b = true) ∧ (rowsOf s.data.toList).length = (rowsB s).length := by
  obtain ⟨h1, h2, h3, h4, h5⟩ := form_size h
  refine ⟨fun r hr => ?_, by unfold rowsB; simp⟩
  have hm : mkB r ∈ rowsB s := List.mem_map.2 ⟨r, hr, rfl⟩
  have a := h2 _ hm
  rw [mkB_size] at a
  refine ⟨a, fun b hb => ?_⟩
  unfold isTab formF at h
  rw [Bool.and_eq_true, List.all_eq_true] at h
  have c := h.1 _ hm
  unfold cellOk at c
  rw [Bool.and_eq_true, toList_mkB, List.all_eq_true] at c
  have := c.2 b hb
  rwa [digs_dig] at this
theorem cell_yx {s : ByteArray} (h : isTab s = true) (y x : Nat) (hy : y < (rowsOf s.data.toList).length) (hx : x < w0 (rowsB s)) :
    ∃ b, ((rowsOf s.data.toList)[y])[x]? = some b ∧ rd (cells s) ((y * w0 (rowsB s) + x : Nat) : Int) = cel b ∧ dig b = true := by
  obtain ⟨t1, t2⟩ := tab_rows h
  obtain ⟨hl, hd⟩ := t1 _ (List.getElem_mem hy)
  have hx2 : x < ((rowsOf s.data.toList)[y]).length := by omega
  refine ⟨((rowsOf s.data.toList)[y])[x], List.getElem?_eq_getElem hx2, ?_, hd _ (List.getElem_mem hx2)⟩
  have e := flat_at (w0 (rowsB s)) (rowsOf s.data.toList) (fun r hr => (t1 r hr).1) y x hx
  rw [List.getElem?_eq_getElem hy, Option.bind_some, List.getElem?_eq_getElem hx2] at e
  rw [cells_flat]
  unfold rd
  rw [Int.toNat_natCast, List.getD_eq_getElem?_getD, List.getElem?_map, e]
  rfl
theorem rows_grid {s : ByteArray} (h : isTab s = true) : (rowsB s).map (·.data.toList) = gridD (w0 (rowsB s)) (rowsB s).length (cells s) := by
  obtain ⟨t1, t2⟩ := tab_rows h
  rw [rows_T]
  refine List.ext_getElem (by simp [gridD, t2]) (fun y h1 h2 => ?_)
  have hl := (t1 _ (List.getElem_mem h1)).1
  have e1 : (gridD (w0 (rowsB s)) (rowsB s).length (cells s))[y] = rowD (w0 (rowsB s)) (cells s) y := by simp [gridD]
  rw [e1]
  refine List.ext_getElem (by simp [rowD, hl]) (fun x h3 h4 => ?_)
  obtain ⟨b, b1, b2, b3⟩ := cell_yx h y x h1 (by omega)
  have e2 : (rowD (w0 (rowsB s)) (cells s) y)[x] = dgt (rd (cells s) ((y * w0 (rowsB s) + x : Nat) : Int)) := by simp [rowD]
  rw [e2, b2, dgt_cel b3]
  rw [List.getElem?_eq_getElem h3] at b1
  exact Option.some.inj b1
theorem cells_bd {s : ByteArray} (h : isTab s = true) (i : Nat) (hi : i < (cells s).length) : 0 ≤ rd (cells s) (i : Int) ∧ rd (cells s) (i : Int) ≤ 9 := (cell_at h i hi).2
end Go.Proofs.YtokkiiepddhkiaaDoor.Pure
