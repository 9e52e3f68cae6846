/- TurnTable: the words of both sides (plain). -/
import Derived.Test.YtokkiiepddhkiaaDoorPGrid
import Derived.Test.YtokkiiepddhkiaaDoorPMirP
namespace Go.Proofs.YtokkiiepddhkiaaDoor.Pure
open Go Go.RowKit Go.Proofs.YtokkiiepddhkiaaDoor.Hd Go.Proofs.YtokkiiepddhkiaaDoorW.PrintWords Go.Proofs.YtokkiiepddhkiaaDoorW.PrintLast
set_option linter.unusedVariables false
set_option linter.unusedSimpArgs false
/-- The byte at place y of a text. -/
def byB (r : ByteArray) (y : Nat) : UInt8 := r.data.toList[y]?.getD 0
/-- The first k bytes of the turned row y: from the last row upwards. -/
def colR (R : List ByteArray) (y k : Nat) : List UInt8 := (List.range k).map fun x => byB (R[R.length - 1 - x]?.getD ByteArray.empty) y
def turnR (R : List ByteArray) (n : Nat) : List ByteArray := (List.range n).map fun y => mkB (colR R y R.length)
def turnF (s : ByteArray) : ByteArray × Bool := if isTab s = true then (joinB (turnR (rowsB s) (w0 (rowsB s))), true) else (⟨#[]⟩, false)
theorem colR_len (R : List ByteArray) (y k : Nat) : (colR R y k).length = k := by simp [colR]
theorem turnR_len (R : List ByteArray) (n : Nat) : (turnR R n).length = n := by simp [turnR]
def turnI (w h i : Nat) : Nat := (h - 1 - i % h) * w + i / h
def turnC (w h : Nat) (C : List Int) (n : Nat) : List Int := (List.range n).map (fun i => rd C ((turnI w h i : Nat) : Int))
theorem turnC_succ (w h : Nat) (C : List Int) (n : Nat) : turnC w h C (n + 1) = turnC w h C n ++ [rd C ((turnI w h n : Nat) : Int)] := by
  unfold turnC; rw [List.range_succ, List.map_append]; rfl
theorem turnC_len (w h : Nat) (C : List Int) (n : Nat) : (turnC w h C n).length = n := by simp [turnC]
theorem rd_turnC (w h : Nat) (C : List Int) (n i : Nat) (hi : i < n) : rd (turnC w h C n) (i : Int) = rd C ((turnI w h i : Nat) : Int) := by
  have : i < (turnC w h C n).length := by rw [turnC_len]; exact hi
  rw [rd_at this]
  simp [turnC]
theorem turnI_at {w h y x : Nat} (hx : x < h) : turnI w h (y * h + x) = (h - 1 - x) * w + y := by
  have e1 : (y * h + x) / h = y := by rw [Nat.mul_comm, Nat.mul_add_div (by omega), Nat.div_eq_of_lt hx, Nat.add_zero]
  have e2 : (y * h + x) % h = x := by rw [Nat.mul_comm, Nat.mul_add_mod, Nat.mod_eq_of_lt hx]
  unfold turnI
  rw [e1, e2]
theorem turn_lt {w h y x : Nat} (hx : x < h) (hy : y < w) : (h - 1 - x) * w + y < h * w := by
  have h2 : (h - 1 - x + 1) * w ≤ h * w := Nat.mul_le_mul_right _ (by omega)
  rw [Nat.succ_mul] at h2
  omega
theorem grid_turn {s : ByteArray} (h : isTab s = true) : (turnR (rowsB s) (w0 (rowsB s))).map (·.data.toList) = gridD (rowsB s).length (w0 (rowsB s)) (turnC (w0 (rowsB s)) (rowsB s).length (cells s) (w0 (rowsB s) * (rowsB s).length)) := by
  have hg := rows_grid h
  obtain ⟨w, hw⟩ : ∃ w, w = w0 (rowsB s) := ⟨_, rfl⟩
  obtain ⟨n, hn⟩ : ∃ n, n = (rowsB s).length := ⟨_, rfl⟩
  rw [← hw, ← hn] at hg ⊢
  unfold turnR gridD
  rw [List.map_map]
  refine List.map_congr_left fun y hy => ?_
  rw [List.mem_range] at hy
  show (mkB (colR (rowsB s) y (rowsB s).length)).data.toList = rowD n (turnC w n (cells s) (w * n)) y
  rw [toList_mkB, ← hn]
  unfold colR rowD
  refine List.map_congr_left fun x hx => ?_
  rw [List.mem_range] at hx
  have hlt : y * n + x < w * n := by
    have h2 : (y + 1) * n ≤ w * n := Nat.mul_le_mul_right _ hy
    rw [Nat.succ_mul] at h2
    omega
  rw [rd_turnC _ _ _ _ _ hlt, turnI_at hx, ← hn]
  have hj : n - 1 - x < (rowsB s).length := by omega
  have e1 : (rowsB s)[n - 1 - x].data.toList = rowD w (cells s) (n - 1 - x) := by
    have q : ((rowsB s).map (·.data.toList))[n - 1 - x]? = (gridD w n (cells s))[n - 1 - x]? := by rw [hg]
    rw [List.getElem?_map, List.getElem?_eq_getElem hj] at q
    unfold gridD at q
    rw [List.getElem?_map, List.getElem?_range (by omega)] at q
    exact Option.some.inj q
  unfold byB
  rw [List.getElem?_eq_getElem hj, Option.getD_some, e1]
  unfold rowD
  rw [List.getElem?_map, List.getElem?_range hy]
  rfl
theorem sumL_same2 {m : Nat} : ∀ l : List (List UInt8), (∀ r ∈ l, r.length ≤ m) → sumL l ≤ l.length * m := by
  intro l
  induction l with
  | nil => intro _; simp [sumL]
  | cons r l ih =>
    intro h
    have h1 := h r List.mem_cons_self
    have h2 := ih (fun x hx => h x (List.mem_cons_of_mem _ hx))
    simp only [sumL, List.length_cons, Nat.succ_mul]
    omega
theorem turn_sum (R : List ByteArray) (n : Nat) : sumL ((turnR R n).map (·.data.toList)) ≤ n * R.length := by
  have h := sumL_same2 (m := R.length) ((turnR R n).map (·.data.toList)) (fun r hr => by
    obtain ⟨b, hb, rfl⟩ := List.mem_map.1 hr
    unfold turnR at hb
    obtain ⟨y, _, rfl⟩ := List.mem_map.1 hb
    rw [toList_mkB, colR_len]
    exact Nat.le_refl _)
  rw [List.length_map, turnR_len] at h
  exact h
end Go.Proofs.YtokkiiepddhkiaaDoor.Pure
