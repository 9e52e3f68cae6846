/- Layouts, plain: the reference's taLayout, the program's pairs; IsLayout. -/
import Derived.Test.YtjhbnkplpaffoaaDoorPLayA
import Derived.Test.YtjhbnkplpaffoaaDoorPTab3
import Derived.Test.YtjhbnkplpaffoaaDoorG0
import Derived.Test.YtjhbnkplpaffoaaDoorG2
import Derived.Test.YtjhbnkplpaffoaaDoorG2
import Derived.Test.YtjhbnkplpaffoaaDoorG2
namespace Go.Proofs.YtjhbnkplpaffoaaDoor.Pure
open Go Go.RowKit Go.Proofs.YtjhbnkplpaffoaaDoor.Hd Go.Proofs.YtjhbnkplpaffoaaDoorW.PrintWords Go.Proofs.YtjhbnkplpaffoaaDoorW.PrintLast
set_option linter.unusedVariables false
set_option linter.unusedSimpArgs false
theorem lets_rows (s : ByteArray) : (rowsB s).flatMap bytesOf = lets s := by
  unfold lets rowsB flatB bytesOf
  rw [toList_mkB, List.flatMap_map, List.map_flatten, List.flatMap_def]
  simp only [toList_mkB]
theorem taRows_of_form {t sg : ByteArray} (h : formF (rowsB t) sg = true) : (taRowsF t).2 = true := by
  obtain ⟨h1, h2, h3, h4, h5⟩ := form_size h
  unfold formF at h
  rw [Bool.and_eq_true] at h
  unfold taRowsF taRowsR
  rw [if_neg (by omega), if_pos (List.all_eq_true.2 (fun r hr => by unfold rowOk; rw [h2 r hr]; simp; omega))]
  exact h.2
theorem lets_size {t : ByteArray} (h : (taRowsF t).2 = true) : (lets t).length = w0 (rowsB t) * (rowsB t).length ∧ 0 < w0 (rowsB t) ∧ w0 (rowsB t) * (rowsB t).length ≤ 30 := by
  obtain ⟨h1, h2, h3, h4⟩ := taRowsF_true h
  obtain ⟨g1, g2, g3⟩ := w0_le t
  have hr : ∀ r ∈ rowsB t, r.size = w0 (rowsB t) ∧ 0 < r.size := by
    intro r hr
    have := h3 r hr
    unfold rowOk at this
    simp only [Bool.and_eq_true, beq_iff_eq, bne_iff_ne, ne_eq] at this
    omega
  have hf : fits (rowsB t) = true := h4
  unfold fits at hf
  simp only [Bool.and_eq_true, decide_eq_true_eq] at hf
  have hlen : ∀ (T : List ByteArray), (∀ r ∈ T, r.size = w0 (rowsB t)) → (T.flatMap bytesOf).length = w0 (rowsB t) * T.length := by
    intro T
    induction T with
    | nil => intro _; simp
    | cons a q ih =>
      intro hT
      rw [List.flatMap_cons, List.length_append, ih (fun r hr => hT r (List.mem_cons_of_mem _ hr)), List.length_cons, Nat.mul_add, bytesOf_length, hT a (by simp)]
      omega
  have hl := hlen _ (fun r h => (hr r h).1)
  rw [lets_rows] at hl
  have := hr (rowsB t)[0] (List.getElem_mem g3)
  refine ⟨hl, by omega, ?_⟩
  rw [Nat.mul_comm]
  exact hf.2
end Go.Proofs.YtjhbnkplpaffoaaDoor.Pure
