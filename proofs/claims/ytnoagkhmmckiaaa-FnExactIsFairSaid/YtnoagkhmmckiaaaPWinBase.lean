/- What is known of a window. -/
import Derived.Test.YtnoagkhmmckiaaaPIsWindow
namespace Go.Proofs.Ytnoagkhmmckiaaa.Pure
open Go.RowKit Go.Proofs.Ytnoagkhmmckiaaa.Hd Go.Proofs.YtnoagkhmmckiaaaW.PrintWords Go.Proofs.YtnoagkhmmckiaaaW.PrintLast
set_option linter.unusedVariables false
set_option linter.unusedSimpArgs false
theorem winB_len {l : List Int} (h : winB l = true) : l.length = 8 := by
  unfold winB at h
  rw [Bool.and_eq_true] at h
  exact of_decide_eq_true h.1
theorem winB_all {l : List Int} (h : winB l = true) : ∀ x ∈ l, 0 ≤ x ∧ x ≤ 9 := by
  unfold winB at h
  rw [Bool.and_eq_true, Bool.and_eq_true, List.all_eq_true] at h
  intro x hx
  have := h.2.1 x hx
  simpa [inB] using this
theorem rd_mem {l : List Int} {i : Int} (h0 : 0 ≤ i) (h : i < l.length) : rd l i ∈ l := by
  obtain ⟨j, rfl⟩ : ∃ j : Nat, i = j := ⟨i.toNat, by omega⟩
  rw [rd_at (by omega)]; exact List.getElem_mem _

theorem inB_iff {a b n : Int} : inB a b n = true ↔ a ≤ n ∧ n ≤ b := by simp [inB]
end Go.Proofs.Ytnoagkhmmckiaaa.Pure
