/- Plain words on 'Ev' (a printed function's answer from some number of rounds on). -/
import Derived.Test.YtkjaahmlnbgnjaaG0
namespace Go.Proofs.Ytkjaahmlnbgnjaa.Pure
open Go.RowKit Go.Proofs.Ytkjaahmlnbgnjaa.Hd Go.Proofs.YtkjaahmlnbgnjaaW.PrintWords Go.Proofs.YtkjaahmlnbgnjaaW.PrintLast
set_option linter.unusedVariables false
set_option linter.unusedSimpArgs false
theorem Ev.succ {α : Type} {g : Nat → Option α} {r : α} (h : Ev (fun k => g (k + 1)) r) : Ev g r := by
  obtain ⟨K, h⟩ := h
  refine ⟨K + 1, fun k hk => ?_⟩
  obtain ⟨m, rfl⟩ : ∃ m, k = m + 1 := ⟨k - 1, by omega⟩
  exact h m (by omega)
theorem Ev.ret {α : Type} {r r' : α} (h : r' = r) : Ev (fun _ => some r') r := h ▸ Ev.now r'
theorem Ev.fin {g : Nat → Option Bool} (h : Ev g true) : ∃ k, g k = some true := h.rounds

theorem rd_at {l : List Int} {i : Nat} (h : i < l.length) : rd l (i : Int) = l[i] := by simp [rd, h]
/-- What a list of numbers is marked with. -/
def marks : Nat → Int → List Int
  | 0, _ => []
  | n + 1, a => a :: marks n (a + 1)
end Go.Proofs.Ytkjaahmlnbgnjaa.Pure
