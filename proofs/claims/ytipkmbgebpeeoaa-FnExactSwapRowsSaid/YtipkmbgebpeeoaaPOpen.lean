/- Arguments of whatever plain type, opened to the rows that the printed contracts speak of. -/
import Derived.Test.YtipkmbgebpeeoaaG0
import Derived.Deep.Slices
import Derived.Deep.Fields
import Derived.ChangeSame
import Derived.Lib.SmallJoins
namespace Go.Proofs.Ytipkmbgebpeeoaa.Open
open Go.RowKit Go.Proofs.Ytipkmbgebpeeoaa.Hd Go.Proofs.YtipkmbgebpeeoaaW.PrintWords Go.Proofs.YtipkmbgebpeeoaaW.PrintLast Go.ChangeShapes Go.WideShapes Go.Deep Go.Joins
set_option linter.unusedVariables false
set_option linter.unusedSimpArgs false
/-- Whatever reads as a value of type t is told by the kind d. -/
def Tells {α : Type} (P : Program) (d : Kd α) (t : TypeId) : Prop :=
  ∀ (H : Type) (enc : TypeId × Value → H) (w : World) (base : Nat) (spare : Nat → Bool) (held : Bool) (n : Nat) (cs : List Value) (x : DataW H × List MemPlace), DataW.trod enc P w base spare held n t cs = some x → ∃ a, d.K w a cs
section
variable {P : Program} {α β γ : Type}
theorem tells_int {t : TypeId} {k : IntKind} (ht : P.underlying t = some (.int k)) : Tells P (Kd.int k) t := by
  intro H enc w base spare held n cs x h
  obtain ⟨m, rfl, _, _⟩ := DataW.trod_int ht h
  exact ⟨m, rfl⟩
theorem tells_slice {d : Kd α} {t e : TypeId} (ht : P.underlying t = some (.slice e)) (hC : P.cellsOf e = d.sz) (he : Tells P d e) : Tells P (Kd.slice e d) t := by
  intro H enc w base spare held n cs x h
  rcases open_slice ht h with ⟨rfl, _⟩ | ⟨a, len, cap, m, n', D, Pl, rfl, hb, hl, hm, hmm, hx, hi⟩
  · exact ⟨[], none, 0, rfl, Nat.le_refl _, rfl, by simp, fun h0 => absurd h0 (by simp)⟩
  · have hlm : len ≤ m := by rw [hmm]; split <;> omega
    have hch : ∀ i, i < len → ∃ y : α, ∃ c, c.length = d.sz ∧ d.K w y c ∧ ∀ j u, c[j]? = some u → w.cell? (a.add (i * d.sz + j)) = some u := by
      intro i hil
      obtain ⟨cs', hc, ht'⟩ := hi i (by omega)
      rw [hC] at hc
      obtain ⟨y, hy⟩ := he H enc w base spare held n' cs' _ ht'
      obtain ⟨_, hcl, hat⟩ := World.cells?_some hc
      refine ⟨y, cs', hcl, hy, fun j u hj => ?_⟩
      have hjl : j < d.sz := by rw [← hcl]; exact (List.getElem?_eq_some_iff.1 hj).1
      rw [← Go.Deep.add_add, hat j hjl, hj]
    by_cases hz : len = 0
    · subst hz
      exact ⟨[], some a, cap, rfl, Nat.zero_le _, rfl, by simp, fun h0 => absurd h0 (by simp)⟩
    · obtain ⟨y0, _⟩ := hch 0 (by omega)
      haveI : Inhabited α := ⟨y0⟩
      obtain ⟨f, hf⟩ := choose_lt hch
      have hlen : ((List.range len).map f).length = len := by simp
      refine ⟨(List.range len).map f, some a, cap, by rw [hlen], by rw [hlen]; exact hl, ?_⟩
      rw [hlen]
      refine ⟨hlen, by unfold maxLen at hm; omega, fun _ => ⟨a, rfl, fun j p hj => ?_⟩⟩
      have hjl : j < len := by have := (List.getElem?_eq_some_iff.1 hj).1; rwa [hlen] at this
      have : p = f j := by simpa [hjl] using hj.symm
      subst this
      exact hf j hjl
/-- A slice argument. -/
theorem open_row {H : Type} {enc : TypeId × Value → H} {w : World} {base : Nat} {spare : Nat → Bool} {held : Bool} {d : Kd α} {t e : TypeId} (hT : Tells P (Kd.slice e d) t) {a : Option Addr} {len cap : Nat} {dd : DataW H} {p : List MemPlace}
    (h : DataW.Trod enc P w base spare held t (.slice a len cap) dd p) : ∃ l : List α, len = l.length ∧ l.length ≤ cap ∧ d.C w a l.length l := by
  obtain ⟨fuel, hf⟩ := h
  obtain ⟨l, A, c, hcs, hl, hC⟩ := hT H enc w base spare held fuel _ _ hf
  simp [Value.cells] at hcs
  obtain ⟨rfl, rfl, rfl⟩ := hcs
  exact ⟨l, rfl, hl, hC⟩
theorem rows_len {d : Kd α} {e : TypeId} {w : World} {A : Option Addr} {n : Nat} {l : List (List α)} (h : (Kd.slice e d).C w A n l) : ∀ x ∈ l, x.length ≤ 9223372036854775807 := by
  intro x hx
  obtain ⟨i, hi, rfl⟩ := List.getElem_of_mem hx
  have hn : 0 < n := by have := h.1; omega
  obtain ⟨ad, _, hc⟩ := h.2.2 hn
  obtain ⟨c, _, hK, _⟩ := hc i _ (List.getElem?_eq_getElem hi)
  obtain ⟨A0, c0, _, _, g0⟩ := hK
  exact g0.2.1
end
section
variable {H : Type} {enc : TypeId × Value → H} {P : Program} {w : World} {base : Nat} {spare : Nat → Bool} {held : Bool}
end
end Go.Proofs.Ytipkmbgebpeeoaa.Open
