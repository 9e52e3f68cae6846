/- The statements' own marker over rows of rows of ints. -/
import Derived.Test.YtnoagkhmmckiaaaPLawIntSS
import Derived.Test.YtnoagkhmmckiaaaPMarkInt
import Derived.Test.YtnoagkhmmckiaaaMMarkIntSS
namespace Go.Proofs.Ytnoagkhmmckiaaa.Pure
open Go.RowKit Go.Proofs.Ytnoagkhmmckiaaa.Hd Go.Proofs.YtnoagkhmmckiaaaW.PrintWords Go.Proofs.YtnoagkhmmckiaaaW.PrintLast
set_option linter.unusedVariables false
set_option linter.unusedSimpArgs false
theorem markIntSS_l0 (l : List (List Int)) (hl : l.length ≤ 1048576) (hr : ∀ x ∈ l, x.length ≤ 1048576) (B : Int) (hB : B ≤ 35184372088832) : ∀ (d i : Nat) (a : Int) (acc : List (List Int)), i + d = l.length → acc.length = l.length → acc.drop i = l.drop i → 0 ≤ a → a + ((l.drop i).flatten.length : Int) ≤ B →
    ∃ R, Ev (fun k => laws_markIntSS.l0 k acc a (i : Int)) (a + ((l.drop i).flatten.length : Int), R) := by
  intro d
  induction d with
  | zero =>
    intro i a acc hi ha he h0 h1
    refine ⟨acc, Ev.succ ?_⟩
    simp only [laws_markIntSS.l0]
    rw [List.drop_of_length_le (by omega)]
    exact Ev.neg (by omega) (Ev.ret (by simp))
  | succ d ih =>
    intro i a acc hi ha he h0 h1
    have hlt : i < l.length := by omega
    have hlt2 : i < acc.length := by omega
    have hx : l[i].length ≤ 1048576 := hr _ (List.getElem_mem hlt)
    have e1 := he
    rw [List.drop_eq_getElem_cons hlt, List.drop_eq_getElem_cons hlt2] at e1
    have ex : acc[i] = l[i] := (List.cons.inj e1).1
    have et : acc.drop (i + 1) = l.drop (i + 1) := (List.cons.inj e1).2
    have ef : ((l.drop i).flatten.length : Int) = l[i].length + ((l.drop (i + 1)).flatten.length : Int) := by rw [List.drop_eq_getElem_cons hlt, List.flatten_cons, List.length_append]; omega
    have hg : acc.getD i [] = l[i] := by rw [List.getD_eq_getElem?_getD, List.getElem?_eq_getElem hlt2, Option.getD_some, ex]
    obtain ⟨R, hR⟩ := ih (i + 1) (a + (l[i].length : Int)) (acc.set i (marks l[i].length a)) (by omega) (by rw [List.length_set]; exact ha) (by rw [List.drop_set_of_lt (by omega)]; exact et) (by omega) (by omega)
    refine ⟨R, Ev.succ ?_⟩
    simp only [laws_markIntSS.l0]
    refine Ev.pos (by omega) (Ev.pos (by omega) ?_)
    rw [Int.toNat_natCast, hg]
    refine Ev.bd (markIntS_ev l[i] a (by omega) h0 (by omega)) ?_
    rw [w64' (m := ((i + 1 : Nat) : Int)) (by omega) (by omega) (by omega), ef, ← Int.add_assoc]
    exact hR
theorem markIntSS_ev (l : List (List Int)) (a : Int) (hl : l.length ≤ 1048576) (hf : l.flatten.length ≤ 1048576) (h0 : 0 ≤ a) (h1 : a ≤ 1048576) : Ev (fun k => laws_markIntSS.f k l a) (a + (l.flatten.length : Int)) := by
  obtain ⟨R, K, hR⟩ := markIntSS_l0 l hl (flat_row hf) 35184372088832 (by omega) l.length 0 a l (by omega) rfl rfl h0 (by rw [List.drop_zero]; omega)
  refine ⟨K, fun k hk => ?_⟩
  have := hR k hk
  rw [List.drop_zero] at this
  simp only [laws_markIntSS.f]
  have e : laws_markIntSS.l0 k l a 0 = some (a + (l.flatten.length : Int), R) := this
  rw [e]; rfl
end Go.Proofs.Ytnoagkhmmckiaaa.Pure
