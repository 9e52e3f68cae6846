/- The statements' counting and copying of slices of texts. -/
import Derived.Test.YtkjaahmlnbgnjaaGreatPEv
import Derived.Test.YtkjaahmlnbgnjaaGreatG0
import Derived.Test.YtkjaahmlnbgnjaaGreatG0
namespace Go.Proofs.YtkjaahmlnbgnjaaGreat.Pure
open Go.RowKit Go.Proofs.YtkjaahmlnbgnjaaGreat.Hd Go.Proofs.YtkjaahmlnbgnjaaGreatW.PrintWords Go.Proofs.YtkjaahmlnbgnjaaGreatW.PrintLast
set_option linter.unusedVariables false
set_option linter.unusedSimpArgs false
theorem szStringS_l0 (l : List ByteArray) (hl : l.length ≤ 1048576) : ∀ (d i : Nat) (x : Int), i + d = l.length → ∃ z, Ev (fun k => laws_szStringS.l0 k l x (i : Int)) z := by
  intro d
  induction d with
  | zero =>
    intro i x hi
    refine ⟨x, Ev.succ ?_⟩
    simp only [laws_szStringS.l0]
    exact Ev.neg (by omega) (Ev.ret rfl)
  | succ d ih =>
    intro i x hi
    by_cases hc : (wrap64 (x - ((rdOf ByteArray.empty l (i : Int)).size : Int))) < 0
    · refine ⟨-1, Ev.succ ?_⟩
      simp only [laws_szStringS.l0]
      exact Ev.pos (by omega) (Ev.pos (by omega) (Ev.pos hc (Ev.ret rfl)))
    · obtain ⟨z, hz⟩ := ih (i + 1) (wrap64 (x - ((rdOf ByteArray.empty l (i : Int)).size : Int))) (by omega)
      refine ⟨z, Ev.succ ?_⟩
      simp only [laws_szStringS.l0]
      refine Ev.pos (by omega) (Ev.pos (by omega) (Ev.neg hc ?_))
      rw [w64' (n := (i : Int) + 1) (m := ((i + 1 : Nat) : Int)) (by omega) (by omega) (by omega)]
      exact hz
theorem szStringS_c (l : List ByteArray) (a : Int) (h0 : 0 ≤ a) (h1 : a ≤ 1048576) (hl : l.length ≤ 9223372036854775807) : ∃ z : Int, Ev (fun k => laws_szStringS.f k l a) z ∧ (0 ≤ z → l.length ≤ 1048576) := by
  have e : wrap64 (a - (l.length : Int)) = a - (l.length : Int) := w64' rfl (by omega) (by omega)
  unfold laws_szStringS.f
  by_cases h : a < (l.length : Int)
  · exact ⟨-1, Ev.pos (by rw [e]; omega) (Ev.ret rfl), fun q => by omega⟩
  · obtain ⟨z, hz⟩ := szStringS_l0 l (by omega) l.length 0 (wrap64 (a - (l.length : Int))) (by omega)
    exact ⟨z, Ev.neg (by rw [e]; omega) hz, fun _ => by omega⟩
theorem toStringS_l0 (l : List ByteArray) (hl : l.length ≤ 17592186044416) : ∀ (d i : Nat) (acc : List ByteArray), i + d = l.length → acc.length = l.length → acc.take i = l.take i →
    Ev (fun k => laws_toStringS.l0 k l acc (i : Int)) l := by
  intro d
  induction d with
  | zero =>
    intro i acc hi hacc ht
    refine Ev.succ ?_
    simp only [laws_toStringS.l0]
    refine Ev.neg (by omega) (Ev.ret ?_)
    rw [List.take_of_length_le (by omega), List.take_of_length_le (by omega)] at ht
    exact ht
  | succ d ih =>
    intro i acc hi hacc ht
    have hlt : i < l.length := by omega
    refine Ev.succ ?_
    simp only [laws_toStringS.l0]
    refine Ev.pos (by omega) (Ev.pos (by omega) (Ev.pos (by omega) ?_))
    rw [w64' (n := (i : Int) + 1) (m := ((i + 1 : Nat) : Int)) (by omega) (by omega) (by omega), Int.toNat_natCast]
    have e : rdOf ByteArray.empty l (i : Int) = l[i] := by
      unfold rdOf
      rw [Int.toNat_natCast, List.getD_eq_getElem?_getD, List.getElem?_eq_getElem hlt]
      rfl
    rw [e]
    refine ih (i + 1) _ (by omega) (by rw [List.length_set]; exact hacc) ?_
    exact set_take acc _ i hacc ht hlt
theorem toStringS_ev (l : List ByteArray) (hl : l.length ≤ 17592186044416) : Ev (fun k => laws_toStringS.f k l) l := by
  unfold laws_toStringS.f
  refine Ev.pos (by omega) (Ev.pos (by omega) ?_)
  exact toStringS_l0 l hl l.length 0 _ (by omega) (by simp) (by simp)
end Go.Proofs.YtkjaahmlnbgnjaaGreat.Pure
