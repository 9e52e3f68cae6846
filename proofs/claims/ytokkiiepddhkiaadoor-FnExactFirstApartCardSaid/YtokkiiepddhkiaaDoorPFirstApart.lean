/- What FirstApart answers. -/
import Derived.Test.YtokkiiepddhkiaaDoorPApB
import Derived.Test.YtokkiiepddhkiaaDoorMAptF
import Derived.Test.YtokkiiepddhkiaaDoorMApF
namespace Go.Proofs.YtokkiiepddhkiaaDoor.Pure
open Go.RowKit Go.Proofs.YtokkiiepddhkiaaDoor.Hd Go.Proofs.YtokkiiepddhkiaaDoorW.PrintWords Go.Proofs.YtokkiiepddhkiaaDoorW.PrintLast
set_option linter.unusedVariables false
def resFirstApart (s : ByteArray) (l : List S_Tile) : ByteArray × Bool := if (isTab s && handB l) = true then (match lvsH s l with | [] => ((⟨#[]⟩ : ByteArray), false) | b :: _ => (formT (w0 (rowsB s)) (rowsB s).length b, true)) else (⟨#[]⟩, false)
theorem specFirstApart_eq (s : ByteArray) (l : List S_Tile) (hs : s.size ≤ 1048576) : spec_FirstApart.f s l = some (resFirstApart s l) := by
  unfold spec_FirstApart.f resFirstApart
  rw [if_pos hs]
  by_cases h : (isTab s && handB l) = true
  · rw [if_pos h, if_pos h]; cases lvsH s l <;> rfl
  · rw [if_neg h, if_neg h]
theorem implFirstApart_eq (s : ByteArray) (l : List S_Tile) (hs : s.size ≤ 1048576) : impl_FirstApart.f s l = some (resFirstApart s l) := by
  unfold impl_FirstApart.f resFirstApart
  rw [if_pos hs]
  by_cases h : (isTab s && handB l) = true
  · rw [if_pos h, if_pos h]
    rw [Bool.and_eq_true] at h
    rw [apR_first h.1 h.2]
    have hd := tab_dim h.1
    cases hL : lvsH s l with
    | nil => simp
    | cons b L =>
      have hb := lvsH_at (s := s) (hand := l) (b := b) (by rw [hL]; exact List.mem_cons_self)
      have q := formT_ne hd.2.2.2.1 hd.2.2.2.2.2.1 (hb.1.trans hd.2.1.symm)
      have e : ((formT (w0 (rowsB s)) (rowsB s).length b).toList != (⟨#[]⟩ : ByteArray).toList) = true := bne_iff_ne.2 q
      show some (formT (w0 (rowsB s)) (rowsB s).length b, ((formT (w0 (rowsB s)) (rowsB s).length b).toList != (⟨#[]⟩ : ByteArray).toList)) = some (formT (w0 (rowsB s)) (rowsB s).length b, true)
      rw [e]
  · rw [if_neg h, if_neg h]
end Go.Proofs.YtokkiiepddhkiaaDoor.Pure
