/- What SpinWindow answers. -/
import Derived.Test.YtnoagkhmmckiaaaPSpin
import Derived.Test.YtnoagkhmmckiaaaG2
import Derived.Test.YtnoagkhmmckiaaaG5
namespace Go.Proofs.Ytnoagkhmmckiaaa.Pure
open Go.RowKit Go.Proofs.Ytnoagkhmmckiaaa.Hd Go.Proofs.YtnoagkhmmckiaaaW.PrintWords Go.Proofs.YtnoagkhmmckiaaaW.PrintLast
set_option linter.unusedVariables false
set_option linter.unusedSimpArgs false
def resSpinWindow (l : List Int) (n : Int) : List Int × Bool := if (winB l && inB 0 3 n) = true then (spn l n.toNat, true) else ([], false)
theorem specSpinWindow_ev (l : List Int) (n : Int) : Ev (fun k => spec_SpinWindow.f k l n) (resSpinWindow l n) := by
  unfold spec_SpinWindow.f resSpinWindow
  refine Ev.bd (wiGood_ev l) ?_
  by_cases h : winB l = true
  · refine Ev.pos h (Ev.bs (l1In_eq n 0 3) ?_)
    by_cases g : inB 0 3 n = true
    · refine Ev.ifp (by rw [h, g]; rfl) ?_
      have hn := inB_iff.1 g
      obtain ⟨k, rfl⟩ : ∃ k : Nat, n = k := ⟨n.toNat, by omega⟩
      exact Ev.pos g (Ev.bs (wiSpin_eq l k (winB_len h) (by omega)) (Ev.ret rfl))
    · refine Ev.ifn (by rw [Bool.eq_false_iff.2 g]; simp) ?_
      exact Ev.neg g (Ev.ret rfl)
  · refine Ev.ifn (by rw [Bool.eq_false_iff.2 h]; simp) ?_
    exact Ev.neg h (Ev.ret rfl)
theorem implSpinWindow_ev (l : List Int) (n : Int) : Ev (fun k => impl_SpinWindow.f k l n) (resSpinWindow l n) := by
  unfold impl_SpinWindow.f resSpinWindow
  refine Ev.bd (isWindow_ev l) ?_
  by_cases h : winB l = true
  · refine Ev.pos h (Ev.bs (within_eq n 0 3) ?_)
    by_cases g : inB 0 3 n = true
    · refine Ev.ifp (by rw [h, g]; rfl) ?_
      have hn := inB_iff.1 g
      obtain ⟨k, rfl⟩ : ∃ k : Nat, n = k := ⟨n.toNat, by omega⟩
      exact Ev.pos g (Ev.bd (spun_ev l k (winB_len h) (by omega)) (Ev.ret rfl))
    · refine Ev.ifn (by rw [Bool.eq_false_iff.2 g]; simp) ?_
      exact Ev.neg g (Ev.ret rfl)
  · refine Ev.ifn (by rw [Bool.eq_false_iff.2 h]; simp) ?_
    exact Ev.neg h (Ev.ret rfl)
theorem resSpinWindow_len (l : List Int) (n : Int) : (resSpinWindow l n).1.length ≤ 1048576 := by
  unfold resSpinWindow
  split
  · rename_i h
    rw [Bool.and_eq_true] at h
    have h1 := winB_len h.1
    have h2 := inB_iff.1 h.2
    show (spn l n.toNat).length ≤ _
    rw [spn_len l _ (by omega)]; omega
  · exact Nat.zero_le _

end Go.Proofs.Ytnoagkhmmckiaaa.Pure
