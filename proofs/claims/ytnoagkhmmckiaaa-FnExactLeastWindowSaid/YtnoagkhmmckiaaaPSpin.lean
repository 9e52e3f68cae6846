/- What SpinWindow and LeastWindow answer, the program's and the reference's. -/
import Derived.Test.YtnoagkhmmckiaaaPWinBase
import Derived.Test.YtnoagkhmmckiaaaPWithin
import Derived.Test.YtnoagkhmmckiaaaPConcat
import Derived.Test.YtnoagkhmmckiaaaG0
import Derived.Test.YtnoagkhmmckiaaaG3
namespace Go.Proofs.Ytnoagkhmmckiaaa.Pure
open Go.RowKit Go.Proofs.Ytnoagkhmmckiaaa.Hd Go.Proofs.YtnoagkhmmckiaaaW.PrintWords Go.Proofs.YtnoagkhmmckiaaaW.PrintLast
set_option linter.unusedVariables false
set_option linter.unusedSimpArgs false
theorem l1Own_eq (l : List Int) (h : l.length ≤ 1048576) : spec_l1Own.f l = some l := by
  unfold spec_l1Own.f
  rw [Option.bind_some, if_pos (by simp; omega), List.nil_append]
def spn (l : List Int) (k : Nat) : List Int := l.drop (2 * k) ++ l.take (2 * k)
theorem spn_len (l : List Int) (k : Nat) (h : 2 * k ≤ l.length) : (spn l k).length = l.length := by
  unfold spn; rw [List.length_append, List.length_drop, List.length_take]; omega
theorem wiSpin_eq (l : List Int) (k : Nat) (hl : l.length = 8) (h : k ≤ 4) : spec_wiSpin.f l (k : Int) = some (spn l k) := by
  unfold spec_wiSpin.f
  rw [w64' (n := 2 * (k : Int)) (m := ((2 * k : Nat) : Int)) (by omega) (by omega) (by omega), if_pos (by omega), if_pos (by omega), Int.toNat_natCast, l1Own_eq _ (by rw [List.length_drop]; omega), Option.bind_some, if_pos (by rw [List.length_drop, List.length_take]; omega)]
  rfl
theorem spun_ev (l : List Int) (k : Nat) (hl : l.length = 8) (h : k ≤ 4) : Ev (fun n => impl_spun.f n l (k : Int)) (spn l k) := by
  unfold impl_spun.f
  rw [w64' (n := 2 * (k : Int)) (m := ((2 * k : Nat) : Int)) (by omega) (by omega) (by omega), Int.toNat_natCast]
  refine Ev.pos (by omega) (Ev.pos (by omega) (Ev.bd (concat_ev _ (by simp) ?_) (Ev.ret ?_)))
  · simp only [List.flatten_cons, List.flatten_nil, List.append_nil, List.length_append, List.length_drop, List.length_take]; omega
  · simp [spn]
end Go.Proofs.Ytnoagkhmmckiaaa.Pure
