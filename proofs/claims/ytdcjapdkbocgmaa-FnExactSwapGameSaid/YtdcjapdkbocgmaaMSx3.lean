/- The walk by slots: slicing of slices. -/
import Derived.Test.YtdcjapdkbocgmaaMSx2
namespace Go.Proofs.Ytdcjapdkbocgmaa.Hd
open Go.RowKit Go.Proofs.YtdcjapdkbocgmaaW.PrintWords Go.Proofs.YtdcjapdkbocgmaaW.PrintLast Go.Proofs.YtdcjapdkbocgmaaW.PrintMore
set_option linter.unusedVariables false
theorem Hp.apart_rows {w0 W : World} {cs : List Chunk} {α β : Type} (hp : Hp w0 cs W) {d1 : Kd α} {d2 : Kd β} {e1 e2 b1 b2 : Nat} {v1 v2 : Value} {x1 : List α} {x2 : List β} {F1 F2 : Nat → Prop} (i j : Nat) (hne : i ≠ j) (hi : cs[i]? = some (row d1 e1 b1 v1 x1 F1)) (hj : cs[j]? = some (row d2 e2 b2 v2 x2 F2)) : ∀ k, F1 k → some k ≠ v2.ownBlock :=
  fun k hk e => hp.ap i j _ _ hne hi hj k hk ((hp.at_ j _ hj).1.1 k e.symm)
section
variable {P : Program} {N : Nat} {s : List (Nat × Value)} {o : Oper} {W : World} {A : Option Addr} {c : Nat} {α : Type} {xs : List α}
end
end Go.Proofs.Ytdcjapdkbocgmaa.Hd
