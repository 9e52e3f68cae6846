/- spec.AllFives, by hand. -/
import Derived.Test.YtlphnpinpflaaaaMLyEx
namespace Go.Proofs.Ytlphnpinpflaaaa.Hd
open Go.RowKit Go.Proofs.Ytlphnpinpflaaaa.Pure Go.Proofs.YtlphnpinpflaaaaW.PrintWords Go.Proofs.YtlphnpinpflaaaaW.PrintLast Go.Proofs.YtlphnpinpflaaaaW.PrintMore
set_option linter.unusedVariables false
set_option linter.unusedSimpArgs false
theorem lyPointsF_bd {s : LySt} {n : Nat} (h : LyOk s n) (hn : n ≤ 28) : -200 ≤ lyPointsF s ∧ lyPointsF s ≤ 1800 := by
  have := lySumF_bd s (by have := h.ti; omega) (by have := h.ar; omega) ⟨h.ends, h.tiles⟩
  unfold lyPointsF
  split <;> omega
end Go.Proofs.Ytlphnpinpflaaaa.Hd
