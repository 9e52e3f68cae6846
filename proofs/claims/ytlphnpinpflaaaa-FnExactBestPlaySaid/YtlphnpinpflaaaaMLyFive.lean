/- spec.AllFives, by hand. -/
import Derived.Test.YtlphnpinpflaaaaMLyEx
namespace Go.Proofs.Ytlphnpinpflaaaa.Hd
open Go.RowKit Go.Proofs.Ytlphnpinpflaaaa.Pure Go.Proofs.YtlphnpinpflaaaaW.PrintWords Go.Proofs.YtlphnpinpflaaaaW.PrintLast Go.Proofs.YtlphnpinpflaaaaW.PrintMore
set_option linter.unusedVariables false
set_option linter.unusedSimpArgs false
theorem read_fold {l : List S_Play} {s : LySt} (h : lyReadF l = some s) : l.foldlM lyAdd lyS0 = some s := by
  unfold lyReadF at h
  split at h
  · cases h
  · exact h
