/- The tile of two numbers. -/
import Derived.Test.YtipkmbgebpeeoaaPTile0
import Derived.Test.YtipkmbgebpeeoaaG2
import Derived.Test.YtipkmbgebpeeoaaG2
namespace Go.Proofs.Ytipkmbgebpeeoaa.Pure
open Go.RowKit Go.Proofs.Ytipkmbgebpeeoaa.Hd Go.Proofs.YtipkmbgebpeeoaaW.PrintWords Go.Proofs.YtipkmbgebpeeoaaW.PrintLast
set_option linter.unusedVariables false
set_option linter.unusedSimpArgs false
def tl (a b : Int) : S_Tile := ⟨min a b, max a b⟩
theorem impl_tile_eq (a b : Int) : impl_tile.f a b = some ((tl a b).f0, (tl a b).f1) := by
  unfold impl_tile.f tl; rw [mn_min, mx_max]
theorem spec_tiOf_eq (a b : Int) : spec_tiOf.f a b = some ((tl a b).f0, (tl a b).f1) := by
  unfold spec_tiOf.f spec_l1Least.f spec_l1Most.f tl
  by_cases h : a < b
  · rw [if_pos h, Option.bind_some, if_neg (by omega), Option.bind_some]
    simp only [Option.some.injEq, Prod.mk.injEq]; omega
  · rw [if_neg h, Option.bind_some]
    by_cases h2 : a > b
    · rw [if_pos h2, Option.bind_some]; simp only [Option.some.injEq, Prod.mk.injEq]; omega
    · rw [if_neg h2, Option.bind_some]; simp only [Option.some.injEq, Prod.mk.injEq]; omega
theorem good_tl {a b : Int} (ha : inB 0 9 a = true) (hb : inB 0 9 b = true) : goodT (tl a b) = true := by
  simp only [inB, Bool.and_eq_true, decide_eq_true_eq] at ha hb
  unfold goodT tl
  rw [Bool.and_eq_true, Bool.and_eq_true]
  exact ⟨⟨decide_eq_true (by show 0 ≤ min a b; omega), decide_eq_true (by show min a b ≤ max a b; omega)⟩, decide_eq_true (by show max a b ≤ 9; omega)⟩
end Go.Proofs.Ytipkmbgebpeeoaa.Pure
