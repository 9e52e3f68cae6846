/- The reference's copy of a game. -/
import Derived.Test.YtkjaahmlnbgnjaaGreatPTile
import Derived.Test.YtkjaahmlnbgnjaaGreatG2
namespace Go.Proofs.YtkjaahmlnbgnjaaGreat.Pure
open Go.RowKit Go.Proofs.YtkjaahmlnbgnjaaGreat.Hd Go.Proofs.YtkjaahmlnbgnjaaGreatW.PrintWords Go.Proofs.YtkjaahmlnbgnjaaGreatW.PrintLast
set_option linter.unusedVariables false
set_option linter.unusedSimpArgs false
theorem l1OwnG_eq (l : List Int) (h : l.length ≤ 2000000) : spec_l1Own.f l = some l := by
  unfold spec_l1Own.f
  rw [Option.bind_some, if_pos (by simp; omega), List.nil_append]
theorem plOwn_eq (f s : List S_Tile) (r : List Int) (t p : Int) (hf : f.length ≤ 1048576) (hs : s.length ≤ 1048576) (hr : r.length ≤ 2000000) : spec_plOwn.f f s r t p = some (f, s, r, t, p) := by
  unfold spec_plOwn.f
  rw [Option.bind_some, if_pos (by simp; omega), Option.bind_some, if_pos (by simp; omega), l1OwnG_eq r hr, Option.bind_some, List.nil_append, List.nil_append]
end Go.Proofs.YtkjaahmlnbgnjaaGreat.Pure
