/- The statements' copying, counting and comparing of games. -/
import Derived.Test.YtkjaahmlnbgnjaaPLawInt
import Derived.Test.YtkjaahmlnbgnjaaPLawTile
import Derived.Test.YtkjaahmlnbgnjaaPSzInt
import Derived.Test.YtkjaahmlnbgnjaaG0
import Derived.Test.YtkjaahmlnbgnjaaG1
import Derived.Test.YtkjaahmlnbgnjaaG2
namespace Go.Proofs.Ytkjaahmlnbgnjaa.Pure
open Go.RowKit Go.Proofs.Ytkjaahmlnbgnjaa.Hd Go.Proofs.YtkjaahmlnbgnjaaW.PrintWords Go.Proofs.YtkjaahmlnbgnjaaW.PrintLast
set_option linter.unusedVariables false
set_option linter.unusedSimpArgs false
theorem szGame_eq (f s : List S_LTile) (r : List Int) (t p : Int) (hf : f.length ≤ 9223372036854775807) (hs : s.length ≤ 9223372036854775807) (hr : r.length ≤ 9223372036854775807) :
    ∃ z : Int, laws_szGame.f f s r t p 1048576 = some z ∧ (0 ≤ z → f.length ≤ 1048576 ∧ s.length ≤ 1048576 ∧ r.length ≤ 1048576) := by
  unfold laws_szGame.f
  rw [szTileS_eq f _ (by omega) (by omega) hf, Option.bind_some]
  by_cases h1 : (1048576 : Int) < f.length
  · refine ⟨-1, by rw [if_pos h1, if_pos (by omega)], fun h => by omega⟩
  · rw [if_neg h1, if_neg (by omega), szTileS_eq s _ (by omega) (by omega) hs, Option.bind_some]
    by_cases h2 : (1048576 : Int) - f.length < s.length
    · refine ⟨-1, by rw [if_pos h2, if_pos (by omega)], fun h => by omega⟩
    · rw [if_neg h2, if_neg (by omega), szIntS_eq r _ (by omega) (by omega) hr, Option.bind_some]
      by_cases h3 : (1048576 : Int) - f.length - s.length < r.length
      · refine ⟨-1, by rw [if_pos h3, if_pos (by omega)], fun h => by omega⟩
      · rw [if_neg h3, if_neg (by omega)]
        exact ⟨_, rfl, fun _ => by omega⟩
theorem toGame_ev (f s : List S_LTile) (r : List Int) (t p : Int) (hf : f.length ≤ 1048576) (hs : s.length ≤ 1048576) (hr : r.length ≤ 1048576) : Ev (fun k => laws_toGame.f k f s r t p) (cpT f, cpT s, r, t, p) := by
  unfold laws_toGame.f
  exact Ev.bd (toTileS_ev f hf) (Ev.bd (toTileS_ev s hs) (Ev.bd (toIntS_ev r (by omega)) (Ev.ret rfl)))
theorem eqGame_ev (f s : List S_Tile) (r : List Int) (t p : Int) (hf : f.length ≤ 4000000) (hs : s.length ≤ 4000000) (hr : r.length ≤ 4000000) : Ev (fun k => laws_eqGame.f k f s r t p f s r t p) true := by
  unfold laws_eqGame.f
  exact Ev.bd (eqTileS_ev f (by omega)) (Ev.pos rfl (Ev.bd (eqTileS_ev s (by omega)) (Ev.pos rfl (Ev.bd (eqIntS_ev r (by omega)) (Ev.pos rfl (Ev.pos rfl (Ev.pos rfl (Ev.ret rfl))))))))
end Go.Proofs.Ytkjaahmlnbgnjaa.Pure
