/- The program's IsGame answers what the reference's answers, for every game, whatever its parts. -/
import Derived.Test.YthcccpgjnplmcaaPLawGame
import Derived.Test.YthcccpgjnplmcaaPGame
import Derived.Test.YthcccpgjnplmcaaG9
namespace Go.Proofs.Ythcccpgjnplmcaa.Pure
open Go.RowKit Go.Proofs.Ythcccpgjnplmcaa.Hd Go.Proofs.YthcccpgjnplmcaaW.PrintWords Go.Proofs.YthcccpgjnplmcaaW.PrintLast
set_option linter.unusedVariables false
set_option linter.unusedSimpArgs false
theorem specIsGame_ev (f s : List S_Tile) (r : List Int) (t p : Int) (hf : f.length ≤ 1048576) (hs : s.length ≤ 1048576) (hr : r.length ≤ 1048576) : Ev (fun k => spec_IsGame.f k f s r t p) (gameB f s r t p) := by
  unfold spec_IsGame.f
  exact Ev.bd (plGood_ev f s r t p hf hs hr) (Ev.ret rfl)
theorem FnExactIsGame (f s : List S_LTile) (r : List Int) (t p : Int) (hf : f.length ≤ 9223372036854775807) (hs : s.length ≤ 9223372036854775807) (hr : r.length ≤ 9223372036854775807)
    (ht : (Lit.int .i64 t).wf = true) (hp : (Lit.int .i64 p).wf = true) : ∃ k, laws_FnExactIsGame.f k f s r t p = some true := by
  refine Ev.fin ?_
  obtain ⟨z, hz, hb⟩ := szGame_eq f s r t p hf hs hr
  unfold laws_FnExactIsGame.f
  refine Ev.bs hz ?_
  by_cases h : z < 0
  · exact Ev.pos h (Ev.ret rfl)
  · obtain ⟨b1, b2, b3⟩ := hb (by omega)
    have c1 := cpT_len f
    have c2 := cpT_len s
    refine Ev.neg h (Ev.bd (toGame_ev f s r t p b1 b2 b3) (Ev.bd (specIsGame_ev (cpT f) (cpT s) r t p (by omega) (by omega) (by omega)) (Ev.bd (toGame_ev f s r t p b1 b2 b3) (Ev.bd (isGame_ev (cpT f) (cpT s) r t p (by omega) (by omega) (by omega)) ?_))))
    refine Ev.neg (by simp) (Ev.bd (toGame_ev f s r t p b1 b2 b3) (Ev.bd (eqGame_ev (cpT f) (cpT s) r t p (by omega) (by omega) (by omega)) (Ev.pos rfl (Ev.ret rfl))))
end Go.Proofs.Ythcccpgjnplmcaa.Pure
