/- The program's AllWindows answers what the reference's answers, for all arguments. -/
import Derived.Test.YtbkaedmabdgdhaaPLawTile
import Derived.Test.YtbkaedmabdgdhaaPMarkTile0
import Derived.Test.YtbkaedmabdgdhaaPMarkSS
import Derived.Test.YtbkaedmabdgdhaaPWindows
import Derived.Test.YtbkaedmabdgdhaaG4
namespace Go.Proofs.Ytbkaedmabdgdhaa.Pure
open Go.RowKit Go.Proofs.Ytbkaedmabdgdhaa.Hd Go.Proofs.YtbkaedmabdgdhaaW.PrintWords Go.Proofs.YtbkaedmabdgdhaaW.PrintLast
set_option linter.unusedVariables false
set_option linter.unusedSimpArgs false
theorem flat8 : ∀ {l : List (List Int)}, (∀ w ∈ l, w.length = 8) → l.flatten.length = 8 * l.length
  | [], _ => rfl
  | w :: l, h => by
    have h1 := h w List.mem_cons_self
    have h2 := flat8 (l := l) (fun w hw => h w (List.mem_cons_of_mem _ hw))
    rw [List.flatten_cons, List.length_append, List.length_cons]; omega
theorem FnExactAllWindows (l0 : List S_LTile) (h_l0 : l0.length ≤ 9223372036854775807) : ∃ k, laws_FnExactAllWindows.f k l0 = some true := by
  refine Ev.fin ?_
  unfold laws_FnExactAllWindows.f
  have c1 := cpT_len l0
  obtain ⟨z0, hz0, bz0⟩ := szTileS_c l0 1048576 (by omega) (by omega) (by omega)
  refine Ev.bs hz0 ?_
  by_cases cz0 : z0 < 0
  · exact Ev.pos cz0 (Ev.ret rfl)
  refine Ev.neg cz0 ?_
  have dz0 := bz0 (by omega)
  have hl : l0.length ≤ 1048576 := dz0.1
  have hlc : (cpT l0).length ≤ 1048576 := by omega
  obtain ⟨hb1, hb8⟩ := resAllWindows_len (cpT l0)
  have hb2 := flat8 hb8
  obtain ⟨R, hR⟩ : ∃ R, resAllWindows (cpT l0) = R := ⟨_, rfl⟩
  have hS := specAllWindows_ev (cpT l0)
  have hI := implAllWindows_ev (cpT l0)
  rw [hR] at hb1 hb2 hS hI
  have hE := eqIntSS_ev R.1 (by omega) (by omega)
  have hM := markSS_ev R.1 1 (by omega) (by omega) (by omega) (by omega)
  have hH := heldSS_ev R.1 1 (by omega) (by omega) (by omega) (by omega)
  have hT := toTileS_ev l0 hl
  have hET := eqTileS_ev (cpT l0) (by omega)
  refine Ev.bd hT (Ev.bd hS (Ev.bd hT (Ev.bd hI (Ev.bd hE (Ev.pos rfl (Ev.neg (by simp) ?_))))))
  refine Ev.bd hT (Ev.bd hET (Ev.pos rfl (Ev.bd (markTileS_ev (cpT l0) 1 (by omega) (by omega) (by omega)) (Ev.neg (by show ¬ (1 + 2 * ((cpT l0).length : Int)) < 0; omega) ?_))))
  refine Ev.bd hE (Ev.pos rfl (Ev.bd hM (Ev.bd hH (Ev.neg (by omega) (Ev.pos rfl ?_)))))
  refine Ev.bd hT (Ev.bd hI (Ev.bd hE (Ev.pos rfl (Ev.neg (by simp) ?_))))
  exact Ev.bd hH (Ev.neg (by omega) (Ev.pos rfl (Ev.ret rfl)))
end Go.Proofs.Ytbkaedmabdgdhaa.Pure
