/- What MakeMove answers. -/
import Derived.Test.YtkjaahmlnbgnjaaGreatPFind
import Derived.Test.YtkjaahmlnbgnjaaGreatG6
import Derived.Test.YtkjaahmlnbgnjaaGreatG7
namespace Go.Proofs.YtkjaahmlnbgnjaaGreat.Pure
open Go.RowKit Go.Proofs.YtkjaahmlnbgnjaaGreat.Hd Go.Proofs.YtkjaahmlnbgnjaaGreatW.PrintWords Go.Proofs.YtkjaahmlnbgnjaaGreatW.PrintLast
set_option linter.unusedVariables false
set_option linter.unusedSimpArgs false
def resMakeMove (f s : List S_Tile) (r : List Int) (t p : Int) (mv : ByteArray) : List S_Tile × List S_Tile × List Int × Int × Int × Bool := if gameB f s r t p = true then resFind ⟨f, s, r, t, p⟩ mv else noGm
theorem specMakeMove_ev (f s : List S_Tile) (r : List Int) (t p : Int) (mv : ByteArray) (hf : f.length ≤ 1048576) (hs : s.length ≤ 1048576) (hr : r.length ≤ 1048576) : Ev (fun k => spec_MakeMove.f k f s r t p mv) (resMakeMove f s r t p mv) := by
  unfold spec_MakeMove.f resMakeMove
  refine Ev.bd (plGood_ev f s r t p hf hs hr) ?_
  by_cases h : gameB f s r t p = true
  · have hr2 : r.length ≤ 2000000 := by omega
    exact Ev.pos h (Ev.ifp h (Ev.bd (plFind_ev ⟨f, s, r, t, p⟩ (gmB_of h hr2) mv) (Ev.ret rfl)))
  · exact Ev.neg h (Ev.ifn h (Ev.ret rfl))
theorem implMakeMove_ev (f s : List S_Tile) (r : List Int) (t p : Int) (mv : ByteArray) (hf : f.length ≤ 1048576) (hs : s.length ≤ 1048576) (hr : r.length ≤ 1048576) : Ev (fun k => impl_MakeMove.f k f s r t p mv) (resMakeMove f s r t p mv) := by
  unfold impl_MakeMove.f resMakeMove
  refine Ev.bd (isGame_ev f s r t p hf hs hr) ?_
  by_cases h : gameB f s r t p = true
  · have hr2 : r.length ≤ 2000000 := by omega
    have hg : gmB f s r t p := gmB_of h hr2
    have ho := GmOk.of h
    have hL : (Gm.moves ⟨f, s, r, t, p⟩).length ≤ 200 := movesL_len _ _ _ _ _
    refine Ev.pos h (Ev.ifp h (Ev.bs (moves_eq ⟨f, s, r, t, p⟩ hg) (Ev.bd (containsS_ev _ mv (by rw [List.length_map]; omega)) ?_)))
    cases hfm : findM (Gm.moves ⟨f, s, r, t, p⟩) mv with
    | some x =>
      refine Ev.pos ((inS_iff _ _).2 ((findM_mem _ mv).2 ⟨x, hfm⟩)) (Ev.bs (behind_eq (g := ⟨f, s, r, t, p⟩) hg hfm) (Ev.ret ?_))
      unfold resFind
      rw [hfm]
      dsimp only
      rw [makeS_eq ho (findM_some hfm).1]
      rfl
    | none =>
      refine Ev.neg (fun q => ?_) (Ev.ret ?_)
      · obtain ⟨x, hx⟩ := (findM_mem _ mv).1 ((inS_iff _ _).1 q)
        rw [hfm] at hx
        cases hx
      · unfold resFind
        rw [hfm]
        rfl
  · exact Ev.neg h (Ev.ifn h (Ev.ret rfl))
theorem resMakeMove_len (f s : List S_Tile) (r : List Int) (t p : Int) (mv : ByteArray) (hf : f.length ≤ 1048576) (hs : s.length ≤ 1048576) (hr : r.length ≤ 1048576) : (resMakeMove f s r t p mv).1.length ≤ 1048578 ∧ (resMakeMove f s r t p mv).2.1.length ≤ 1048578 ∧ (resMakeMove f s r t p mv).2.2.1.length ≤ 1048578 := by
  unfold resMakeMove resFind
  split
  · rename_i h
    split
    · rename_i x hx
      have ho := GmOk.of h
      rw [makeS_eq ho (findM_some hx).1]
      have h1 := make_row ⟨f, s, r, t, p⟩ x
      have hk := make_ok ho (findM_some hx).1
      have h2 := hand_len hk.f
      have h3 := hand_len hk.s
      refine ⟨?_, ?_, ?_⟩
      · show (Gm.make ⟨f, s, r, t, p⟩ x).f.length ≤ _; omega
      · show (Gm.make ⟨f, s, r, t, p⟩ x).s.length ≤ _; omega
      · show (Gm.make ⟨f, s, r, t, p⟩ x).r.length ≤ _
        dsimp only at h1
        omega
    · exact ⟨by simp [noGm], by simp [noGm], by simp [noGm]⟩
  · exact ⟨by simp [noGm], by simp [noGm], by simp [noGm]⟩
end Go.Proofs.YtkjaahmlnbgnjaaGreat.Pure
