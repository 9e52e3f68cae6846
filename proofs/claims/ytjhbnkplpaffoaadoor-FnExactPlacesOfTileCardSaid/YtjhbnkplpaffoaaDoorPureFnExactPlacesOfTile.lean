/- FnExactPlacesOfTile: the plain statement. -/
import Derived.Test.YtjhbnkplpaffoaaDoorPPlaces
import Derived.Test.YtjhbnkplpaffoaaDoorPMarkSS
import Derived.Test.YtjhbnkplpaffoaaDoorG4
import Derived.Test.YtjhbnkplpaffoaaDoorG3
import Derived.Test.YtjhbnkplpaffoaaDoorG4
namespace Go.Proofs.YtjhbnkplpaffoaaDoor.Pure
open Go Go.RowKit Go.Proofs.YtjhbnkplpaffoaaDoor.Hd Go.Proofs.YtjhbnkplpaffoaaDoorW.PrintWords Go.Proofs.YtjhbnkplpaffoaaDoorW.PrintLast
set_option linter.unusedVariables false
def okT (x y : Int) : Bool := decide (0 ≤ x) && (decide (x ≤ y) && decide (y ≤ 9))
theorem tiGood_eq' (x y : Int) : spec_tiGood.f x y = some (okT x y) := by
  unfold spec_tiGood.f spec_l1In.f okT
  by_cases h : 0 ≤ x
  · rw [if_pos h, Option.bind_some, decide_eq_true h, Bool.true_and]
    by_cases h2 : x ≤ y
    · rw [decide_eq_true h2, if_pos rfl, Bool.true_and]
    · rw [decide_eq_false h2, if_neg (by simp), Bool.false_and]
  · rw [if_neg h, Option.bind_some, decide_eq_false h, if_neg (by simp), Bool.false_and]
theorem isTile_eq' (x y : Int) : impl_IsTile.f x y = some (okT x y) := by
  unfold impl_IsTile.f impl_within.f okT
  by_cases h : 0 ≤ x
  · rw [if_pos h, Option.bind_some, decide_eq_true h, Bool.true_and]
    by_cases h2 : x ≤ y
    · rw [decide_eq_true h2, if_pos rfl, Bool.true_and]
    · rw [decide_eq_false h2, if_neg (by simp), Bool.false_and]
  · rw [if_neg h, Option.bind_some, decide_eq_false h, if_neg (by simp), Bool.false_and]
def placesF (s : ByteArray) (x y : Int) : List (List Int) × Bool := if isTab s = true ∧ okT x y = true then (placesOf s x y, true) else ([], false)
theorem specPlacesOf_ev (s : ByteArray) (x y : Int) (hs : s.size ≤ 1048576) : Ev (fun k => spec_PlacesOfTile.f k s x y) (placesF s x y) := by
  unfold spec_PlacesOfTile.f
  refine Ev.bd (taRead_ev s hs) ?_
  cases h : isTab s with
  | false =>
    rw [isTab_no h]
    refine Ev.neg (by simp) (Ev.ret ?_)
    unfold placesF
    rw [h, if_neg (by simp)]
  | true =>
    rw [isTab_tab h]
    refine Ev.pos rfl (Ev.bs (tiGood_eq' x y) ?_)
    by_cases t : okT x y = true
    · refine Ev.pos t (Ev.bd (specPlaces_ev h x y) (Ev.ret ?_))
      unfold placesF
      rw [if_pos ⟨h, t⟩]
    · refine Ev.neg t (Ev.ret ?_)
      unfold placesF
      rw [if_neg (fun z => t z.2)]
theorem implPlacesOf_ev (s : ByteArray) (x y : Int) (hs : s.size ≤ 1048576) : Ev (fun k => impl_PlacesOfTile.f k s x y) (placesF s x y) := by
  unfold impl_PlacesOfTile.f
  refine Ev.bd (implIsTable_ev s hs) ?_
  cases h : isTab s with
  | false =>
    refine Ev.neg (by simp) (Ev.ret ?_)
    unfold placesF
    rw [h, if_neg (by simp)]
  | true =>
    refine Ev.pos rfl (Ev.bs (isTile_eq' x y) ?_)
    by_cases t : okT x y = true
    · refine Ev.pos t (Ev.bd (implPlaces_ev hs h x y) (Ev.ret ?_))
      unfold placesF
      rw [if_pos ⟨h, t⟩]
    · refine Ev.neg t (Ev.ret ?_)
      unfold placesF
      rw [if_neg (fun z => t z.2)]
theorem placesF_len (s : ByteArray) (x y : Int) : (placesF s x y).1.length ≤ 60 ∧ (placesF s x y).1.flatten.length ≤ 120 := by
  unfold placesF
  split
  · rename_i q
    exact placesOf_len q.1 x y
  · simp
theorem FnExactPlacesOfTile (a0 : ByteArray) (a1_0 a1_1 : Int) (h0 : a0.size ≤ 140737488351232) (h1 : (Lit.int .i64 a1_0).wf = true) (h2 : (Lit.int .i64 a1_1).wf = true) : ∃ k, laws_FnExactPlacesOfTile.f k a0 a1_0 a1_1 = some true := by
  refine Ev.fin ?_
  unfold laws_FnExactPlacesOfTile.f
  by_cases h : (a0.size : Int) > 1048576
  · exact Ev.pos h (Ev.now _)
  obtain ⟨l1, l2⟩ := placesF_len a0 a1_0 a1_1
  have he := eqIntSS_ev (placesF a0 a1_0 a1_1).1 (by omega) (by omega)
  have hi := implPlacesOf_ev a0 a1_0 a1_1 (by omega)
  have hs := specPlacesOf_ev a0 a1_0 a1_1 (by omega)
  have hm := markSS_ev (placesF a0 a1_0 a1_1).1 1 (by omega) (by omega) (by omega) (by omega)
  have hh := heldSS_ev (placesF a0 a1_0 a1_1).1 1 (by omega) (by omega) (by omega) (by omega)
  have ht : laws_toTile.f a1_0 a1_1 = some (a1_0, a1_1) := rfl
  refine Ev.neg h (Ev.bs ht ?_)
  refine Ev.bd hs (Ev.bs ht ?_)
  refine Ev.bd hi ?_
  refine Ev.bd he (Ev.pos rfl (Ev.neg (by simp) ?_))
  refine Ev.bd hm ?_
  refine Ev.bd hh (Ev.neg (by omega) (Ev.pos rfl (Ev.bs ht ?_)))
  refine Ev.bd hi ?_
  refine Ev.bd he (Ev.pos rfl (Ev.neg (by simp) ?_))
  exact Ev.bd hh (Ev.neg (by omega) (Ev.pos rfl (Ev.now _)))
end Go.Proofs.YtjhbnkplpaffoaaDoor.Pure
