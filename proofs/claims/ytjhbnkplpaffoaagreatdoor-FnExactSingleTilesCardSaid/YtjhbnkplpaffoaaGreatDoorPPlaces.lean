/- PlacesOfTile: what both sides answer. -/
import Derived.Test.YtjhbnkplpaffoaaGreatDoorPCells
import Derived.Test.YtjhbnkplpaffoaaGreatDoorG4
import Derived.Test.YtjhbnkplpaffoaaGreatDoorG3
namespace Go.Proofs.YtjhbnkplpaffoaaGreatDoor.Pure
open Go Go.RowKit Go.Proofs.YtjhbnkplpaffoaaGreatDoor.Hd Go.Proofs.YtjhbnkplpaffoaaGreatDoorW.PrintWords Go.Proofs.YtjhbnkplpaffoaaGreatDoorW.PrintLast
set_option linter.unusedVariables false
set_option linter.unusedSimpArgs false
/-- Does the tile of two cells have the numbers x and y? -/
def isT (s : ByteArray) (a b x y : Int) : Bool := (tileAt s a b).f0 == x && ((tileAt s a b).f1 == y)
def eastP (s : ByteArray) (w i : Nat) (x y : Int) : List (List Int) := if i % w < w - 1 ∧ isT s (i : Int) ((i : Int) + 1) x y = true then [[(i : Int), (i : Int) + 1]] else []
def southP (s : ByteArray) (w n i : Nat) (x y : Int) : List (List Int) := if i + w < n ∧ isT s (i : Int) ((i : Int) + (w : Int)) x y = true then [[(i : Int), (i : Int) + (w : Int)]] else []
def placesC (s : ByteArray) (w n : Nat) (x y : Int) (i d : Nat) : List (List Int) := (List.range' i d).flatMap (fun i => eastP s w i x y ++ southP s w n i x y)
theorem placesC_succ (s : ByteArray) (w n : Nat) (x y : Int) (i d : Nat) : placesC s w n x y i (d + 1) = eastP s w i x y ++ (southP s w n i x y ++ placesC s w n x y (i + 1) d) := by
  unfold placesC
  rw [List.range'_succ, List.flatMap_cons, List.append_assoc]
theorem southP_len (s : ByteArray) (w n i : Nat) (x y : Int) : (southP s w n i x y).length ≤ 1 := by unfold southP; split <;> simp
theorem places_l0 {s : ByteArray} (h : isTab s = true) (x y : Int) : ∀ (d i : Nat) (acc : List (List Int)), i + d = w0 (rowsB s) * (rowsB s).length → acc.length ≤ 2 * i →
    Ev (fun k => impl_places.l0 k (w0 (rowsB s) : Int) (flatB s) acc ((flatB s).size : Int) (i : Int) x y) (acc ++ placesC s (w0 (rowsB s)) (w0 (rowsB s) * (rowsB s).length) x y i d) := by
  obtain ⟨c1, c2, c3, c4⟩ := cells_n h
  have hw30 : w0 (rowsB s) ≤ 1000 := by
    obtain ⟨h1, _⟩ := form_size h
    have := (w0_le s).1
    omega
  intro d
  induction d with
  | zero =>
    intro i acc h1 h2
    refine Ev.succ ?_
    simp only [impl_places.l0]
    exact Ev.neg (by omega) (Ev.ret (by simp [placesC]))
  | succ d ih =>
    intro i acc h1 h2
    have hi : i < w0 (rowsB s) * (rowsB s).length := by omega
    have e1 : wrap64 ((i : Int) + 1) = ((i + 1 : Nat) : Int) := w64' (by omega) (by omega) (by omega)
    have e2 : wrap64 ((i : Int) + (w0 (rowsB s) : Int)) = (i : Int) + (w0 (rowsB s) : Int) := w64' rfl (by omega) (by omega)
    have e3 : wrap64 ((w0 (rowsB s) : Int) - 1) = (w0 (rowsB s) : Int) - 1 := w64' rfl (by omega) (by omega)
    have tailS : ∀ (acc2 : List (List Int)), acc2.length ≤ 2 * i + 1 → Ev (fun k => impl_places.l0 k (w0 (rowsB s) : Int) (flatB s) (acc2 ++ southP s (w0 (rowsB s)) (w0 (rowsB s) * (rowsB s).length) i x y) ((flatB s).size : Int) ((i + 1 : Nat) : Int) x y) (acc2 ++ (southP s (w0 (rowsB s)) (w0 (rowsB s) * (rowsB s).length) i x y ++ placesC s (w0 (rowsB s)) (w0 (rowsB s) * (rowsB s).length) x y (i + 1) d)) := by
      intro acc2 ha
      have := southP_len s (w0 (rowsB s)) (w0 (rowsB s) * (rowsB s).length) i x y
      have hh := ih (i + 1) (acc2 ++ southP s (w0 (rowsB s)) (w0 (rowsB s) * (rowsB s).length) i x y) (by omega) (by rw [List.length_append]; omega)
      rw [List.append_assoc] at hh
      exact hh
    have south : ∀ (acc2 : List (List Int)), acc2.length ≤ 2 * i + 1 → Ev (fun k => if (wrap64 ((i : Int) + (w0 (rowsB s) : Int))) < ((flatB s).size : Int) then ((impl_at.f (flatB s) (i : Int) (wrap64 ((i : Int) + (w0 (rowsB s) : Int)))).bind fun bt374 => (if (bt374.1 == x && (bt374.2 == y)) = true then (if acc2.length < 5864062014805 then (impl_places.l0 k (w0 (rowsB s) : Int) (flatB s) (acc2 ++ [(([(i : Int), wrap64 ((i : Int) + (w0 (rowsB s) : Int))] : List Int))]) ((flatB s).size : Int) (wrap64 ((i : Int) + 1)) x y) else (none)) else (impl_places.l0 k (w0 (rowsB s) : Int) (flatB s) acc2 ((flatB s).size : Int) (wrap64 ((i : Int) + 1)) x y))) else (impl_places.l0 k (w0 (rowsB s) : Int) (flatB s) acc2 ((flatB s).size : Int) (wrap64 ((i : Int) + 1)) x y))
        (acc2 ++ (southP s (w0 (rowsB s)) (w0 (rowsB s) * (rowsB s).length) i x y ++ placesC s (w0 (rowsB s)) (w0 (rowsB s) * (rowsB s).length) x y (i + 1) d)) := by
      intro acc2 ha
      have hh := tailS acc2 ha
      rw [e1, e2]
      by_cases q : i + w0 (rowsB s) < w0 (rowsB s) * (rowsB s).length
      · refine Ev.pos (by omega) (Ev.bs (at_eq h (i : Int) ((i : Int) + (w0 (rowsB s) : Int)) ⟨by omega, by omega⟩ ⟨by omega, by omega⟩) ?_)
        by_cases t : isT s (i : Int) ((i : Int) + (w0 (rowsB s) : Int)) x y = true
        · have es : southP s (w0 (rowsB s)) (w0 (rowsB s) * (rowsB s).length) i x y = [[(i : Int), (i : Int) + (w0 (rowsB s) : Int)]] := by unfold southP; rw [if_pos ⟨q, t⟩]
          rw [es] at hh ⊢
          exact Ev.pos t (Ev.pos (by omega) hh)
        · have es : southP s (w0 (rowsB s)) (w0 (rowsB s) * (rowsB s).length) i x y = [] := by unfold southP; rw [if_neg (fun z => t z.2)]
          rw [es] at hh ⊢
          rw [List.append_nil] at hh
          exact Ev.neg t hh
      · have es : southP s (w0 (rowsB s)) (w0 (rowsB s) * (rowsB s).length) i x y = [] := by unfold southP; rw [if_neg (fun z => q z.1)]
        rw [es] at hh ⊢
        rw [List.append_nil] at hh
        exact Ev.neg (by omega) hh
    refine Ev.succ ?_
    simp only [impl_places.l0]
    rw [e3, tmod_nat]
    refine Ev.pos (by omega) (Ev.neg (by omega) ?_)
    rw [placesC_succ]
    by_cases q : i % w0 (rowsB s) < w0 (rowsB s) - 1
    · have hlt := east_lt hi q
      refine Ev.pos (by omega) ?_
      rw [w64' (n := (i : Int) + 1) (m := (i : Int) + 1) rfl (by omega) (by omega)]
      refine Ev.bs (at_eq h (i : Int) ((i : Int) + 1) ⟨by omega, by omega⟩ ⟨by omega, by omega⟩) (Ev.succ ?_)
      simp only [impl_places.j1]
      by_cases t : isT s (i : Int) ((i : Int) + 1) x y = true
      · have es : eastP s (w0 (rowsB s)) i x y = [[(i : Int), (i : Int) + 1]] := by unfold eastP; rw [if_pos ⟨q, t⟩]
        rw [es, ← List.append_assoc]
        refine Ev.pos t (Ev.pos (by omega) ?_)
        have hs := south (acc ++ [[(i : Int), (i : Int) + 1]]) (by simp; omega)
        rw [w64' (n := (i : Int) + 1) (m := (i : Int) + 1) rfl (by omega) (by omega)] at hs ⊢
        exact Ev.bs rfl hs
      · have es : eastP s (w0 (rowsB s)) i x y = [] := by unfold eastP; rw [if_neg (fun z => t z.2)]
        rw [es, List.nil_append]
        exact Ev.neg t (south acc (by omega))
    · have es : eastP s (w0 (rowsB s)) i x y = [] := by unfold eastP; rw [if_neg (fun z => q z.1)]
      rw [es, List.nil_append]
      refine Ev.neg (by omega) (Ev.succ ?_)
      simp only [impl_places.j1]
      exact Ev.neg (by simp) (south acc (by omega))
theorem taNear_eq (w h i : Nat) (L : List Int) (hw : 0 < w) (hwh : w * h ≤ 1000) (hwb : w ≤ 1000) (hi : i < w * h) : spec_taNear.f (w : Int) (h : Int) L (i : Int) = some (if i % w < w - 1 then (i : Int) + 1 else -1, if i + w < w * h then (i : Int) + (w : Int) else -1) := by
  have ew : wrap64 ((w : Int) * (h : Int)) = ((w * h : Nat) : Int) := mul_w (by omega)
  have e1 : wrap64 ((i : Int) + (w : Int)) = (i : Int) + (w : Int) := w64' rfl (by omega) (by omega)
  have e3 : wrap64 ((w : Int) - 1) = (w : Int) - 1 := w64' rfl (by omega) (by omega)
  have e4 : wrap64 ((i : Int) + 1) = (i : Int) + 1 := w64' rfl (by omega) (by omega)
  unfold spec_taNear.f
  rw [if_neg (by omega), ew, e1, e3, e4, tmod_nat]
  by_cases q1 : i % w < w - 1
  · rw [if_pos (by omega), if_pos q1]
    by_cases q2 : i + w < w * h
    · rw [if_pos (by omega), if_pos q2]
    · rw [if_neg (by omega), if_neg q2]
  · rw [if_neg (by omega), if_neg q1]
    by_cases q2 : i + w < w * h
    · rw [if_pos (by omega), if_pos q2]
    · rw [if_neg (by omega), if_neg q2]
theorem tiOf_at {s : ByteArray} (a b : Int) : spec_tiOf.f (rd (cells s) a) (rd (cells s) b) = some ((tileAt s a b).f0, (tileAt s a b).f1) := tiOf_eq _ _
theorem taPlaces_l0 {s : ByteArray} (h : isTab s = true) (x y : Int) : ∀ (d i : Nat) (acc : List (List Int)), i + d = w0 (rowsB s) * (rowsB s).length → acc.length ≤ 2 * i →
    Ev (fun k => spec_taPlaces.l0 k acc (cells s) ((cells s).length : Int) (i : Int) (w0 (rowsB s) : Int) ((rowsB s).length : Int) (cells s) x y) (acc ++ placesC s (w0 (rowsB s)) (w0 (rowsB s) * (rowsB s).length) x y i d) := by
  obtain ⟨c1, c2, c3, c4⟩ := cells_n h
  have hw30 : w0 (rowsB s) ≤ 1000 := by
    obtain ⟨h1, _⟩ := form_size h
    have := (w0_le s).1
    omega
  intro d
  induction d with
  | zero =>
    intro i acc h1 h2
    refine Ev.succ ?_
    simp only [spec_taPlaces.l0]
    exact Ev.neg (by omega) (Ev.ret (by simp [placesC]))
  | succ d ih =>
    intro i acc h1 h2
    have hi : i < w0 (rowsB s) * (rowsB s).length := by omega
    have e1 : wrap64 ((i : Int) + 1) = ((i + 1 : Nat) : Int) := w64' (by omega) (by omega) (by omega)
    have next : ∀ (acc2 : List (List Int)), acc2.length ≤ 2 * i + 2 → Ev (fun k => spec_taPlaces.l0 k acc2 (cells s) ((cells s).length : Int) ((i + 1 : Nat) : Int) (w0 (rowsB s) : Int) ((rowsB s).length : Int) (cells s) x y) (acc2 ++ placesC s (w0 (rowsB s)) (w0 (rowsB s) * (rowsB s).length) x y (i + 1) d) := fun acc2 ha => ih (i + 1) acc2 (by omega) (by omega)
    refine Ev.succ ?_
    simp only [spec_taPlaces.l0]
    refine Ev.pos (by omega) (Ev.pos (by omega) (Ev.pos (by omega) (Ev.bs (taNear_eq (w0 (rowsB s)) (rowsB s).length i (cells s) c3 (by omega) hw30 hi) ?_)))
    rw [placesC_succ]
    -- the part behind the cell to the east
    have south : ∀ (acc2 : List (List Int)) (ea : Int), acc2.length ≤ 2 * i + 1 → (i % w0 (rowsB s) < w0 (rowsB s) - 1 → ea = (i : Int) + 1) → (¬ i % w0 (rowsB s) < w0 (rowsB s) - 1 → ea = -1) → ∀ (so : Int), so = (if i + w0 (rowsB s) < w0 (rowsB s) * (rowsB s).length then (i : Int) + (w0 (rowsB s) : Int) else -1) →
        Ev (fun k => if so ≥ 0 then (if 0 ≤ so then (if so < ((cells s).length : Int) then ((spec_tiOf.f (rd (cells s) (i : Int)) (rd (cells s) so)).bind fun bt330 => (if (bt330.1 == x && (bt330.2 == y)) = true then (if so = ea then (spec_taPlaces.l0 k acc2 (cells s) ((cells s).length : Int) (wrap64 ((i : Int) + 1)) (w0 (rowsB s) : Int) ((rowsB s).length : Int) (cells s) x y) else (if acc2.length < 5864062014805 then (spec_taPlaces.l0 k (acc2 ++ [(([(i : Int), so] : List Int))]) (cells s) ((cells s).length : Int) (wrap64 ((i : Int) + 1)) (w0 (rowsB s) : Int) ((rowsB s).length : Int) (cells s) x y) else (none))) else (spec_taPlaces.l0 k acc2 (cells s) ((cells s).length : Int) (wrap64 ((i : Int) + 1)) (w0 (rowsB s) : Int) ((rowsB s).length : Int) (cells s) x y))) else (none)) else (none)) else (spec_taPlaces.l0 k acc2 (cells s) ((cells s).length : Int) (wrap64 ((i : Int) + 1)) (w0 (rowsB s) : Int) ((rowsB s).length : Int) (cells s) x y))
          (acc2 ++ (southP s (w0 (rowsB s)) (w0 (rowsB s) * (rowsB s).length) i x y ++ placesC s (w0 (rowsB s)) (w0 (rowsB s) * (rowsB s).length) x y (i + 1) d)) := by
      intro acc2 ea ha he1 he2 so hso
      rw [e1]
      by_cases q : i + w0 (rowsB s) < w0 (rowsB s) * (rowsB s).length
      · rw [if_pos q] at hso
        subst hso
        refine Ev.pos (by omega) (Ev.pos (by omega) (Ev.pos (by omega) (Ev.bs (tiOf_at _ _) ?_)))
        by_cases t : isT s (i : Int) ((i : Int) + (w0 (rowsB s) : Int)) x y = true
        · have es : southP s (w0 (rowsB s)) (w0 (rowsB s) * (rowsB s).length) i x y = [[(i : Int), (i : Int) + (w0 (rowsB s) : Int)]] := by unfold southP; rw [if_pos ⟨q, t⟩]
          have hne : ¬ ((i : Int) + (w0 (rowsB s) : Int) = ea) := by
            by_cases z : i % w0 (rowsB s) < w0 (rowsB s) - 1
            · rw [he1 z]; omega
            · rw [he2 z]; omega
          have hh := next (acc2 ++ [[(i : Int), (i : Int) + (w0 (rowsB s) : Int)]]) (by simp; omega)
          rw [es]
          rw [List.append_assoc] at hh
          exact Ev.pos t (Ev.neg hne (Ev.pos (by omega) hh))
        · have es : southP s (w0 (rowsB s)) (w0 (rowsB s) * (rowsB s).length) i x y = [] := by unfold southP; rw [if_neg (fun z => t z.2)]
          rw [es, List.nil_append]
          exact Ev.neg t (next acc2 (by omega))
      · have es : southP s (w0 (rowsB s)) (w0 (rowsB s) * (rowsB s).length) i x y = [] := by unfold southP; rw [if_neg (fun z => q z.1)]
        rw [es, List.nil_append]
        rw [if_neg q] at hso
        subst hso
        exact Ev.neg (by omega) (next acc2 (by omega))
    by_cases q : i % w0 (rowsB s) < w0 (rowsB s) - 1
    · have hlt := east_lt hi q
      rw [if_pos q]
      refine Ev.pos (by show (i : Int) + 1 ≥ 0; omega) (Ev.pos (by show 0 ≤ (i : Int) + 1; omega) (Ev.pos (by show (i : Int) + 1 < _; omega) (Ev.bs (tiOf_at _ _) (Ev.succ ?_))))
      simp only [spec_taPlaces.j1]
      by_cases t : isT s (i : Int) ((i : Int) + 1) x y = true
      · have es : eastP s (w0 (rowsB s)) i x y = [[(i : Int), (i : Int) + 1]] := by unfold eastP; rw [if_pos ⟨q, t⟩]
        rw [es, ← List.append_assoc]
        refine Ev.pos t (Ev.pos (by omega) (Ev.bs rfl ?_))
        exact south (acc ++ [[(i : Int), (i : Int) + 1]]) ((i : Int) + 1) (by simp; omega) (fun _ => rfl) (fun z => absurd q z) _ rfl
      · have es : eastP s (w0 (rowsB s)) i x y = [] := by unfold eastP; rw [if_neg (fun z => t z.2)]
        rw [es, List.nil_append]
        refine Ev.neg t ?_
        exact south acc ((i : Int) + 1) (by omega) (fun _ => rfl) (fun z => absurd q z) _ rfl
    · have es : eastP s (w0 (rowsB s)) i x y = [] := by unfold eastP; rw [if_neg (fun z => q z.1)]
      rw [es, List.nil_append, if_neg q]
      refine Ev.neg (by show ¬ (-1 : Int) ≥ 0; omega) (Ev.succ ?_)
      simp only [spec_taPlaces.j1]
      refine Ev.neg (by simp) ?_
      exact south acc (-1) (by omega) (fun z => absurd z q) (fun _ => rfl) _ rfl
/-- The places of a tile in a table. -/
def placesOf (s : ByteArray) (x y : Int) : List (List Int) := placesC s (w0 (rowsB s)) (w0 (rowsB s) * (rowsB s).length) x y 0 (w0 (rowsB s) * (rowsB s).length)
theorem implPlaces_ev {s : ByteArray} (hs : s.size ≤ 1048576) (h : isTab s = true) (x y : Int) : Ev (fun k => impl_places.f k s x y) (placesOf s x y) := by
  unfold impl_places.f
  refine Ev.bs (size_ev s hs (w0_le s).2.2) (Ev.bs (flat_eq s hs) ?_)
  have hk := places_l0 h x y (w0 (rowsB s) * (rowsB s).length) 0 [] (by omega) (by simp)
  rw [List.nil_append] at hk
  exact hk
theorem specPlaces_ev {s : ByteArray} (h : isTab s = true) (x y : Int) : Ev (fun k => spec_taPlaces.f k (w0 (rowsB s) : Int) ((rowsB s).length : Int) (cells s) x y) (placesOf s x y) := by
  unfold spec_taPlaces.f
  have hk := taPlaces_l0 h x y (w0 (rowsB s) * (rowsB s).length) 0 [] (by omega) (by simp)
  rw [List.nil_append] at hk
  exact hk
end Go.Proofs.YtjhbnkplpaffoaaGreatDoor.Pure
