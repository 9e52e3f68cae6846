/- impl.sorted, by hand: over the library's slices.SortFunc (laid in the text SortShelf). -/
import Derived.Test.YtokkiiepddhkiaaGreatDoorSortShelf
import Derived.Test.YtokkiiepddhkiaaGreatDoorG0
import Derived.Test.YtokkiiepddhkiaaGreatDoorMSxR
namespace Go.Proofs.YtokkiiepddhkiaaGreatDoor.Hd
open Go.RowKit Go.Proofs.YtokkiiepddhkiaaGreatDoorW.PrintWords Go.Proofs.YtokkiiepddhkiaaGreatDoorW.PrintLast Go.Proofs.YtokkiiepddhkiaaGreatDoorW.PrintMore
set_option linter.unusedVariables false
set_option linter.unusedSimpArgs false
def t10 (t : S_Tile) : Bool := decide (0 ≤ t.f0) && decide (t.f0 ≤ 9) && decide (0 ≤ t.f1) && decide (t.f1 ≤ 9)
theorem t10_iff {t : S_Tile} : t10 t = true ↔ 0 ≤ t.f0 ∧ t.f0 ≤ 9 ∧ 0 ≤ t.f1 ∧ t.f1 ≤ 9 := by
  unfold t10
  simp only [Bool.and_eq_true, decide_eq_true_eq]
  omega
def leT (x y : S_Tile) : Bool := decide (x.f0 < y.f0 ∨ (x.f0 = y.f0 ∧ x.f1 ≤ y.f1))
structure BT where
  t : S_Tile
  h : t10 t = true
instance : Inhabited BT := ⟨⟨⟨0, 0⟩, by decide⟩⟩
def toB (t : S_Tile) : BT := if h : t10 t = true then ⟨t, h⟩ else default
theorem toB_t {t : S_Tile} (h : t10 t = true) : (toB t).t = t := by unfold toB; rw [dif_pos h]
def cfB (x y : BT) : Int := if x.t.f0 = y.t.f0 then x.t.f1 - y.t.f1 else x.t.f0 - y.t.f0
def encB (x : BT) : List Value := [.int .i64 x.t.f0, .int .i64 x.t.f1]
theorem ltB (x y : BT) : ltOf cfB x y = decide (x.t.f0 < y.t.f0 ∨ (x.t.f0 = y.t.f0 ∧ x.t.f1 < y.t.f1)) := by
  unfold ltOf cfB
  rw [decide_eq_decide]
  split <;> omega
theorem swoB : Go.Sort.SWO (ltOf cfB) where
  irrefl x := by rw [ltB]; simp
  trans x y z h1 h2 := by rw [ltB, decide_eq_true_iff] at *; omega
  ntrans x y z h1 h2 := by rw [ltB, decide_eq_false_iff_not] at *; omega
theorem totB (x y : BT) (h1 : ltOf cfB x y = false) (h2 : ltOf cfB y x = false) : x = y := by
  rw [ltB, decide_eq_false_iff_not] at *
  obtain ⟨⟨a, b⟩, hx⟩ := x
  obtain ⟨⟨c, d⟩, hy⟩ := y
  dsimp only at h1 h2
  obtain ⟨rfl, rfl⟩ : a = c ∧ b = d := by omega
  rfl
theorem leB (x y : BT) : (!(ltOf cfB) y x) = leT x.t y.t := by
  rw [ltB]
  unfold leT
  rw [Bool.eq_iff_iff]
  simp only [Bool.not_eq_true', decide_eq_false_iff_not, decide_eq_true_iff]
  omega
set_option maxHeartbeats 4000000 in
theorem compare_sx (x y : BT) (W : World) : Calls Tryz.prog 87 #[.agg (encB x).toArray, .agg (encB y).toArray] W fun e w' => e = .returned (.int .i64 (cfB x y)) ∧ ∃ q os', w' = Go.Sort.grow (W.drewN q) os' := by
  obtain ⟨⟨a, b⟩, hx⟩ := x
  obtain ⟨⟨c, d⟩, hy⟩ := y
  have hx := t10_iff.1 hx
  have hy := t10_iff.1 hy
  dsimp only at hx hy
  have ew : wrap64 (b - d) = b - d := by unfold wrap64; omega
  have ew0 : wrap64 (a - c) = a - c := by unfold wrap64; omega
  show Calls Tryz.prog 87 #[.agg #[.int .i64 a, .int .i64 b], .agg #[.int .i64 c, .int .i64 d]] W fun e w' => e = .returned (.int .i64 (if a = c then b - d else a - c)) ∧ ∃ q os', w' = Go.Sort.grow (W.drewN q) os'
  by_cases h : a = c
  · rw [if_pos h, ← ew]
    have c1 : (a == c) = true := beq_iff_eq.mpr h
    have c2 : (a != c) = false := bne_eq_false_iff_eq.mpr h
    clear h hx hy ew ew0
    go_enter Tryz.func87, Tryz.ntmps87
    go_wp2
    go_ret
    exact ⟨rfl, 0, _, by rw [Go.Sort.alloc_eq_grow, Go.Sort.alloc_eq_grow, Go.Sort.grow_grow]; rfl⟩
  · rw [if_neg h, ← ew0]
    have c1 : (a == c) = false := beq_eq_false_iff_ne.mpr h
    have c2 : (a != c) = true := bne_iff_ne.mpr h
    clear h hx hy ew ew0
    go_enter Tryz.func87, Tryz.ntmps87
    go_wp2
    go_ret
    exact ⟨rfl, 0, _, by rw [Go.Sort.alloc_eq_grow, Go.Sort.alloc_eq_grow, Go.Sort.grow_grow]; rfl⟩
theorem sortedT (l : List S_Tile) (h : ∀ t ∈ l, t10 t = true) : ((l.map toB).mergeSort fun x y => !(ltOf cfB) y x).map (fun b => b.t) = l.mergeSort leT := by
  rw [List.map_mergeSort (s := leT) (fun a _ b _ => leB a b), List.map_map]
  congr 1
  conv => rhs; rw [← List.map_id l]
  exact List.map_congr_left fun t ht => toB_t (h t ht)
theorem flat_get (L : List BT) : ∀ (j : Nat), j < L.length * 2 → (L.flatMap fun b => [Value.int .i64 b.t.f0, .int .i64 b.t.f1])[j]? = some ((encB (L.toArray)[j / 2]!)[j % 2]!) := by
  induction L with
  | nil => intro j hj; simp at hj
  | cons b L ih =>
    intro j hj
    match j with
    | 0 => rfl
    | 1 => rfl
    | j + 2 =>
      have h2 := ih j (by simp at hj; omega)
      rw [List.flatMap_cons]
      show (L.flatMap _)[j]? = _
      rw [h2]
      have e1 : (j + 2) / 2 = j / 2 + 1 := by omega
      have e2 : (j + 2) % 2 = j % 2 := by omega
      rw [e1, e2]
      simp
theorem encB_at {l : List S_Tile} (hb : ∀ t ∈ l, t10 t = true) (i : Nat) (h : i < l.length) : encB (l.map toB).toArray[i]! = [.int .i64 l[i].f0, .int .i64 l[i].f1] := by
  have e : (l.map toB).toArray[i]! = toB l[i] := by simp [h]
  rw [e]
  unfold encB
  rw [toB_t (hb _ (List.getElem_mem h))]
theorem holdsT {w : World} {base cap g : Nat} {ok : Nat → Prop} {l : List S_Tile} (h : Kd.R k55 55 w base ok (.slice (some ⟨g, 0, none⟩) l.length cap) l) (hb : ∀ t ∈ l, t10 t = true) : Go.Sort.HoldsK encB 2 w g 0 (l.map toB).toArray := by
  intro t ht
  rw [Go.Sort.size_flatK] at ht
  have ht2 : t < l.length * 2 := by simpa using ht
  rw [Go.Sort.get_flatK _ _ _ _ ht, encB_at hb (t / 2) (by omega)]
  obtain ⟨c, hcl, hM, hcell, hfz⟩ := Kd.R_elem h z55 ((t / 2 : Nat) : Int) (by omega) (by omega)
  have hcc := k55_openM hM
  subst hcc
  have e2 : l.getD (((t / 2 : Nat) : Int).toNat) z55 = l[t / 2]'(by omega) := by
    rw [Int.toNat_natCast]
    simp [show t / 2 < l.length by omega]
  rw [e2] at hcell
  rcases Nat.mod_two_eq_zero_or_one t with q | q
  · have h1 := hcell 0 _ rfl
    have h2 := hfz 0
    rw [Int.toNat_natCast, show t / 2 * k55.sz + 0 = 0 + t from by show t / 2 * 2 + 0 = 0 + t; omega] at h1 h2
    rw [q]
    exact ⟨h1, h2⟩
  · have h1 := hcell 1 _ rfl
    have h2 := hfz 1
    rw [Int.toNat_natCast, show t / 2 * k55.sz + 1 = 0 + t from by show t / 2 * 2 + 1 = 0 + t; omega] at h1 h2
    rw [q]
    exact ⟨h1, h2⟩
theorem reps_flatT {α : Type} {R : α → List Value → Prop} {size : Nat} {f : α → List Value} (h : ∀ x, R x (f x)) (hs : ∀ x, (f x).length = size) (xs : List α) : Reps R size xs (xs.flatMap f) := by
  have key : ∀ (ys zs : List α), Reps R size ys (ys.flatMap f) → Reps R size (ys ++ zs) ((ys ++ zs).flatMap f) := by
    intro ys zs
    induction zs generalizing ys with
    | nil => intro h0; rwa [List.append_nil]
    | cons z zs ih =>
      intro h0
      have h1 := Reps.snoc h0 (h z) (hs z)
      have e : ys ++ z :: zs = (ys ++ [z]) ++ zs := by simp
      rw [e]
      refine ih (ys ++ [z]) ?_
      have e2 : (ys ++ [z]).flatMap f = ys.flatMap f ++ f z := by simp
      rw [e2]
      exact h1
  exact key [] xs (Reps.none _ _)
theorem flat_len (L : List S_Tile) : (L.flatMap fun x => [Value.int .i64 x.f0, Value.int .i64 x.f1]).length = L.length * 2 := by
  induction L with
  | nil => rfl
  | cons x L ih => rw [List.flatMap_cons, List.length_append, ih, List.length_cons]; simp; omega
theorem sort_R {w : World} {base : Nat} {ok : Nat → Prop} {v : Value} {l : List S_Tile} (h : Kd.R k55 55 w base ok v l) (hb : ∀ t ∈ l, t10 t = true) (hl : l.length ≤ 8388608) :
    Calls Tryz.prog 86 #[v, .func (.func 87) #[] #[]] w fun e w' => e = .returned (.tuple #[]) ∧ Kd.R k55 55 w' base ok v (l.mergeSort leT) ∧ Mv (fun k => v.ownBlock = some k) w w' := by
  have h0 := h
  obtain ⟨hsub, inner, ho, hr⟩ := h
  rcases ho.2 with ⟨rfl, hn⟩ | ⟨g, cap, cur, rfl, hg, hh, hc, hm, hcs, htk⟩
  · obtain rfl := List.eq_nil_of_length_eq_zero hn
    have hcon := AnyF.slices_SortFunc_none Tryz.sortTile none 0 (.func (.func 87) #[] #[]) w
    change Calls Tryz.prog 86 _ _ _ at hcon
    refine hcon.mono ?_
    rintro e w' ⟨rfl, rfl⟩
    exact ⟨rfl, by simpa using h0, Mv.refl _ _⟩
  · have hs : (l.map toB).toArray.size = l.length := by simp
    have hlt : g < w.heap.size := (Array.getElem?_eq_some_iff.1 hh).1
    have eg : ∀ args w, (callFunc 87 args).run Tryz.prog w = .ok (.enter 87 args) w := enters_of Tryz.func87 (by kernel_rfl) rfl
    have hcon := AnyQ.slices_SortFunc_total Tryz.sortTile 2 Tryz.isAgg55 Tryz.sizeOf55 encB (fun _ => rfl) (fun x v hv => by simp [encB] at hv; rcases hv with rfl | rfl <;> rfl) cfB swoB 87 #[] g 0 cap (l.map toB).toArray w eg (fun _ _ _ _ x y => compare_sx x y _) (holdsT h0 hb) hlt (by rw [hs]; omega) totB
    change Calls Tryz.prog 86 _ _ _ at hcon
    rw [hs] at hcon
    refine hcon.mono ?_
    rintro e w' ⟨rfl, n, os, rfl⟩
    obtain ⟨L, hL⟩ : ∃ L, L = (l.map toB).mergeSort fun x y => !(ltOf cfB) y x := ⟨_, rfl⟩
    have hLl : L.length = l.length := by rw [hL, List.length_mergeSort, List.length_map]
    have hLm : l.mergeSort leT = L.map (fun b => b.t) := by rw [hL, sortedT l hb]
    have hF : (l.mergeSort leT).flatMap (fun x => [Value.int .i64 x.f0, Value.int .i64 x.f1]) = L.flatMap (fun b => [Value.int .i64 b.t.f0, Value.int .i64 b.t.f1]) := by rw [hLm, List.flatMap_map]
    have hS : (l.mergeSort leT).length = l.length := List.length_mergeSort l
    show _ ∧ Kd.R k55 55 (sortWorldK encB 2 w g 0 n ((l.map toB).mergeSort fun x y => !(ltOf cfB) y x).toArray os) base ok _ _ ∧ Mv _ w (sortWorldK encB 2 w g 0 n ((l.map toB).mergeSort fun x y => !(ltOf cfB) y x).toArray os)
    rw [← hL]
    refine ⟨rfl, ⟨hsub, (l.mergeSort leT).flatMap (fun x => [Value.int .i64 x.f0, Value.int .i64 x.f1]), ?_, reps_flatT (fun x => k55_mkM _ _ _ x) (fun _ => rfl) _⟩, ?_⟩
    · rw [hS]
      have hsz : cur.size = cap * 2 := hcs
      refine ⟨by rw [flat_len, hS]; rfl, .inr ⟨g, cap, Go.Sort.putCells id 0 (Go.Sort.flatK encB 2 L.toArray) cur, rfl, hg, ?_, hc, hm, ?_, ?_⟩⟩
      · show ((w.heap.modify g (Go.Sort.onCells (Go.Sort.putCells id 0 (Go.Sort.flatK encB 2 L.toArray)))) ++ os)[g]? = _
        rw [Array.getElem?_append_left (by simpa using hlt), Array.getElem?_modify, if_pos rfl, hh]
        rfl
      · unfold Go.Sort.putCells
        rw [Array.size_mapIdx]; exact hcs
      · show List.take (l.length * 2) _ = _
        refine List.ext_getElem? fun j => ?_
        by_cases hj : j < l.length * 2
        · rw [List.getElem?_take_of_lt hj, Array.getElem?_toList, hF, flat_get L j (by omega)]
          unfold Go.Sort.putCells
          rw [Array.getElem?_mapIdx, Array.getElem?_eq_getElem (show j < cur.size by omega)]
          have hfs : (Go.Sort.flatK encB 2 L.toArray).size = l.length * 2 := by rw [Go.Sort.size_flatK]; simp [hLl]
          rw [Option.map_some, if_pos ⟨Nat.zero_le _, by omega⟩, Nat.sub_zero, Go.Sort.get_flatK _ _ _ _ (by simp [hLl]; omega)]
          rfl
        · rw [List.getElem?_eq_none (by rw [List.length_take]; omega), List.getElem?_eq_none (by rw [flat_len, hS]; omega)]
    · refine ⟨rfl, rfl, rfl, ?_, fun k hk hne => ?_⟩
      · show w.heap.size ≤ ((w.heap.modify g _) ++ os).size
        simp
      · show ((w.heap.modify g _) ++ os)[k]? = _
        rw [Array.getElem?_append_left (by simpa using hk), Array.getElem?_modify, if_neg (fun e => hne (by rw [← e]; rfl))]
theorem Hp.sort {w0 W W' : World} {cs : List Chunk} {α : Type} {d : Kd α} {e base : Nat} {v : Value} {l l' : List α} {F : Nat → Prop} (hp : Hp w0 (row d e base v l F :: cs) W) (hm : Mv (fun k => v.ownBlock = some k) W W') (hR : d.R e W' base F v l') : ∃ F', Hp w0 (row d e base v l' F' :: cs) W' :=
  have hrow := hp.at_ 0 _ rfl
  ⟨F, hp.upd 0 _ (row d e base v l' F) rfl (hm.mono (fun k hk => hrow.1.1 k hk)) ⟨hR, fun k hk => Nat.lt_of_lt_of_le (hrow.2 k hk) hm.size⟩ (fun k hk => .inl hk)⟩
def impl_sorted.f (l : List S_Tile) : Option (List S_Tile) := if l.all t10 = true ∧ l.length ≤ 8388608 then some (l.mergeSort leT) else none
end Go.Proofs.YtokkiiepddhkiaaGreatDoor.Hd
