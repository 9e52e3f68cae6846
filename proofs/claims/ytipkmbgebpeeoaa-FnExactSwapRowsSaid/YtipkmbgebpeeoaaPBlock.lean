/- Blocks: what IsBlock and the reference's wiBlock answer, and their tiles. -/
import Derived.Test.YtipkmbgebpeeoaaPAllIn
import Derived.Test.YtipkmbgebpeeoaaPPairs
import Derived.Test.YtipkmbgebpeeoaaPConcat
import Derived.Test.YtipkmbgebpeeoaaMBlock
import Derived.Test.YtipkmbgebpeeoaaG2
import Derived.Test.YtipkmbgebpeeoaaG2
namespace Go.Proofs.Ytipkmbgebpeeoaa.Pure
open Go.RowKit Go.Proofs.Ytipkmbgebpeeoaa.Hd Go.Proofs.YtipkmbgebpeeoaaW.PrintWords Go.Proofs.YtipkmbgebpeeoaaW.PrintLast
set_option linter.unusedVariables false
set_option linter.unusedSimpArgs false
def rowOk (m : Int) (x : List Int) : Bool := (decide ((x.length : Int) = 2) || decide ((x.length : Int) = 4)) && (decide ((x.length : Int) = m) && x.all (inB 0 9))
def blockB (l : List (List Int)) : Bool := inB 1 3 (l.length : Int) && (l.all (rowOk ((rd_i64s l 0).length : Int)) && difT (prs l.flatten))
theorem prs_append : ∀ (a b : List Int), a.length % 2 = 0 → prs (a ++ b) = prs a ++ prs b
  | [], b, _ => rfl
  | [_], b, h => by simp at h
  | x :: y :: r, b, h => by
    simp only [List.cons_append, prs]
    rw [prs_append r b (by simp at h; omega)]
theorem rowOk_even {m : Int} {x : List Int} (h : rowOk m x = true) : x.length % 2 = 0 ∧ x.length ≤ 4 ∧ x.all (inB 0 9) = true := by
  simp only [rowOk, Bool.and_eq_true, Bool.or_eq_true, decide_eq_true_eq] at h
  exact ⟨by omega, by omega, h.2.2⟩
theorem prs_flat : ∀ (l : List (List Int)), (∀ x ∈ l, x.length % 2 = 0) → prs l.flatten = (l.map prs).flatten
  | [], _ => rfl
  | x :: r, h => by
    simp only [List.flatten_cons, List.map_cons]
    rw [prs_append _ _ (h x List.mem_cons_self), prs_flat r (fun y hy => h y (List.mem_cons_of_mem _ hy))]
theorem flat_len : ∀ (l : List (List Int)) (B : Nat), (∀ x ∈ l, x.length ≤ B) → l.flatten.length ≤ B * l.length
  | [], B, _ => by simp
  | x :: r, B, h => by
    simp only [List.flatten_cons, List.length_append, List.length_cons]
    have h1 := h x List.mem_cons_self
    have h2 := flat_len r B (fun y hy => h y (List.mem_cons_of_mem _ hy))
    have e : B * (r.length + 1) = B * r.length + B := Nat.mul_succ _ _
    omega
theorem flat_all (l : List (List Int)) (p : Int → Bool) : l.flatten.all p = l.all fun x => x.all p := by
  induction l with
  | nil => rfl
  | cons x r ih => simp [List.all_append, ih]
theorem map_flat_take (l : List (List Int)) (i : Nat) (h : i < l.length) : ((l.take (i + 1)).map prs).flatten = ((l.take i).map prs).flatten ++ prs l[i] := by
  rw [List.take_succ_eq_append_getElem h, List.map_append, List.flatten_append]; simp
theorem map_flat_len (l : List (List Int)) : (l.map prs).flatten.length ≤ l.flatten.length := by
  induction l with
  | nil => simp
  | cons x r ih =>
    simp only [List.map_cons, List.flatten_cons, List.length_append]
    have := prs_len x
    omega
theorem blockTiles_l0 (l : List (List Int)) (hl : l.length ≤ 1048576) (hf : l.flatten.length ≤ 1048576) : ∀ (d i : Nat), i + d = l.length →
    Ev (fun k => spec_wiBlockTiles.l0 k ((l.take i).map prs).flatten l (l.length : Int) (i : Int)) (l.map prs).flatten := by
  intro d
  induction d with
  | zero =>
    intro i hi
    refine Ev.succ ?_
    simp only [spec_wiBlockTiles.l0]
    refine Ev.neg (by omega) (Ev.ret ?_)
    rw [List.take_of_length_le (by omega)]
  | succ d ih =>
    intro i hi
    refine Ev.succ ?_
    simp only [spec_wiBlockTiles.l0]
    have hlt : i < l.length := by omega
    have hx : l[i].length ≤ 1048576 := by
      have e := flat_take l i hlt
      have e2 := flat_le l (i + 1)
      rw [e, List.length_append] at e2
      omega
    refine Ev.pos (by omega) (Ev.pos (by omega) (Ev.pos (by omega) ?_))
    rw [rdR_at hlt]
    refine Ev.bd (wiTiles_ev l[i] hx) ?_
    have h1 := map_flat_len (l.take (i + 1))
    rw [map_flat_take l i hlt, List.length_append] at h1
    have h2 := flat_le l (i + 1)
    refine Ev.pos (by omega) ?_
    rw [w64' (m := ((i + 1 : Nat) : Int)) (by omega) (by omega) (by omega), ← map_flat_take l i hlt]
    exact ih (i + 1) (by omega)
theorem blockTiles_ev (l : List (List Int)) (hl : l.length ≤ 1048576) (hf : l.flatten.length ≤ 1048576) : Ev (fun k => spec_wiBlockTiles.f k l) (l.map prs).flatten := by
  unfold spec_wiBlockTiles.f
  exact blockTiles_l0 l hl hf l.length 0 (by omega)
theorem flat_short {l : List (List Int)} {m : Int} (h : l.all (rowOk m) = true) (hl : l.length ≤ 3) : l.flatten.length ≤ 12 := by
  have := flat_len l 4 (fun x hx => (rowOk_even (List.all_eq_true.1 h x hx)).2.1)
  omega
theorem tiles_eq {l : List (List Int)} {m : Int} (h : l.all (rowOk m) = true) : prs l.flatten = (l.map prs).flatten := prs_flat l (fun x hx => (rowOk_even (List.all_eq_true.1 h x hx)).1)
theorem flat_in {l : List (List Int)} {m : Int} (h : l.all (rowOk m) = true) : l.flatten.all (inB 0 9) = true := by
  rw [flat_all, List.all_eq_true]
  exact fun x hx => (rowOk_even (List.all_eq_true.1 h x hx)).2.2
theorem all_take_succ {α : Type} {p : α → Bool} {l : List α} {i : Nat} (h : i < l.length) (ha : (l.take i).all p = true) (hp : p l[i] = true) : (l.take (i + 1)).all p = true := by
  rw [List.take_succ_eq_append_getElem h, List.all_append, ha]; simp [hp]
theorem all_not {α : Type} {p : α → Bool} {l : List α} {i : Nat} (h : i < l.length) (hp : p l[i] = false) : l.all p = false := by
  rw [List.all_eq_false]; exact ⟨_, List.getElem_mem h, by simp [hp]⟩
theorem wiBlock_l0 (l : List (List Int)) (hl : l.length ≤ 3) (m : Int) (hm : m = ((rd_i64s l 0).length : Int)) (hr : ∀ x ∈ l, x.length ≤ 1048576) : ∀ (d i : Nat), i + d = l.length → (l.take i).all (rowOk m) = true →
    Ev (fun k => spec_wiBlock.l0 k l l (l.length : Int) (i : Int)) (l.all (rowOk m) && difT (prs l.flatten)) := by
  intro d
  induction d with
  | zero =>
    intro i hi ha
    refine Ev.succ ?_
    simp only [spec_wiBlock.l0]
    rw [List.take_of_length_le (by omega)] at ha
    have hs := flat_short ha hl
    refine Ev.neg (by omega) (Ev.bd (blockTiles_ev l (by omega) (by omega)) (Ev.bd (tiHand_ev _) (Ev.ret ?_)))
    rw [ha, Bool.true_and, ← tiles_eq ha, hand_prs (by omega) (flat_in ha)]
  | succ d ih =>
    intro i hi ha
    refine Ev.succ ?_
    simp only [spec_wiBlock.l0]
    have hlt : i < l.length := by omega
    have hx : l[i].length ≤ 1048576 := hr _ (List.getElem_mem hlt)
    refine Ev.pos (by omega) (Ev.pos (by omega) (Ev.pos (by omega) ?_))
    rw [rdR_at hlt, ← hm]
    have hall := l1All_ev l[i] (by omega) 0 9
    have no : rowOk m l[i] = false → (l.all (rowOk m) && difT (prs l.flatten)) = false := fun h => by rw [all_not hlt h, Bool.false_and]
    have go : rowOk m l[i] = true → Ev (fun k => spec_wiBlock.l0 k l l (l.length : Int) (wrap64 ((i : Int) + 1))) (l.all (rowOk m) && difT (prs l.flatten)) := fun h => by
      rw [w64' (m := ((i + 1 : Nat) : Int)) (by omega) (by omega) (by omega)]
      exact ih (i + 1) (by omega) (all_take_succ hlt ha h)
    by_cases c2 : (l[i].length : Int) = 2
    · refine Ev.pos c2 (Ev.pos (by omega) ?_)
      by_cases cm : (l[i].length : Int) = m
      · refine Ev.pos cm (Ev.bd hall ?_)
        by_cases g : l[i].all (inB 0 9) = true
        · exact Ev.pos g (go (by simp [rowOk, c2, g]; omega))
        · exact Ev.neg g (Ev.ret (no (by simp [rowOk, Bool.eq_false_iff.2 g])).symm)
      · exact Ev.neg cm (Ev.ret (no (by simp [rowOk, cm])).symm)
    · refine Ev.neg c2 ?_
      by_cases c4 : (l[i].length : Int) = 4
      · refine Ev.pos c4 (Ev.pos (by omega) ?_)
        by_cases cm : (l[i].length : Int) = m
        · refine Ev.pos cm (Ev.bd hall ?_)
          by_cases g : l[i].all (inB 0 9) = true
          · exact Ev.pos g (go (by simp [rowOk, c4, g]; omega))
          · exact Ev.neg g (Ev.ret (no (by simp [rowOk, Bool.eq_false_iff.2 g])).symm)
        · exact Ev.neg cm (Ev.ret (no (by simp [rowOk, cm])).symm)
      · exact Ev.neg c4 (Ev.ret (no (by simp only [rowOk, decide_eq_false c2, decide_eq_false c4]; rfl)).symm)
theorem wiBlock_ev (l : List (List Int)) (hr : ∀ x ∈ l, x.length ≤ 1048576) : Ev (fun k => spec_wiBlock.f k l) (blockB l) := by
  unfold spec_wiBlock.f blockB
  refine Ev.bs (l1In_eq _ _ _) ?_
  by_cases h : inB 1 3 (l.length : Int) = true
  · rw [h, Bool.true_and]
    have h3 : (l.length : Int) ≤ 3 := by simp only [inB, Bool.and_eq_true, decide_eq_true_eq] at h; exact h.2
    exact Ev.pos rfl (wiBlock_l0 l (by omega) _ rfl hr l.length 0 (by omega) (by simp))
  · rw [Bool.eq_false_iff.2 h, Bool.false_and]
    exact Ev.neg (by simp) (Ev.ret rfl)
theorem rows_eq (l : List (List Int)) : rowsB l = inB 1 3 (l.length : Int) := rfl
theorem isBlock_ev (l : List (List Int)) (hl : l.length ≤ 1048576) (hf : l.flatten.length ≤ 1048576) : Ev (fun k => impl_IsBlock.f k l) (blockB l) := by
  unfold impl_IsBlock.f blockB
  rw [rows_eq]
  by_cases h : inB 1 3 (l.length : Int) = true
  · refine Ev.pos h ?_
    rw [h, Bool.true_and]
    have h3 : 1 ≤ (l.length : Int) := by simp only [inB, Bool.and_eq_true, decide_eq_true_eq] at h; exact h.1
    have hlt : 0 < l.length := by omega
    by_cases s : sameLen l = true
    · refine Ev.pos s (Ev.bd (concat_ev l hl (by omega)) ?_)
      have sa : ∀ x ∈ l, (x.length : Int) = ((rd_i64s l 0).length : Int) := fun x hx => by
        have := List.all_eq_true.1 s x hx
        simpa using this
      by_cases hn : ((rd_i64s l 0).length : Int) = 2 ∨ ((rd_i64s l 0).length : Int) = 4
      · refine Ev.pos hn ?_
        have e : l.all (rowOk ((rd_i64s l 0).length : Int)) = l.flatten.all (inB 0 9) := by
          rw [flat_all, Bool.eq_iff_iff, List.all_eq_true, List.all_eq_true]
          constructor
          · exact fun q x hx => (rowOk_even (q x hx)).2.2
          · intro q x hx
            simp only [rowOk, Bool.and_eq_true, Bool.or_eq_true, decide_eq_true_eq]
            exact ⟨by rw [sa x hx]; exact hn, sa x hx, q x hx⟩
        rw [e]
        by_cases g : l.flatten.all (inB 0 9) = true
        · refine Ev.pos g (Ev.bd (tilesIn_ev _ (by omega)) ?_)
          rw [g, Bool.true_and]
          exact areDif_ev _ (by have := prs_len l.flatten; omega)
        · refine Ev.neg g (Ev.ret ?_)
          rw [Bool.eq_false_iff.2 g, Bool.false_and]
      · refine Ev.neg hn (Ev.ret ?_)
        have : l.all (rowOk ((rd_i64s l 0).length : Int)) = false := by
          refine all_not hlt ?_
          have e0 := sa _ (List.getElem_mem hlt)
          have c2 : ¬ (l[0].length : Int) = 2 := fun e => hn (.inl (by omega))
          have c4 : ¬ (l[0].length : Int) = 4 := fun e => hn (.inr (by omega))
          simp only [rowOk, decide_eq_false c2, decide_eq_false c4]; rfl
        rw [this, Bool.false_and]
    · refine Ev.neg s (Ev.ret ?_)
      have : l.all (rowOk ((rd_i64s l 0).length : Int)) = false := by
        rw [← Bool.not_eq_true, List.all_eq_true]
        intro q
        refine s (List.all_eq_true.2 (fun x hx => ?_))
        have := q x hx
        simp only [rowOk, Bool.and_eq_true, decide_eq_true_eq] at this
        simpa using this.2.1
      rw [this, Bool.false_and]
  · refine Ev.neg h (Ev.ret ?_)
    rw [Bool.eq_false_iff.2 h, Bool.false_and]
end Go.Proofs.Ytipkmbgebpeeoaa.Pure
