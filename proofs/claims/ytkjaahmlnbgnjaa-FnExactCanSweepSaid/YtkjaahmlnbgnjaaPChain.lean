/- Hands and chains: what IsHand and IsChain answer, and the reference's whChain. -/
import Derived.Test.YtkjaahmlnbgnjaaPSet
import Derived.Test.YtkjaahmlnbgnjaaG2
import Derived.Test.YtkjaahmlnbgnjaaPTile
import Derived.Test.YtkjaahmlnbgnjaaMHand
namespace Go.Proofs.Ytkjaahmlnbgnjaa.Pure
open Go.RowKit Go.Proofs.Ytkjaahmlnbgnjaa.Hd Go.Proofs.YtkjaahmlnbgnjaaW.PrintWords Go.Proofs.YtkjaahmlnbgnjaaW.PrintLast
set_option linter.unusedVariables false
set_option linter.unusedSimpArgs false
theorem isHand_ev (l : List S_Tile) : Ev (fun k => impl_IsHand.f k l) (handB l) := by
  unfold impl_IsHand.f handB
  by_cases h : l.length ≤ 55
  · rw [decide_eq_true h, Bool.true_and]
    refine Ev.pos (by omega) ?_
    by_cases g : l.all tileB = true
    · have g2 : l.all goodT = true := g
      rw [g2, Bool.true_and]
      exact Ev.pos g (areDif_ev l (by omega))
    · have g2 : l.all goodT = false := Bool.eq_false_iff.2 g
      rw [g2, Bool.false_and]
      exact Ev.neg g (Ev.ret rfl)
  · rw [decide_eq_false h, Bool.false_and]
    exact Ev.neg (by omega) (Ev.ret rfl)
end Go.Proofs.Ytkjaahmlnbgnjaa.Pure
namespace Go.Proofs.Ytkjaahmlnbgnjaa.Pure
open Go.RowKit Go.Proofs.Ytkjaahmlnbgnjaa.Hd Go.Proofs.YtkjaahmlnbgnjaaW.PrintWords Go.Proofs.YtkjaahmlnbgnjaaW.PrintLast
set_option linter.unusedVariables false
set_option linter.unusedSimpArgs false
/-- The tiles of a list of numbers, one after the other. -/
def adj : List Int → List S_Tile
  | a :: b :: r => tl a b :: adj (b :: r)
  | _ => []
theorem adj_len : ∀ l : List Int, (adj l).length = l.length - 1
  | [] => rfl
  | [_] => rfl
  | a :: b :: r => by have := adj_len (b :: r); simp only [adj, List.length_cons] at this ⊢; omega
theorem adj_drop {l : List Int} {i : Nat} (h : i + 1 < l.length) : adj (l.drop i) = tl l[i] l[i + 1] :: adj (l.drop (i + 1)) := by
  rw [List.drop_eq_getElem_cons (show i < l.length by omega), List.drop_eq_getElem_cons h]
  rfl
theorem adj_end {l : List Int} {i : Nat} (h : l.length ≤ i + 1) : adj (l.drop i) = [] := by
  have : (l.drop i).length ≤ 1 := by rw [List.length_drop]; omega
  match hh : l.drop i, this with
  | [], _ => rfl
  | [_], _ => rfl
theorem adj_good : ∀ {l : List Int}, l.all (inB 0 9) = true → (adj l).all goodT = true
  | [], _ => rfl
  | [_], _ => rfl
  | a :: b :: r, h => by
    have h' := h
    simp only [List.all_cons, Bool.and_eq_true] at h
    simp only [adj, List.all_cons, Bool.and_eq_true]
    refine ⟨good_tl h.1 h.2.1, adj_good ?_⟩
    simp only [List.all_cons, Bool.and_eq_true]
    exact h.2
theorem nodup_sub {α : Type} [DecidableEq α] : ∀ (l m : List α), l.Nodup → (∀ x ∈ l, x ∈ m) → l.length ≤ m.length
  | [], m, _, _ => Nat.zero_le _
  | a :: r, m, hn, hs => by
    have ha := hs a (List.mem_cons_self ..)
    rw [List.nodup_cons] at hn
    have h1 := nodup_sub r (m.erase a) hn.2 (fun x hx => (List.mem_erase_of_ne (fun (e : x = a) => hn.1 (by rw [← e]; exact hx))).2 (hs x (List.mem_cons_of_mem _ hx)))
    have h2 := List.length_erase_of_mem ha
    have h3 := List.length_pos_of_mem ha
    rw [List.length_cons]; omega
theorem set9_len : (setT 9).length = 55 := by decide
theorem good_nodup_len {l : List S_Tile} (hg : l.all goodT = true) (hn : l.Nodup) : l.length ≤ 55 := by
  rw [← set9_len]
  exact nodup_sub l (setT 9) hn (fun x hx => (setT_good x).2 (List.all_eq_true.1 hg x hx))
theorem tilesOf_l0 (l : List Int) (hl : l.length ≤ 1048576) : ∀ (d i : Nat) (acc : List S_Tile), l.length ≤ i + 1 + d → acc.length ≤ i →
    Ev (fun k => impl_tilesOf.l0 k l acc ((i + 1 : Nat) : Int)) (acc ++ adj (l.drop i)) := by
  intro d
  induction d with
  | zero =>
    intro i acc hi ha
    refine Ev.succ ?_
    simp only [impl_tilesOf.l0]
    rw [adj_end (by omega), List.append_nil]
    exact Ev.neg (by omega) (Ev.ret rfl)
  | succ d ih =>
    intro i acc hi ha
    refine Ev.succ ?_
    simp only [impl_tilesOf.l0]
    by_cases h : i + 1 < l.length
    · rw [w64' (n := ((i + 1 : Nat) : Int) - 1) (m := (i : Int)) (by omega) (by omega) (by omega), w64' (n := ((i + 1 : Nat) : Int) + 1) (m := ((i + 1 + 1 : Nat) : Int)) (by omega) (by omega) (by omega), rd_at (show i < l.length by omega), rd_at h]
      refine Ev.pos (by omega) (Ev.pos (by omega) (Ev.pos (by omega) (Ev.pos (by omega) (Ev.bs (impl_tile_eq _ _) (Ev.pos (by omega) ?_)))))
      have hh := ih (i + 1) (acc ++ [tl l[i] l[i + 1]]) (by omega) (by simp only [List.length_append, List.length_cons, List.length_nil]; omega)
      rw [List.append_assoc] at hh
      rw [adj_drop h]
      exact hh
    · rw [adj_end (by omega), List.append_nil]
      exact Ev.neg (by omega) (Ev.ret rfl)
theorem tilesOf_ev (l : List Int) (hl : l.length ≤ 1048576) : Ev (fun k => impl_tilesOf.f k l) (adj l) := by
  unfold impl_tilesOf.f
  exact tilesOf_l0 l hl l.length 0 [] (by omega) (Nat.le_refl _)
/-- A chain. -/
def chainB (l : List Int) : Bool := decide (0 < l.length) && (l.all (inB 0 9) && difT (adj l))
theorem isChain_ev (l : List Int) (hl : l.length ≤ 1048576) : Ev (fun k => impl_IsChain.f k l) (chainB l) := by
  unfold impl_IsChain.f chainB
  have := adj_len l
  by_cases h : 0 < l.length
  · rw [decide_eq_true h, Bool.true_and]
    refine Ev.pos (by omega) (Ev.bs (areWithin_eq l 0 9) ?_)
    by_cases g : l.all (inB 0 9) = true
    · rw [g, Bool.true_and]
      exact Ev.pos rfl (Ev.bd (tilesOf_ev l hl) (Ev.bd (areDif_ev _ (by omega)) (Ev.ret rfl)))
    · rw [Bool.eq_false_iff.2 g, Bool.false_and]
      exact Ev.neg (by simp) (Ev.ret rfl)
  · rw [decide_eq_false h, Bool.false_and]
    exact Ev.neg (by omega) (Ev.ret rfl)
theorem whChain_l0 (l : List Int) (hl : l.length ≤ 1048576) (ts : List S_Tile) (hts : ts = adj l) : ∀ (d i : Nat) (acc : List S_Tile), l.length ≤ i + 1 + d → acc.length ≤ i → acc ++ adj (l.drop i) = ts →
    Ev (fun k => spec_whChain.l0 k l acc ((i + 1 : Nat) : Int)) (ts, handB ts) := by
  intro d
  induction d with
  | zero =>
    intro i acc hi ha he
    refine Ev.succ ?_
    simp only [spec_whChain.l0]
    rw [adj_end (by omega), List.append_nil] at he
    rw [he]
    exact Ev.neg (by omega) (Ev.bd (tiHand_ev ts) (Ev.ret rfl))
  | succ d ih =>
    intro i acc hi ha he
    refine Ev.succ ?_
    simp only [spec_whChain.l0]
    by_cases h : i + 1 < l.length
    · rw [w64' (n := ((i + 1 : Nat) : Int) - 1) (m := (i : Int)) (by omega) (by omega) (by omega), w64' (n := ((i + 1 : Nat) : Int) + 1) (m := ((i + 1 + 1 : Nat) : Int)) (by omega) (by omega) (by omega), rd_at (show i < l.length by omega), rd_at h]
      refine Ev.pos (by omega) (Ev.pos (by omega) (Ev.pos (by omega) (Ev.pos (by omega) (Ev.bs (spec_tiOf_eq _ _) (Ev.pos (by omega) ?_)))))
      refine ih (i + 1) (acc ++ [tl l[i] l[i + 1]]) (by omega) (by simp only [List.length_append, List.length_cons, List.length_nil]; omega) ?_
      rw [adj_drop h] at he
      rw [List.append_assoc]
      exact he
    · rw [adj_end (by omega), List.append_nil] at he
      rw [he]
      exact Ev.neg (by omega) (Ev.bd (tiHand_ev ts) (Ev.ret rfl))
theorem hand_adj {l : List Int} (hl : l.length ≤ 56) (h : l.all (inB 0 9) = true) : handB (adj l) = difT (adj l) := by
  have := adj_len l
  unfold handB
  rw [adj_good h, decide_eq_true (by omega), Bool.true_and, Bool.true_and]
def resWhChain (l : List Int) : List S_Tile × Bool := if (inB 1 56 (l.length : Int) && l.all (inB 0 9)) = true then (adj l, handB (adj l)) else ([], false)
theorem whChain_ev (l : List Int) (hl : l.length ≤ 1048576) : Ev (fun k => spec_whChain.f k l) (resWhChain l) := by
  unfold spec_whChain.f resWhChain
  refine Ev.bs (l1In_eq _ _ _) ?_
  by_cases h : inB 1 56 (l.length : Int) = true
  · rw [h, Bool.true_and]
    refine Ev.pos rfl (Ev.bd (l1All_ev l (by omega) 0 9) (Ev.succ ?_))
    simp only [spec_whChain.j0]
    by_cases g : l.all (inB 0 9) = true
    · rw [g]
      refine Ev.ifp rfl (Ev.neg (by decide) ?_)
      exact whChain_l0 l hl (adj l) rfl l.length 0 [] (by omega) (Nat.le_refl _) rfl
    · rw [Bool.eq_false_iff.2 g]
      exact Ev.ifn (by decide) (Ev.pos rfl (Ev.ret rfl))
  · rw [Bool.eq_false_iff.2 h, Bool.false_and]
    refine Ev.neg (by decide) (Ev.ifn (by decide) (Ev.succ ?_))
    simp only [spec_whChain.j0]
    exact Ev.pos (by trivial) (Ev.ret rfl)
/-- The reference's test of a chain says what the program's says. -/
theorem resWhChain_eq (l : List Int) : (resWhChain l).2 = chainB l := by
  unfold resWhChain chainB
  by_cases g : l.all (inB 0 9) = true
  · rw [g, Bool.and_true, Bool.true_and]
    by_cases h : inB 1 56 (l.length : Int) = true
    · rw [if_pos h]
      have hb : 1 ≤ (l.length : Int) ∧ (l.length : Int) ≤ 56 := by simpa [inB] using h
      rw [decide_eq_true (by omega), Bool.true_and]
      exact hand_adj (by omega) g
    · rw [if_neg h]
      have hb : ¬ (1 ≤ (l.length : Int) ∧ (l.length : Int) ≤ 56) := by simpa [inB] using h
      by_cases h0 : 0 < l.length
      · have hn : ¬ (adj l).Nodup := by
          intro hn
          have := good_nodup_len (adj_good g) hn
          have := adj_len l
          omega
        rw [show difT (adj l) = false from decide_eq_false hn, Bool.and_false]
      · rw [decide_eq_false h0, Bool.false_and]
  · rw [Bool.eq_false_iff.2 g, Bool.and_false, Bool.false_and, Bool.and_false]
    rfl
theorem resWhChain_fst {l : List Int} (h : chainB l = true) : (resWhChain l).1 = adj l := by
  have h2 := resWhChain_eq l
  rw [h] at h2
  unfold resWhChain at h2 ⊢
  split
  · rfl
  · rename_i hc; rw [if_neg hc] at h2; cases h2
end Go.Proofs.Ytkjaahmlnbgnjaa.Pure
