/- Games: what IsGame and the reference's plGood answer. -/
import Derived.Test.YtjaojemmbeddfaaGreatG2
import Derived.Test.YtjaojemmbeddfaaGreatG4
import Derived.Test.YtjaojemmbeddfaaGreatMWithin
import Derived.Test.YtjaojemmbeddfaaGreatPEv
import Derived.Test.YtjaojemmbeddfaaGreatMInB
import Derived.Test.YtjaojemmbeddfaaGreatG0
import Derived.Test.YtjaojemmbeddfaaGreatMGrowTile
import Derived.Test.YtjaojemmbeddfaaGreatG1
import Derived.Test.YtjaojemmbeddfaaGreatPSet
import Derived.Test.YtjaojemmbeddfaaGreatPTile
import Derived.Test.YtjaojemmbeddfaaGreatMHand
import Derived.Test.YtjaojemmbeddfaaGreatPTile0
namespace Go.Proofs.YtjaojemmbeddfaaGreat.Pure
open Go.RowKit Go.Proofs.YtjaojemmbeddfaaGreat.Hd Go.Proofs.YtjaojemmbeddfaaGreatW.PrintWords Go.Proofs.YtjaojemmbeddfaaGreatW.PrintLast
set_option linter.unusedVariables false
set_option linter.unusedSimpArgs false
theorem l1All_l0 (l : List Int) (hl : l.length ≤ 8388608) (a b : Int) : ∀ (d i : Nat), i + d = l.length → (l.take i).all (inB a b) = true →
    Ev (fun k => spec_l1All.l0 k a b l (l.length : Int) (i : Int)) (l.all (inB a b)) := by
  intro d
  induction d with
  | zero =>
    intro i hi hn
    refine Ev.succ ?_
    simp only [spec_l1All.l0]
    rw [List.take_of_length_le (by omega)] at hn
    exact Ev.neg (by omega) (Ev.ret hn.symm)
  | succ d ih =>
    intro i hi hn
    refine Ev.succ ?_
    have hlt : i < l.length := by omega
    simp only [spec_l1All.l0]
    refine Ev.pos (by omega) (Ev.pos (by omega) (Ev.pos (by omega) (Ev.bs (l1In_eq _ _ _) ?_)))
    rw [w64' (n := (i : Int) + 1) (m := ((i + 1 : Nat) : Int)) (by omega) (by omega) (by omega), rd_at hlt]
    by_cases e : inB a b l[i] = true
    · refine Ev.pos e (ih (i + 1) (by omega) ?_)
      rw [List.take_succ_eq_append_getElem hlt, List.all_append, hn]
      simp [e]
    · refine Ev.neg e (Ev.ret ?_)
      refine (List.all_eq_false.2 ⟨l[i], List.getElem_mem hlt, e⟩).symm
theorem l1All_ev (l : List Int) (hl : l.length ≤ 8388608) (a b : Int) : Ev (fun k => spec_l1All.f k l a b) (l.all (inB a b)) := by
  unfold spec_l1All.f
  exact l1All_l0 l hl a b l.length 0 (by omega) (by simp)
theorem areWithin_eq (l : List Int) (a b : Int) : impl_areWithin.f l a b = some (l.all (inB a b)) := rfl
end Go.Proofs.YtjaojemmbeddfaaGreat.Pure
namespace Go.Proofs.YtjaojemmbeddfaaGreat.Pure
open Go.RowKit Go.Proofs.YtjaojemmbeddfaaGreat.Hd Go.Proofs.YtjaojemmbeddfaaGreatW.PrintWords Go.Proofs.YtjaojemmbeddfaaGreatW.PrintLast
set_option linter.unusedVariables false
set_option linter.unusedSimpArgs false
def tl (a b : Int) : S_Tile := ⟨min a b, max a b⟩
theorem spec_tiOf_eq (a b : Int) : spec_tiOf.f a b = some ((tl a b).f0, (tl a b).f1) := by
  unfold spec_tiOf.f spec_l1Least.f spec_l1Most.f tl
  by_cases h : a < b
  · rw [if_pos h, Option.bind_some, if_neg (by omega), Option.bind_some]
    simp only [Option.some.injEq, Prod.mk.injEq]; omega
  · rw [if_neg h, Option.bind_some]
    by_cases h2 : a > b
    · rw [if_pos h2, Option.bind_some]; simp only [Option.some.injEq, Prod.mk.injEq]; omega
    · rw [if_neg h2, Option.bind_some]; simp only [Option.some.injEq, Prod.mk.injEq]; omega
theorem good_tl {a b : Int} (ha : inB 0 9 a = true) (hb : inB 0 9 b = true) : goodT (tl a b) = true := by
  simp only [inB, Bool.and_eq_true, decide_eq_true_eq] at ha hb
  unfold goodT tl
  rw [Bool.and_eq_true, Bool.and_eq_true]
  exact ⟨⟨decide_eq_true (by show 0 ≤ min a b; omega), decide_eq_true (by show min a b ≤ max a b; omega)⟩, decide_eq_true (by show max a b ≤ 9; omega)⟩
end Go.Proofs.YtjaojemmbeddfaaGreat.Pure
namespace Go.Proofs.YtjaojemmbeddfaaGreat.Pure
open Go.RowKit Go.Proofs.YtjaojemmbeddfaaGreat.Hd Go.Proofs.YtjaojemmbeddfaaGreatW.PrintWords Go.Proofs.YtjaojemmbeddfaaGreatW.PrintLast
set_option linter.unusedVariables false
set_option linter.unusedSimpArgs false
theorem isHand_ev (l : List S_Tile) : Ev (fun k => impl_IsHand.f k l) (handB l) := by
  unfold impl_IsHand.f handB
  by_cases h : l.length ≤ 55
  · rw [decide_eq_true h, Bool.true_and]
    refine Ev.pos (by omega) ?_
    by_cases g : l.all tileB = true
    · have g2 : l.all goodT = true := g
      rw [g2, Bool.true_and]
      exact Ev.pos g (areDif_ev l (by omega))
    · have g2 : l.all goodT = false := Bool.eq_false_iff.2 g
      rw [g2, Bool.false_and]
      exact Ev.neg g (Ev.ret rfl)
  · rw [decide_eq_false h, Bool.false_and]
    exact Ev.neg (by omega) (Ev.ret rfl)
end Go.Proofs.YtjaojemmbeddfaaGreat.Pure
namespace Go.Proofs.YtjaojemmbeddfaaGreat.Pure
open Go.RowKit Go.Proofs.YtjaojemmbeddfaaGreat.Hd Go.Proofs.YtjaojemmbeddfaaGreatW.PrintWords Go.Proofs.YtjaojemmbeddfaaGreatW.PrintLast
set_option linter.unusedVariables false
set_option linter.unusedSimpArgs false
theorem impl_tile_eq (a b : Int) : impl_tile.f a b = some ((tl a b).f0, (tl a b).f1) := by
  unfold impl_tile.f tl; rw [mn_min, mx_max]
end Go.Proofs.YtjaojemmbeddfaaGreat.Pure
namespace Go.Proofs.YtjaojemmbeddfaaGreat.Pure
open Go.RowKit Go.Proofs.YtjaojemmbeddfaaGreat.Hd Go.Proofs.YtjaojemmbeddfaaGreatW.PrintWords Go.Proofs.YtjaojemmbeddfaaGreatW.PrintLast
set_option linter.unusedVariables false
set_option linter.unusedSimpArgs false
/-- The tiles of a list of numbers, one after the other. -/
def adj : List Int → List S_Tile
  | a :: b :: r => tl a b :: adj (b :: r)
  | _ => []
theorem adj_len : ∀ l : List Int, (adj l).length = l.length - 1
  | [] => rfl
  | [_] => rfl
  | a :: b :: r => by have := adj_len (b :: r); simp only [adj, List.length_cons] at this ⊢; omega
theorem adj_drop {l : List Int} {i : Nat} (h : i + 1 < l.length) : adj (l.drop i) = tl l[i] l[i + 1] :: adj (l.drop (i + 1)) := by
  rw [List.drop_eq_getElem_cons (show i < l.length by omega), List.drop_eq_getElem_cons h]
  rfl
theorem adj_end {l : List Int} {i : Nat} (h : l.length ≤ i + 1) : adj (l.drop i) = [] := by
  have : (l.drop i).length ≤ 1 := by rw [List.length_drop]; omega
  match hh : l.drop i, this with
  | [], _ => rfl
  | [_], _ => rfl
theorem adj_good : ∀ {l : List Int}, l.all (inB 0 9) = true → (adj l).all goodT = true
  | [], _ => rfl
  | [_], _ => rfl
  | a :: b :: r, h => by
    have h' := h
    simp only [List.all_cons, Bool.and_eq_true] at h
    simp only [adj, List.all_cons, Bool.and_eq_true]
    refine ⟨good_tl h.1 h.2.1, adj_good ?_⟩
    simp only [List.all_cons, Bool.and_eq_true]
    exact h.2
theorem nodup_sub {α : Type} [DecidableEq α] : ∀ (l m : List α), l.Nodup → (∀ x ∈ l, x ∈ m) → l.length ≤ m.length
  | [], m, _, _ => Nat.zero_le _
  | a :: r, m, hn, hs => by
    have ha := hs a (List.mem_cons_self ..)
    rw [List.nodup_cons] at hn
    have h1 := nodup_sub r (m.erase a) hn.2 (fun x hx => (List.mem_erase_of_ne (fun (e : x = a) => hn.1 (by rw [← e]; exact hx))).2 (hs x (List.mem_cons_of_mem _ hx)))
    have h2 := List.length_erase_of_mem ha
    have h3 := List.length_pos_of_mem ha
    rw [List.length_cons]; omega
theorem set9_len : (setT 9).length = 55 := by decide
theorem good_nodup_len {l : List S_Tile} (hg : l.all goodT = true) (hn : l.Nodup) : l.length ≤ 55 := by
  rw [← set9_len]
  exact nodup_sub l (setT 9) hn (fun x hx => (setT_good x).2 (List.all_eq_true.1 hg x hx))
theorem tilesOf_l0 (l : List Int) (hl : l.length ≤ 1048576) : ∀ (d i : Nat) (acc : List S_Tile), l.length ≤ i + 1 + d → acc.length ≤ i →
    Ev (fun k => impl_tilesOf.l0 k l acc ((i + 1 : Nat) : Int)) (acc ++ adj (l.drop i)) := by
  intro d
  induction d with
  | zero =>
    intro i acc hi ha
    refine Ev.succ ?_
    simp only [impl_tilesOf.l0]
    rw [adj_end (by omega), List.append_nil]
    exact Ev.neg (by omega) (Ev.ret rfl)
  | succ d ih =>
    intro i acc hi ha
    refine Ev.succ ?_
    simp only [impl_tilesOf.l0]
    by_cases h : i + 1 < l.length
    · rw [w64' (n := ((i + 1 : Nat) : Int) - 1) (m := (i : Int)) (by omega) (by omega) (by omega), w64' (n := ((i + 1 : Nat) : Int) + 1) (m := ((i + 1 + 1 : Nat) : Int)) (by omega) (by omega) (by omega), rd_at (show i < l.length by omega), rd_at h]
      refine Ev.pos (by omega) (Ev.pos (by omega) (Ev.pos (by omega) (Ev.pos (by omega) (Ev.bs (impl_tile_eq _ _) (Ev.pos (by omega) ?_)))))
      have hh := ih (i + 1) (acc ++ [tl l[i] l[i + 1]]) (by omega) (by simp only [List.length_append, List.length_cons, List.length_nil]; omega)
      rw [List.append_assoc] at hh
      rw [adj_drop h]
      exact hh
    · rw [adj_end (by omega), List.append_nil]
      exact Ev.neg (by omega) (Ev.ret rfl)
theorem tilesOf_ev (l : List Int) (hl : l.length ≤ 1048576) : Ev (fun k => impl_tilesOf.f k l) (adj l) := by
  unfold impl_tilesOf.f
  exact tilesOf_l0 l hl l.length 0 [] (by omega) (Nat.le_refl _)
/-- A chain. -/
def chainB (l : List Int) : Bool := decide (0 < l.length) && (l.all (inB 0 9) && difT (adj l))
theorem isChain_ev (l : List Int) (hl : l.length ≤ 1048576) : Ev (fun k => impl_IsChain.f k l) (chainB l) := by
  unfold impl_IsChain.f chainB
  have := adj_len l
  by_cases h : 0 < l.length
  · rw [decide_eq_true h, Bool.true_and]
    refine Ev.pos (by omega) (Ev.bs (areWithin_eq l 0 9) ?_)
    by_cases g : l.all (inB 0 9) = true
    · rw [g, Bool.true_and]
      exact Ev.pos rfl (Ev.bd (tilesOf_ev l hl) (Ev.bd (areDif_ev _ (by omega)) (Ev.ret rfl)))
    · rw [Bool.eq_false_iff.2 g, Bool.false_and]
      exact Ev.neg (by simp) (Ev.ret rfl)
  · rw [decide_eq_false h, Bool.false_and]
    exact Ev.neg (by omega) (Ev.ret rfl)
theorem whChain_l0 (l : List Int) (hl : l.length ≤ 1048576) (ts : List S_Tile) (hts : ts = adj l) : ∀ (d i : Nat) (acc : List S_Tile), l.length ≤ i + 1 + d → acc.length ≤ i → acc ++ adj (l.drop i) = ts →
    Ev (fun k => spec_whChain.l0 k l acc ((i + 1 : Nat) : Int)) (ts, handB ts) := by
  intro d
  induction d with
  | zero =>
    intro i acc hi ha he
    refine Ev.succ ?_
    simp only [spec_whChain.l0]
    rw [adj_end (by omega), List.append_nil] at he
    rw [he]
    exact Ev.neg (by omega) (Ev.bd (tiHand_ev ts) (Ev.ret rfl))
  | succ d ih =>
    intro i acc hi ha he
    refine Ev.succ ?_
    simp only [spec_whChain.l0]
    by_cases h : i + 1 < l.length
    · rw [w64' (n := ((i + 1 : Nat) : Int) - 1) (m := (i : Int)) (by omega) (by omega) (by omega), w64' (n := ((i + 1 : Nat) : Int) + 1) (m := ((i + 1 + 1 : Nat) : Int)) (by omega) (by omega) (by omega), rd_at (show i < l.length by omega), rd_at h]
      refine Ev.pos (by omega) (Ev.pos (by omega) (Ev.pos (by omega) (Ev.pos (by omega) (Ev.bs (spec_tiOf_eq _ _) (Ev.pos (by omega) ?_)))))
      refine ih (i + 1) (acc ++ [tl l[i] l[i + 1]]) (by omega) (by simp only [List.length_append, List.length_cons, List.length_nil]; omega) ?_
      rw [adj_drop h] at he
      rw [List.append_assoc]
      exact he
    · rw [adj_end (by omega), List.append_nil] at he
      rw [he]
      exact Ev.neg (by omega) (Ev.bd (tiHand_ev ts) (Ev.ret rfl))
theorem hand_adj {l : List Int} (hl : l.length ≤ 56) (h : l.all (inB 0 9) = true) : handB (adj l) = difT (adj l) := by
  have := adj_len l
  unfold handB
  rw [adj_good h, decide_eq_true (by omega), Bool.true_and, Bool.true_and]
def resWhChain (l : List Int) : List S_Tile × Bool := if (inB 1 56 (l.length : Int) && l.all (inB 0 9)) = true then (adj l, handB (adj l)) else ([], false)
theorem whChain_ev (l : List Int) (hl : l.length ≤ 1048576) : Ev (fun k => spec_whChain.f k l) (resWhChain l) := by
  unfold spec_whChain.f resWhChain
  refine Ev.bs (l1In_eq _ _ _) ?_
  by_cases h : inB 1 56 (l.length : Int) = true
  · rw [h, Bool.true_and]
    refine Ev.pos rfl (Ev.bd (l1All_ev l (by omega) 0 9) (Ev.succ ?_))
    simp only [spec_whChain.j0]
    by_cases g : l.all (inB 0 9) = true
    · rw [g]
      refine Ev.ifp rfl (Ev.neg (by decide) ?_)
      exact whChain_l0 l hl (adj l) rfl l.length 0 [] (by omega) (Nat.le_refl _) rfl
    · rw [Bool.eq_false_iff.2 g]
      exact Ev.ifn (by decide) (Ev.pos rfl (Ev.ret rfl))
  · rw [Bool.eq_false_iff.2 h, Bool.false_and]
    refine Ev.neg (by decide) (Ev.ifn (by decide) (Ev.succ ?_))
    simp only [spec_whChain.j0]
    exact Ev.pos (by trivial) (Ev.ret rfl)
/-- The reference's test of a chain says what the program's says. -/
theorem resWhChain_eq (l : List Int) : (resWhChain l).2 = chainB l := by
  unfold resWhChain chainB
  by_cases g : l.all (inB 0 9) = true
  · rw [g, Bool.and_true, Bool.true_and]
    by_cases h : inB 1 56 (l.length : Int) = true
    · rw [if_pos h]
      have hb : 1 ≤ (l.length : Int) ∧ (l.length : Int) ≤ 56 := by simpa [inB] using h
      rw [decide_eq_true (by omega), Bool.true_and]
      exact hand_adj (by omega) g
    · rw [if_neg h]
      have hb : ¬ (1 ≤ (l.length : Int) ∧ (l.length : Int) ≤ 56) := by simpa [inB] using h
      by_cases h0 : 0 < l.length
      · have hn : ¬ (adj l).Nodup := by
          intro hn
          have := good_nodup_len (adj_good g) hn
          have := adj_len l
          omega
        rw [show difT (adj l) = false from decide_eq_false hn, Bool.and_false]
      · rw [decide_eq_false h0, Bool.false_and]
  · rw [Bool.eq_false_iff.2 g, Bool.and_false, Bool.false_and, Bool.and_false]
    rfl
theorem resWhChain_fst {l : List Int} (h : chainB l = true) : (resWhChain l).1 = adj l := by
  have h2 := resWhChain_eq l
  rw [h] at h2
  unfold resWhChain at h2 ⊢
  split
  · rfl
  · rename_i hc; rw [if_neg hc] at h2; cases h2
end Go.Proofs.YtjaojemmbeddfaaGreat.Pure
namespace Go.Proofs.YtjaojemmbeddfaaGreat.Pure
open Go.RowKit Go.Proofs.YtjaojemmbeddfaaGreat.Hd Go.Proofs.YtjaojemmbeddfaaGreatW.PrintWords Go.Proofs.YtjaojemmbeddfaaGreatW.PrintLast
set_option linter.unusedVariables false
set_option linter.unusedSimpArgs false
theorem rdRT_at {l : List (List S_Tile)} {i : Nat} (h : i < l.length) : rd_Tiles l (i : Int) = l[i] := by simp [rd_Tiles, h]
theorem flat_takeT (l : List (List S_Tile)) (i : Nat) (h : i < l.length) : (l.take (i + 1)).flatten = (l.take i).flatten ++ l[i] := by
  rw [List.take_succ_eq_append_getElem h, List.flatten_append]; simp
theorem flat_leT (l : List (List S_Tile)) (i : Nat) : (l.take i).flatten.length ≤ l.flatten.length := by
  conv => rhs; rw [← List.take_append_drop i l, List.flatten_append, List.length_append]
  omega
theorem concatT_l1 (l : List (List S_Tile)) (hl : l.length ≤ 1048576) (hf : l.flatten.length < 4398046511104) : ∀ (d i : Nat), i + d = l.length →
    Ev (fun k => slices_Concat_impl_Tile_impl_Tile.l1 k (l.take i).flatten l (l.length : Int) (i : Int)) l.flatten := by
  intro d
  induction d with
  | zero =>
    intro i hi
    refine Ev.succ ?_
    simp only [slices_Concat_impl_Tile_impl_Tile.l1]
    exact Ev.neg (by omega) (Ev.ret (by rw [List.take_of_length_le (by omega)]))
  | succ d ih =>
    intro i hi
    refine Ev.succ ?_
    have hlt : i < l.length := by omega
    have h1 := flat_takeT l i hlt
    have h2 := flat_leT l (i + 1)
    simp only [slices_Concat_impl_Tile_impl_Tile.l1]
    rw [w64' (n := (i : Int) + 1) (m := ((i + 1 : Nat) : Int)) (by omega) (by omega) (by omega), rdRT_at hlt, ← h1]
    refine Ev.pos (by omega) (Ev.pos (by omega) (Ev.pos (by omega) (Ev.pos ?_ (ih (i + 1) (by omega)))))
    rw [h1, List.length_append] at h2
    omega
theorem concatT_l0 (l : List (List S_Tile)) (hl : l.length ≤ 1048576) (hf : l.flatten.length < 4398046511104) : ∀ (d i : Nat), i + d = l.length →
    Ev (fun k => slices_Concat_impl_Tile_impl_Tile.l0 k l (((l.take i).flatten.length : Nat) : Int) l (l.length : Int) (i : Int)) l.flatten := by
  intro d
  induction d with
  | zero =>
    intro i hi
    refine Ev.succ ?_
    simp only [slices_Concat_impl_Tile_impl_Tile.l0]
    have h2 := flat_leT l i
    refine Ev.neg (by omega) (Ev.bs (a := []) ?_ (concatT_l1 l hl hf l.length 0 (by omega)))
    unfold slices_Grow_impl_Tile_impl_Tile.f
    rw [if_pos (by omega), if_pos (by omega)]
  | succ d ih =>
    intro i hi
    refine Ev.succ ?_
    have hlt : i < l.length := by omega
    have h1 := congrArg List.length (flat_takeT l i hlt)
    rw [List.length_append] at h1
    have h2 := flat_leT l (i + 1)
    simp only [slices_Concat_impl_Tile_impl_Tile.l0]
    rw [w64' (n := (i : Int) + 1) (m := ((i + 1 : Nat) : Int)) (by omega) (by omega) (by omega), rdRT_at hlt, w64' (n := (((l.take i).flatten.length : Nat) : Int) + (l[i].length : Int)) (m := (((l.take (i + 1)).flatten.length : Nat) : Int)) (by omega) (by omega) (by omega)]
    exact Ev.pos (by omega) (Ev.pos (by omega) (Ev.pos (by omega) (Ev.neg (by omega) (ih (i + 1) (by omega)))))
theorem concatT_ev (l : List (List S_Tile)) (hl : l.length ≤ 1048576) (hf : l.flatten.length < 4398046511104) : Ev (fun k => slices_Concat_impl_Tile_impl_Tile.f k l) l.flatten := by
  unfold slices_Concat_impl_Tile_impl_Tile.f
  have h := concatT_l0 l hl hf l.length 0 (by omega)
  simpa using h
end Go.Proofs.YtjaojemmbeddfaaGreat.Pure
namespace Go.Proofs.YtjaojemmbeddfaaGreat.Pure
open Go.RowKit Go.Proofs.YtjaojemmbeddfaaGreat.Hd Go.Proofs.YtjaojemmbeddfaaGreatW.PrintWords Go.Proofs.YtjaojemmbeddfaaGreatW.PrintLast
set_option linter.unusedVariables false
set_option linter.unusedSimpArgs false
theorem within_eq (n a b : Int) : impl_within.f n a b = some (inB a b n) := by
  unfold impl_within.f inB
  by_cases h : a ≤ n
  · rw [if_pos h, decide_eq_true h, Bool.true_and]
  · rw [if_neg h, decide_eq_false h, Bool.false_and]
end Go.Proofs.YtjaojemmbeddfaaGreat.Pure
namespace Go.Proofs.YtjaojemmbeddfaaGreat.Pure
open Go.RowKit Go.Proofs.YtjaojemmbeddfaaGreat.Hd Go.Proofs.YtjaojemmbeddfaaGreatW.PrintWords Go.Proofs.YtjaojemmbeddfaaGreatW.PrintLast
set_option linter.unusedVariables false
set_option linter.unusedSimpArgs false
end Go.Proofs.YtjaojemmbeddfaaGreat.Pure
namespace Go.Proofs.YtjaojemmbeddfaaGreat.Pure
open Go.RowKit Go.Proofs.YtjaojemmbeddfaaGreat.Hd Go.Proofs.YtjaojemmbeddfaaGreatW.PrintWords Go.Proofs.YtjaojemmbeddfaaGreatW.PrintLast
set_option linter.unusedVariables false
set_option linter.unusedSimpArgs false
/-- A row: empty, or a chain with tiles. -/
def rowB (r : List Int) : Bool := decide (r.length = 0) || (decide (r.length ≠ 1) && chainB r)
def gameB (f s : List S_Tile) (r : List Int) (t p : Int) : Bool :=
  (handB f && (handB s && (inB 0 1 t && inB 0 2 p))) && (rowB r && difT (f ++ s ++ adj r))
theorem adj_nil {r : List Int} (h : r.length ≤ 1) : adj r = [] := by
  have := @adj_end r 0 (by omega)
  simpa using this
theorem isGame_ev (f s : List S_Tile) (r : List Int) (t p : Int) (hf : f.length ≤ 1048576) (hs : s.length ≤ 1048576) (hr : r.length ≤ 1048576) : Ev (fun k => impl_IsGame.f k f s r t p) (gameB f s r t p) := by
  have j1t : Ev (fun k => impl_IsGame.j1 k true f s r t p) false := by
    refine Ev.succ ?_
    simp only [impl_IsGame.j1]
    exact Ev.pos (by trivial) (Ev.ret rfl)
  have j1f : Ev (fun k => impl_IsGame.j1 k false f s r t p) (difT (f ++ s ++ adj r)) := by
    refine Ev.succ ?_
    have ha := adj_len r
    simp only [impl_IsGame.j1]
    refine Ev.neg (by simp) (Ev.bd (tilesOf_ev r hr) (Ev.bd (concatT_ev _ (by simp) ?_) (Ev.bd (areDif_ev _ ?_) (Ev.ret ?_))))
    · simp only [List.flatten_cons, List.flatten_nil, List.append_nil, List.length_append]; omega
    · simp only [List.flatten_cons, List.flatten_nil, List.append_nil, List.length_append]; omega
    · simp [List.append_assoc]
  have j0t : Ev (fun k => impl_IsGame.j0 k true f s r t p) false := by
    refine Ev.succ ?_
    simp only [impl_IsGame.j0]
    exact Ev.pos (by trivial) (Ev.ret rfl)
  have j0f : Ev (fun k => impl_IsGame.j0 k false f s r t p) (rowB r && difT (f ++ s ++ adj r)) := by
    refine Ev.succ ?_
    simp only [impl_IsGame.j0]
    refine Ev.neg (by simp) ?_
    unfold rowB
    by_cases h0 : r.length = 0
    · refine Ev.neg (by omega) ?_
      rw [decide_eq_true h0, Bool.true_or, Bool.true_and]
      exact j1f
    · refine Ev.pos (by omega) ?_
      rw [decide_eq_false h0, Bool.false_or]
      by_cases h1 : r.length = 1
      · refine Ev.pos (by omega) ?_
        rw [decide_eq_false (by omega), Bool.false_and, Bool.false_and]
        exact j1t
      · refine Ev.neg (by omega) (Ev.bd (isChain_ev r hr) ?_)
        rw [decide_eq_true h1, Bool.true_and]
        cases hc : chainB r with
        | true => rw [Bool.true_and]; exact j1f
        | false => rw [Bool.false_and]; exact j1t
  unfold impl_IsGame.f gameB
  refine Ev.bd (isHand_ev f) ?_
  cases h1 : handB f with
  | false => rw [Bool.false_and, Bool.false_and]; exact Ev.neg (by decide) j0t
  | true =>
    rw [Bool.true_and]
    refine Ev.pos rfl (Ev.bd (isHand_ev s) ?_)
    cases h2 : handB s with
    | false => rw [Bool.false_and, Bool.false_and]; exact Ev.neg (by decide) j0t
    | true =>
      rw [Bool.true_and]
      refine Ev.pos rfl (Ev.bs (within_eq t 0 1) ?_)
      cases h3 : inB 0 1 t with
      | false => rw [Bool.false_and, Bool.false_and]; exact Ev.neg (by decide) j0t
      | true =>
        rw [Bool.true_and]
        refine Ev.pos rfl (Ev.bs (within_eq p 0 2) ?_)
        cases h4 : inB 0 2 p with
        | false => rw [Bool.false_and]; exact j0t
        | true => rw [Bool.true_and]; exact j0f
/-- No tile of a is in b. -/
def awayB (a b : List S_Tile) : Bool := a.all fun x => !decide (x ∈ b)
theorem those_away {a b : List S_Tile} (ha : a.all goodT = true) : decide ((keepT b true (sortT a)).length = 0) = awayB a b := by
  rw [Bool.eq_iff_iff, decide_eq_true_eq, List.length_eq_zero_iff]
  unfold awayB keepT
  rw [List.filter_eq_nil_iff, List.all_eq_true]
  constructor
  · intro h x hx
    have := h x ((sortT_mem a x).2 ⟨hx, List.all_eq_true.1 ha x hx⟩)
    simpa using this
  · intro h x hx
    have := h x ((sortT_mem a x).1 hx).1
    simpa using this
theorem hand_parts {l : List S_Tile} (h : handB l = true) : l.length ≤ 55 ∧ l.all goodT = true ∧ l.Nodup := by
  unfold handB difT at h
  rw [Bool.and_eq_true, Bool.and_eq_true] at h
  exact ⟨of_decide_eq_true h.1, h.2.1, of_decide_eq_true h.2.2⟩
theorem dif_join {f s ts : List S_Tile} (hf : f.Nodup) (hs : s.Nodup) (ht : ts.Nodup) : difT (f ++ s ++ ts) = (awayB f s && (awayB f ts && awayB s ts)) := by
  unfold difT awayB
  rw [Bool.eq_iff_iff, decide_eq_true_eq, Bool.and_eq_true, Bool.and_eq_true, List.all_eq_true, List.all_eq_true, List.all_eq_true, List.nodup_append, List.nodup_append]
  constructor
  · rintro ⟨⟨_, _, h1⟩, _, h2⟩
    refine ⟨fun x hx => ?_, fun x hx => ?_, fun x hx => ?_⟩
    · simp only [Bool.not_eq_true', decide_eq_false_iff_not]; exact fun h => h1 x hx x h rfl
    · simp only [Bool.not_eq_true', decide_eq_false_iff_not]; exact fun h => h2 x (List.mem_append_left _ hx) x h rfl
    · simp only [Bool.not_eq_true', decide_eq_false_iff_not]; exact fun h => h2 x (List.mem_append_right _ hx) x h rfl
  · rintro ⟨h1, h2, h3⟩
    refine ⟨⟨hf, hs, fun x hx y hy e => ?_⟩, ht, fun x hx y hy e => ?_⟩
    · have := h1 x hx
      simp only [Bool.not_eq_true', decide_eq_false_iff_not] at this
      exact this (e ▸ hy)
    · rcases List.mem_append.1 hx with hx | hx
      · have := h2 x hx
        simp only [Bool.not_eq_true', decide_eq_false_iff_not] at this
        exact this (e ▸ hy)
      · have := h3 x hx
        simp only [Bool.not_eq_true', decide_eq_false_iff_not] at this
        exact this (e ▸ hy)
def resPlRow (r : List Int) : List S_Tile × Bool := if r.length = 0 then ([], true) else ((resWhChain r).1, (resWhChain r).2 && decide ((resWhChain r).1.length > 0))
theorem plRow_ev (r : List Int) (hr : r.length ≤ 1048576) : Ev (fun k => spec_plRow.f k r) (resPlRow r) := by
  unfold spec_plRow.f resPlRow
  by_cases h0 : r.length = 0
  · exact Ev.pos (by omega) (Ev.ifp h0 (Ev.ret rfl))
  · refine Ev.neg (by omega) (Ev.ifn h0 (Ev.bd (whChain_ev r hr) ?_))
    cases hc : (resWhChain r).2 with
    | true => exact Ev.pos rfl (Ev.ret (by rw [Bool.true_and]; simp))
    | false => exact Ev.neg (by decide) (Ev.ret (by rw [Bool.false_and]))
theorem plRow_snd (r : List Int) : (resPlRow r).2 = rowB r := by
  unfold resPlRow rowB
  by_cases h0 : r.length = 0
  · rw [if_pos h0, decide_eq_true h0]; rfl
  · rw [if_neg h0, decide_eq_false h0, Bool.false_or]
    show ((resWhChain r).2 && _) = _
    rw [resWhChain_eq]
    cases hc : chainB r with
    | false => rw [Bool.false_and, Bool.and_false]
    | true =>
      rw [Bool.true_and, Bool.and_true, resWhChain_fst hc, decide_eq_decide, adj_len]
      omega
theorem plRow_fst {r : List Int} (h : rowB r = true) : (resPlRow r).1 = adj r := by
  unfold resPlRow
  by_cases h0 : r.length = 0
  · rw [if_pos h0, adj_nil (by omega)]
  · rw [if_neg h0]
    unfold rowB at h
    rw [decide_eq_false h0, Bool.false_or, Bool.and_eq_true] at h
    exact resWhChain_fst h.2
theorem row_nodup {r : List Int} (h : rowB r = true) : (adj r).Nodup := by
  unfold rowB at h
  by_cases h0 : r.length = 0
  · rw [adj_nil (by omega)]; exact List.nodup_nil
  · rw [decide_eq_false h0, Bool.false_or, Bool.and_eq_true] at h
    unfold chainB difT at h
    rw [Bool.and_eq_true, Bool.and_eq_true] at h
    exact of_decide_eq_true h.2.2.2
theorem plGood_ev (f s : List S_Tile) (r : List Int) (t p : Int) (hf : f.length ≤ 1048576) (hs : s.length ≤ 1048576) (hr : r.length ≤ 1048576) : Ev (fun k => spec_plGood.f k f s r t p) (gameB f s r t p) := by
  have j0t : ∀ ts, Ev (fun k => spec_plGood.j0 k ts true f s r t p) false := by
    intro ts
    refine Ev.succ ?_
    simp only [spec_plGood.j0]
    exact Ev.pos (by trivial) (Ev.ret rfl)
  have ha := adj_len r
  unfold spec_plGood.f gameB
  refine Ev.bd (plRow_ev r hr) ?_
  rw [plRow_snd]
  cases h0 : rowB r with
  | false => rw [Bool.false_and, Bool.and_false]; exact Ev.neg (by decide) (j0t _)
  | true =>
    rw [Bool.true_and, plRow_fst h0]
    refine Ev.pos rfl (Ev.bd (tiHand_ev f) ?_)
    cases h1 : handB f with
    | false => rw [Bool.false_and, Bool.false_and]; exact Ev.neg (by decide) (j0t _)
    | true =>
      rw [Bool.true_and]
      refine Ev.pos rfl (Ev.bd (tiHand_ev s) ?_)
      cases h2 : handB s with
      | false => rw [Bool.false_and, Bool.false_and]; exact Ev.neg (by decide) (j0t _)
      | true =>
        rw [Bool.true_and]
        refine Ev.pos rfl (Ev.bs (l1In_eq t 0 1) ?_)
        cases h3 : inB 0 1 t with
        | false => rw [Bool.false_and, Bool.false_and]; exact Ev.neg (by decide) (j0t _)
        | true =>
          rw [Bool.true_and]
          refine Ev.pos rfl (Ev.bs (l1In_eq p 0 2) ?_)
          cases h4 : inB 0 2 p with
          | false => rw [Bool.false_and]; exact j0t _
          | true =>
            obtain ⟨_, g1, n1⟩ := hand_parts h1
            obtain ⟨_, g2, n2⟩ := hand_parts h2
            rw [Bool.true_and, dif_join n1 n2 (row_nodup h0), ← those_away g1, ← those_away g1, ← those_away g2]
            refine Ev.succ ?_
            simp only [spec_plGood.j0]
            refine Ev.neg (by simp) (Ev.bd (tiThose_ev f s hf hs true) ?_)
            by_cases c1 : (keepT s true (sortT f)).length = 0
            · rw [decide_eq_true c1, Bool.true_and]
              refine Ev.pos (by omega) (Ev.bd (tiThose_ev f (adj r) hf (by omega) true) ?_)
              by_cases c2 : (keepT (adj r) true (sortT f)).length = 0
              · rw [decide_eq_true c2, Bool.true_and]
                refine Ev.pos (by omega) (Ev.bd (tiThose_ev s (adj r) hs (by omega) true) (Ev.ret ?_))
                rw [Bool.eq_iff_iff, decide_eq_true_eq, beq_iff_eq]; omega
              · rw [decide_eq_false c2, Bool.false_and]
                exact Ev.neg (by omega) (Ev.ret rfl)
            · rw [decide_eq_false c1, Bool.false_and]
              exact Ev.neg (by omega) (Ev.ret rfl)
end Go.Proofs.YtjaojemmbeddfaaGreat.Pure
