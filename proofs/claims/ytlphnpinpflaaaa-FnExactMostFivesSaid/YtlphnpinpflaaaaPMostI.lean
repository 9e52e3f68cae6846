/- MostFives, the program's search, and that both find the same: plain. -/
import Derived.Test.YtlphnpinpflaaaaPMostA
namespace Go.Proofs.Ytlphnpinpflaaaa.Pure
open Go.RowKit Go.Proofs.Ytlphnpinpflaaaa.Hd Go.Proofs.YtlphnpinpflaaaaW.PrintWords Go.Proofs.YtlphnpinpflaaaaW.PrintLast
set_option linter.unusedVariables false
set_option linter.unusedSimpArgs false
def firstB (m : Nat) (now : List S_Play) (pts : Int) (b : List S_Play × Int) : List S_Play × Int := if pts > b.2 then (now.drop m, pts) else b
def walkStep (f : LySt → List S_Play → Int → List S_Play × Int → List S_Play × Int) (s : LySt) (now : List S_Play) (pts : Int) (b : List S_Play × Int) (p : S_Play) : List S_Play × Int := f (lyDo s p) (now ++ [p]) (pts + lyPointsF (lyDo s p)) b
def walkS (hand : List S_Tile) (m : Nat) : Nat → LySt → List S_Play → Int → List S_Play × Int → List S_Play × Int
  | 0, _, now, pts, b => firstB m now pts b
  | d + 1, s, now, pts, b => (lyForF s hand).foldl (walkStep (walkS hand m d) s now pts) (firstB m now pts b)
def walkTo (hand : List S_Tile) (m d : Nat) (s : LySt) (now : List S_Play) (pts : Int) (b : List S_Play × Int) (i : Nat) : List S_Play × Int := ((lyForF s hand).take i).foldl (walkStep (walkS hand m (d - 1)) s now pts) (firstB m now pts b)
theorem walkTo_next (hand : List S_Tile) (m d : Nat) (s : LySt) (now : List S_Play) (pts : Int) (b : List S_Play × Int) (i : Nat) (h : i < (lyForF s hand).length) : walkTo hand m d s now pts b (i + 1) = walkS hand m (d - 1) (lyDo s (rd_Play (lyForF s hand) (i : Int))) (now ++ [rd_Play (lyForF s hand) (i : Int)]) (pts + lyPointsF (lyDo s (rd_Play (lyForF s hand) (i : Int)))) (walkTo hand m d s now pts b i) := by
  unfold walkTo
  rw [List.take_succ_eq_append_getElem h, List.foldl_append]
  simp [rd_Play, h, walkStep]
theorem walkTo_all {hand : List S_Tile} {m d : Nat} {s : LySt} {n : Nat} {now : List S_Play} {pts : Int} {b : List S_Play × Int} (hok : LyOk s n) (h : 28 ≤ n + d) : walkTo hand m d s now pts b (lyForF s hand).length = walkS hand m d s now pts b := by
  unfold walkTo
  rw [List.take_length]
  cases d with
  | zero => rw [lyForF_none hok (by omega)]; rfl
  | succ d => rfl
theorem keepT_mem (b : List S_Tile) (inn : Bool) (l : List S_Tile) (t : S_Tile) : t ∈ keepT b inn l ↔ t ∈ l ∧ (decide (t ∈ b) == inn) = true := by unfold keepT; exact List.mem_filter
theorem lessT_mem (hand : List S_Tile) (t x : S_Tile) : x ∈ lessT hand t ↔ x ∈ hand ∧ goodT x = true ∧ x ≠ t := by
  unfold lessT
  rw [keepT_mem, sortT_mem]
  simp only [List.mem_singleton, beq_iff_eq, decide_eq_false_iff_not, and_assoc]
theorem forTile_laid {s : LySt} {t : S_Tile} (h : t ∈ s.ti) : forTile s t = [] := by
  unfold forTile armsTo
  rw [List.filter_eq_nil_iff]
  intro p hp
  obtain ⟨a, _, rfl⟩ := List.mem_map.1 hp
  unfold lyCan
  have : decide (idxT s.ti t ≥ 0) = true := by rw [decide_eq_true_eq]; exact (idxT_ge s.ti t).2 h
  simp [this]
theorem flat_if (f : S_Tile → List S_Play) (p : S_Tile → Bool) (l : List S_Tile) : (l.filter p).flatMap f = l.flatMap (fun t => if p t = true then f t else []) := by
  induction l with
  | nil => rfl
  | cons t l ih =>
    rw [List.filter_cons]
    split
    · rename_i h; rw [List.flatMap_cons, List.flatMap_cons, ih, if_pos h]
    · rename_i h; rw [List.flatMap_cons, ih, if_neg h]; rfl
/-- Tiles that are laid may be left out of the hand. -/
theorem lyForF_laid {s : LySt} {h h' : List S_Tile} (hr : ∀ t, goodT t = true → t ∉ s.ti → (t ∈ h' ↔ t ∈ h)) : lyForF s h' = lyForF s h := by
  unfold lyForF sortT keepT
  rw [flat_if, flat_if]
  have key : ∀ t ∈ setT 9, (if (decide (t ∈ h') == true) = true then forTile s t else []) = (if (decide (t ∈ h) == true) = true then forTile s t else []) := by
    intro t ht
    by_cases hl : t ∈ s.ti
    · rw [forTile_laid hl]; simp
    · have := hr t ((setT_good t).1 ht) hl
      simp only [beq_true, decide_eq_true_eq, this]
  have aux : ∀ l : List S_Tile, (∀ t ∈ l, (if (decide (t ∈ h') == true) = true then forTile s t else []) = (if (decide (t ∈ h) == true) = true then forTile s t else [])) → l.flatMap (fun t => if (decide (t ∈ h') == true) = true then forTile s t else []) = l.flatMap (fun t => if (decide (t ∈ h) == true) = true then forTile s t else []) := by
    intro l
    induction l with
    | nil => intro _; rfl
    | cons t l ih => intro hk; rw [List.flatMap_cons, List.flatMap_cons, hk t (by simp), ih (fun x hx => hk x (by simp [hx]))]
  exact aux _ key
theorem lyDo_ti (s : LySt) (p : S_Play) : (lyDo s p).ti = s.ti ++ [p.f0] := by
  unfold lyDo
  dsimp only
  split <;> rfl
/-- The two searches find the same. -/
theorem walk_most (hand : List S_Tile) (m : Nat) : ∀ (d : Nat) (s : LySt) (n : Nat) (h' : List S_Tile) (now : List S_Play) (pts : Int) (b : List S_Play × Int), LyOk s n → 28 ≤ n + d → m ≤ now.length → (∀ t, goodT t = true → t ∉ s.ti → (t ∈ h' ↔ t ∈ hand)) →
    walkS hand m d s now pts b = if pts + (mostS d s h').2 > b.2 then (now.drop m ++ (mostS d s h').1, pts + (mostS d s h').2) else b := by
  intro d
  induction d with
  | zero => intro s n h' now pts b hok hd hm hr; simp [walkS, mostS, firstB]
  | succ d ih =>
    intro s n h' now pts b hok hd hm hr
    unfold walkS mostS
    rw [lyForF_laid hr]
    have hcan : ∀ p ∈ lyForF s hand, lyCan s p = true := fun p hp => lyForF_can hp
    have key : ∀ (l : List S_Play) (b1 B : List S_Play × Int), (∀ p ∈ l, lyCan s p = true) → (b1 = if pts + B.2 > b.2 then (now.drop m ++ B.1, pts + B.2) else b) →
        l.foldl (walkStep (walkS hand m d) s now pts) b1 = if pts + (l.foldl (mostStep (mostS d) s h') B).2 > b.2 then (now.drop m ++ (l.foldl (mostStep (mostS d) s h') B).1, pts + (l.foldl (mostStep (mostS d) s h') B).2) else b := by
      intro l
      induction l with
      | nil => intro b1 B _ hb; exact hb
      | cons p l ihl =>
        intro b1 B hc hb
        rw [List.foldl_cons, List.foldl_cons]
        have hcp := hc p (by simp)
        refine ihl _ _ (fun q hq => hc q (by simp [hq])) ?_
        have hih := ih (lyDo s p) (n + 1) (lessT h' p.f0) (now ++ [p]) (pts + lyPointsF (lyDo s p)) b1 (lyOk_next hok hcp) (by omega) (by simp; omega) (by
          intro t hg ht
          rw [lyDo_ti, List.mem_append, List.mem_singleton, not_or] at ht
          rw [lessT_mem, hr t hg ht.1]
          exact ⟨fun q => q.1, fun q => ⟨q, hg, ht.2⟩⟩)
        unfold walkStep mostStep
        rw [hih]
        generalize mostS d (lyDo s p) (lessT h' p.f0) = r
        generalize lyPointsF (lyDo s p) = v
        subst hb
        have e1 : (now ++ [p]).drop m ++ r.1 = now.drop m ++ (p :: r.1) := by rw [List.drop_append_of_le_length hm]; simp
        rw [e1]
        have e2 : pts + v + r.2 = pts + (r.2 + v) := by omega
        rw [e2]
        by_cases c1 : pts + B.2 > b.2
        · rw [if_pos c1]
          by_cases c2 : r.2 + v > B.2
          · rw [if_pos c2, if_pos (show pts + (r.2 + v) > (_, pts + B.2).2 by show _ > pts + B.2; omega), if_pos (show pts + (_, r.2 + v).2 > b.2 by show pts + (r.2 + v) > _; omega)]
          · rw [if_neg c2, if_neg (show ¬ pts + (r.2 + v) > (_, pts + B.2).2 by show ¬ _ > pts + B.2; omega), if_pos c1]
        · rw [if_neg c1]
          by_cases c2 : r.2 + v > B.2
          · rw [if_pos c2]
          · rw [if_neg c2, if_neg c1, if_neg (by omega)]
    refine key _ _ _ hcan ?_
    unfold firstB
    simp
end Go.Proofs.Ytlphnpinpflaaaa.Pure
