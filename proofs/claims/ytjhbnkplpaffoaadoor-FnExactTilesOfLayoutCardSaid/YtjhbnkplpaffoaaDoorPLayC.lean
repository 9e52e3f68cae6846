/- TilesOfLayout: what both sides answer. -/
import Derived.Test.YtjhbnkplpaffoaaDoorPLayB
import Derived.Test.YtjhbnkplpaffoaaDoorPTab4
import Derived.Test.YtjhbnkplpaffoaaDoorG5
import Derived.Test.YtjhbnkplpaffoaaDoorG5
namespace Go.Proofs.YtjhbnkplpaffoaaDoor.Pure
open Go Go.RowKit Go.Proofs.YtjhbnkplpaffoaaDoor.Hd Go.Proofs.YtjhbnkplpaffoaaDoorW.PrintWords Go.Proofs.YtjhbnkplpaffoaaDoorW.PrintLast
set_option linter.unusedVariables false
set_option linter.unusedSimpArgs false
theorem cells_lets (s : ByteArray) : cells s = (lets s).map (fun x => x - 48) := by
  rw [cells_flat]
  unfold lets flatB bytesOf
  rw [toList_mkB, List.map_map]
  rfl
theorem cells_n {s : ByteArray} (h : isTab s = true) : (cells s).length = w0 (rowsB s) * (rowsB s).length ∧ w0 (rowsB s) * (rowsB s).length ≤ 30 ∧ 0 < w0 (rowsB s) ∧ (flatB s).size = w0 (rowsB s) * (rowsB s).length := by
  obtain ⟨l1, l2, l3⟩ := lets_size (taRows_of_form h)
  rw [cells_lets, List.length_map]
  refine ⟨l1, l3, l2, ?_⟩
  rw [← lets_len]
  exact l1
theorem cell_at {s : ByteArray} (h : isTab s = true) (i : Nat) (hi : i < (cells s).length) : (bt (flatB s) (i : Int) - 48) % 256 = rd (cells s) (i : Int) ∧ 0 ≤ rd (cells s) (i : Int) ∧ rd (cells s) (i : Int) ≤ 9 := by
  have hi2 : i < (lets s).length := by rw [cells_lets, List.length_map] at hi; exact hi
  obtain ⟨b, hb, e⟩ := lets_in h i hi2
  have hd : dig b = true := by rw [← digs_dig]; simpa using hb
  unfold dig at hd
  rw [Bool.and_eq_true, decide_eq_true_eq, decide_eq_true_eq] at hd
  have e2 : rd (cells s) (i : Int) = rd (lets s) (i : Int) - 48 := by
    rw [rd_at hi, rd_at hi2]
    simp only [cells_lets, List.getElem_map]
  rw [bt_lets, e2, e]
  omega
/-- The tile of two numbers. -/
def tileN (a b : Int) : S_Tile := ⟨mn a b, mx a b⟩
def tileAt (s : ByteArray) (a b : Int) : S_Tile := tileN (rd (cells s) a) (rd (cells s) b)
theorem tiOf_eq (a b : Int) : spec_tiOf.f a b = some (mn a b, mx a b) := by
  unfold spec_tiOf.f spec_l1Least.f spec_l1Most.f mn mx
  by_cases h1 : a < b
  · rw [if_pos h1, if_neg (by omega), if_neg (by omega), if_pos h1]; rfl
  · rw [if_neg h1]
    by_cases h2 : b < a
    · rw [if_pos (by omega), if_pos h2, if_neg h1]; rfl
    · obtain rfl : a = b := by omega
      rw [if_neg (by omega), if_neg h1]; rfl
theorem at_eq {s : ByteArray} (h : isTab s = true) (a b : Int) (ha : 0 ≤ a ∧ a < ((cells s).length : Int)) (hb : 0 ≤ b ∧ b < ((cells s).length : Int)) : impl_at.f (flatB s) a b = some ((tileAt s a b).f0, (tileAt s a b).f1) := by
  obtain ⟨c1, c2, c3, c4⟩ := cells_n h
  obtain ⟨i, rfl⟩ : ∃ i : Nat, a = i := ⟨a.toNat, by omega⟩
  obtain ⟨j, rfl⟩ : ∃ j : Nat, b = j := ⟨b.toNat, by omega⟩
  unfold impl_at.f
  rw [if_pos ha.1, if_pos (by omega), if_pos hb.1, if_pos (by omega), (cell_at h i (by omega)).1, (cell_at h j (by omega)).1]
  rfl
def tilesC (s : ByteArray) (w n : Nat) (L : List Int) (i d : Nat) : List S_Tile := (pairsC w n L i d).map (fun p => tileAt s (rd p 0) (rd p 1))
theorem tilesC_succ (s : ByteArray) (w n : Nat) (L : List Int) (i d : Nat) : tilesC s w n L i (d + 1) = (if (i : Int) < otherF w n i (rd L (i : Int)) then [tileAt s (i : Int) (otherF w n i (rd L (i : Int)))] else []) ++ tilesC s w n L (i + 1) d := by
  unfold tilesC
  rw [pairsC_succ, List.map_append]
  congr 1
  unfold pairC
  split <;> rfl
theorem tilesC_len (s : ByteArray) (w n : Nat) (L : List Int) : ∀ (d i : Nat), (tilesC s w n L i d).length ≤ d := by
  intro d
  induction d with
  | zero => intro i; simp [tilesC, pairsC]
  | succ d ih =>
    intro i
    rw [tilesC_succ, List.length_append]
    have := ih (i + 1)
    split <;> simp <;> omega
theorem taTiles_l0 {s : ByteArray} (h : isTab s = true) (L : List Int) (hL : L.length = (cells s).length) : ∀ (d i : Nat) (acc : List S_Tile), i + d = (cells s).length → acc.length ≤ i →
    Ev (fun k => spec_taTiles.l0 k acc L (L.length : Int) (i : Int) (w0 (rowsB s) : Int) ((rowsB s).length : Int) (cells s)) (acc ++ tilesC s (w0 (rowsB s)) (w0 (rowsB s) * (rowsB s).length) L i d) := by
  obtain ⟨c1, c2, c3, c4⟩ := cells_n h
  intro d
  induction d with
  | zero =>
    intro i acc h1 h2
    refine Ev.succ ?_
    simp only [spec_taTiles.l0]
    exact Ev.neg (by omega) (Ev.ret (by simp [tilesC, pairsC]))
  | succ d ih =>
    intro i acc h1 h2
    have hi : i < w0 (rowsB s) * (rowsB s).length := by omega
    obtain ⟨b1, b2⟩ := other_bd (w := w0 (rowsB s)) (h := (rowsB s).length) (rd L (i : Int)) hi
    refine Ev.succ ?_
    simp only [spec_taTiles.l0]
    rw [w64' (n := (i : Int) + 1) (m := ((i + 1 : Nat) : Int)) (by omega) (by omega) (by omega)]
    refine Ev.pos (by omega) (Ev.pos (by omega) (Ev.pos (by omega) (Ev.bd (taOther_ev (w0 (rowsB s)) (rowsB s).length i (cells s) (rd L (i : Int)) c3 (by omega) hi) ?_)))
    rw [tilesC_succ]
    by_cases q : (i : Int) < otherF (w0 (rowsB s)) (w0 (rowsB s) * (rowsB s).length) i (rd L (i : Int))
    · rw [if_pos q]
      refine Ev.pos q (Ev.pos (by omega) (Ev.pos (by omega) (Ev.pos (by omega) (Ev.bs (tiOf_eq _ _) (Ev.pos (by omega) ?_)))))
      have hh := ih (i + 1) (acc ++ [tileAt s (i : Int) (otherF (w0 (rowsB s)) (w0 (rowsB s) * (rowsB s).length) i (rd L (i : Int)))]) (by omega) (by simp; omega)
      rw [List.append_assoc] at hh
      exact hh
    · rw [if_neg q, List.nil_append]
      exact Ev.neg q (ih (i + 1) acc (by omega) (by omega))
def tilesF (s t : ByteArray) : List S_Tile × Bool := if isTab s = true ∧ (isLay t && sameB s t) = true then (tilesC s (w0 (rowsB t)) (w0 (rowsB t) * (rowsB t).length) (lets t) 0 (w0 (rowsB t) * (rowsB t).length), true) else ([], false)
theorem same_of {s t : ByteArray} (h : (isLay t && sameB s t) = true) : isLay t = true ∧ w0 (rowsB s) = w0 (rowsB t) ∧ (rowsB s).length = (rowsB t).length := by
  unfold sameB at h
  simpa using h
theorem specTiles_ev (s t : ByteArray) (hs : s.size ≤ 1048576) (ht : t.size ≤ 1048576) : Ev (fun k => spec_TilesOfLayout.f k s t) (tilesF s t) := by
  unfold spec_TilesOfLayout.f
  refine Ev.bd (taRead_ev s hs) ?_
  cases h : isTab s with
  | false =>
    rw [isTab_no h]
    refine Ev.neg (by simp) (Ev.ret ?_)
    unfold tilesF
    rw [h, if_neg (by simp)]
  | true =>
    rw [isTab_tab h]
    refine Ev.pos rfl (Ev.bd (taLayout_ev (w0 (rowsB s)) (rowsB s).length _ t ht) ?_)
    have hsame := lay_same s t
    by_cases hl : (isLay t && sameB s t) = true
    · obtain ⟨q1, q2, q3⟩ := same_of hl
      obtain ⟨c1, c2, c3, c4⟩ := cells_n h
      have e1 : layF (w0 (rowsB s)) (rowsB s).length t = (lets t, true) := by
        unfold layF
        rw [if_pos ⟨q1, q3.symm, q2.symm⟩]
      have e2 : tilesF s t = (tilesC s (w0 (rowsB s)) (w0 (rowsB s) * (rowsB s).length) (lets t) 0 (w0 (rowsB s) * (rowsB s).length), true) := by
        unfold tilesF
        rw [if_pos ⟨h, hl⟩, q2, q3]
      rw [e1, e2]
      have hf : formF (rowsB t) nesw = true := by
        unfold isLay at q1
        rw [Bool.and_eq_true] at q1
        exact q1.1
      have hL : (lets t).length = (cells s).length := by rw [(lets_size (taRows_of_form hf)).1, c1, q2, q3]
      have hk := taTiles_l0 h (lets t) hL (cells s).length 0 [] (by omega) (by simp)
      rw [List.nil_append, c1] at hk
      refine Ev.pos rfl (Ev.bd ?_ (Ev.now _))
      exact hk
    · have e1 : layF (w0 (rowsB s)) (rowsB s).length t = ([], false) := by
        unfold layF
        rw [if_neg ?_]
        rintro ⟨q1, q2, q3⟩
        refine hl ?_
        rw [q1]
        unfold sameB
        rw [q2, q3]; simp
      rw [e1]
      refine Ev.neg (by simp) (Ev.ret ?_)
      unfold tilesF
      rw [if_neg (fun q => hl q.2)]
theorem pairs_bd {w h : Nat} (L : List Int) : ∀ (d i : Nat), i + d = w * h → ∀ p ∈ pairsC w (w * h) L i d, p.length = 2 ∧ 0 ≤ rd p 0 ∧ rd p 0 < ((w * h : Nat) : Int) ∧ 0 ≤ rd p 1 ∧ rd p 1 < ((w * h : Nat) : Int) := by
  intro d
  induction d with
  | zero => intro i h1 p hp; simp [pairsC] at hp
  | succ d ih =>
    intro i h1 p hp
    rw [pairsC_succ, List.mem_append] at hp
    rcases hp with hp | hp
    · unfold pairC at hp
      split at hp
      · rename_i q
        rw [List.mem_singleton] at hp
        subst hp
        obtain ⟨b1, b2⟩ := other_bd (w := w) (h := h) (rd L (i : Int)) (show i < w * h by omega)
        refine ⟨rfl, ?_, ?_, ?_, ?_⟩
        · show 0 ≤ (i : Int); omega
        · show (i : Int) < _; omega
        · show 0 ≤ otherF w (w * h) i (rd L (i : Int)); omega
        · exact b2
      · cases hp
    · exact ih (i + 1) (by omega) p hp
theorem implTiles_l0 {s : ByteArray} (hs : s.size ≤ 1048576) (h : isTab s = true) (P : List (List Int)) (hP : ∀ p ∈ P, p.length = 2 ∧ 0 ≤ rd p 0 ∧ rd p 0 < ((cells s).length : Int) ∧ 0 ≤ rd p 1 ∧ rd p 1 < ((cells s).length : Int)) (hl : P.length ≤ 1000) :
    ∀ (d i : Nat) (acc : List S_Tile), i + d = P.length → acc.length ≤ i → Ev (fun k => impl_TilesOfLayout.l0 k s acc P (P.length : Int) (i : Int)) (acc ++ (P.drop i).map (fun p => tileAt s (rd p 0) (rd p 1)), true) := by
  intro d
  induction d with
  | zero =>
    intro i acc h1 h2
    refine Ev.succ ?_
    simp only [impl_TilesOfLayout.l0]
    refine Ev.neg (by omega) (Ev.ret ?_)
    rw [List.drop_of_length_le (by omega)]
    simp
  | succ d ih =>
    intro i acc h1 h2
    have hi : i < P.length := by omega
    refine Ev.succ ?_
    simp only [impl_TilesOfLayout.l0]
    have er : rd_i64s P (i : Int) = P[i] := by simp [rd_i64s, List.getD_eq_getElem?_getD, hi]
    obtain ⟨p1, p2, p3, p4, p5⟩ := hP P[i] (List.getElem_mem hi)
    rw [w64' (n := (i : Int) + 1) (m := ((i + 1 : Nat) : Int)) (by omega) (by omega) (by omega), er]
    refine Ev.pos (by omega) (Ev.pos (by omega) (Ev.pos (by omega) (Ev.bs (flat_eq s hs) (Ev.pos (by omega) (Ev.pos (by omega) (Ev.bs (at_eq h _ _ ⟨p2, p3⟩ ⟨p4, p5⟩) (Ev.pos (by omega) ?_)))))))
    have hh := ih (i + 1) (acc ++ [tileAt s (rd P[i] 0) (rd P[i] 1)]) (by omega) (by simp; omega)
    rw [List.drop_eq_getElem_cons hi, List.map_cons]
    rw [List.append_assoc] at hh
    exact hh
theorem implTiles_ev (s t : ByteArray) (hs : s.size ≤ 1048576) (ht : t.size ≤ 1048576) : Ev (fun k => impl_TilesOfLayout.f k s t) (tilesF s t) := by
  unfold impl_TilesOfLayout.f
  refine Ev.bd (implIsTable_ev s hs) ?_
  cases h : isTab s with
  | false =>
    refine Ev.neg (by simp) (Ev.succ ?_)
    simp only [impl_TilesOfLayout.j0]
    refine Ev.pos trivial (Ev.ret ?_)
    unfold tilesF
    rw [h, if_neg (by simp)]
  | true =>
    refine Ev.pos rfl (Ev.bd (isLayout_ev s t hs ht) (Ev.succ ?_))
    simp only [impl_TilesOfLayout.j0]
    by_cases hl : (isLay t && sameB s t) = true
    · obtain ⟨q1, q2, q3⟩ := same_of hl
      obtain ⟨c1, c2, c3, c4⟩ := cells_n h
      refine Ev.neg (by rw [hl]; simp) (Ev.bd (pairs_ev t ht) ?_)
      have e2 : tilesF s t = ((pairsF t).1.map (fun p => tileAt s (rd p 0) (rd p 1)), true) := by
        unfold tilesF pairsF
        rw [if_pos ⟨h, hl⟩, if_pos q1]
        rfl
      rw [e2]
      have e3 : (pairsF t).1 = pairsC (w0 (rowsB t)) (w0 (rowsB t) * (rowsB t).length) (lets t) 0 (w0 (rowsB t) * (rowsB t).length) := by
        unfold pairsF
        rw [if_pos q1]
      have hp := pairs_bd (w := w0 (rowsB t)) (h := (rowsB t).length) (lets t) (w0 (rowsB t) * (rowsB t).length) 0 (by omega)
      have hlen := tilesC_len s (w0 (rowsB t)) (w0 (rowsB t) * (rowsB t).length) (lets t) (w0 (rowsB t) * (rowsB t).length) 0
      unfold tilesC at hlen
      rw [List.length_map] at hlen
      rw [← e3] at hp hlen
      rw [← q2, ← q3, ← c1] at hp
      rw [← q2, ← q3] at hlen
      have hk := implTiles_l0 hs h (pairsF t).1 hp (by omega) (pairsF t).1.length 0 [] (by omega) (by simp)
      rw [List.drop_zero, List.nil_append] at hk
      exact hk
    · refine Ev.pos (by rw [Bool.not_eq_true'] ; simpa using hl) (Ev.ret ?_)
      unfold tilesF
      rw [if_neg (fun q => hl q.2)]
theorem tilesF_len (s t : ByteArray) : (tilesF s t).1.length ≤ 1100000000000 := by
  unfold tilesF
  split
  · rename_i q
    obtain ⟨q1, q2, q3⟩ := same_of q.2
    obtain ⟨c1, c2, c3, c4⟩ := cells_n q.1
    have := tilesC_len s (w0 (rowsB t)) (w0 (rowsB t) * (rowsB t).length) (lets t) (w0 (rowsB t) * (rowsB t).length) 0
    rw [q2, q3] at c2
    show (tilesC s _ _ _ _ _).length ≤ _
    omega
  · simp
end Go.Proofs.YtjhbnkplpaffoaaDoor.Pure
