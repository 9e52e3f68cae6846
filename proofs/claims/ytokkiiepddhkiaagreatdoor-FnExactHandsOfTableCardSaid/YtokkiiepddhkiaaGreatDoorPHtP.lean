/- HandsOfTable: the search with marks tells the texts that the reference sees; plain. -/
import Derived.Test.YtokkiiepddhkiaaGreatDoorPHtS
namespace Go.Proofs.YtokkiiepddhkiaaGreatDoor.Pure
open Go Go.RowKit Go.Proofs.YtokkiiepddhkiaaGreatDoor.Hd Go.Proofs.YtokkiiepddhkiaaGreatDoorW.PrintWords Go.Proofs.YtokkiiepddhkiaaGreatDoorW.PrintLast
set_option linter.unusedVariables false
set_option linter.unusedSimpArgs false
/-- A search that keeps the tiles placed, in order. -/
def nxC (s : ByteArray) (l : List S_Tile) (i j : Nat) : Option (List S_Tile) := some (l ++ [tilT s i j])
theorem goL_true {α β : Type} (f : α → β → α) : ∀ (L : List β) (a : α), goL (fun a x => ((true, f a x) : Bool × α)) L a = (true, L.foldl f a) := by
  intro L
  induction L with
  | nil => intro a; rfl
  | cons x L ih =>
    intro a
    show (if true = true then goL (fun a x => ((true, f a x) : Bool × α)) L (f a x) else _) = _
    rw [if_pos rfl, ih]
    rfl
/-! ### marks against lists of tiles -/
theorem lvs_marks (s : ByteArray) {w n : Int} : ∀ (d : Nat) (b : List Int) (a : Nat) (l : List S_Tile),
    (if l.Nodup then (lvs (nxM (tilT s) false) w n d b a (mkM l)).map Prod.snd else []) = ((lvs (nxC s) w n d b a l).filter (fun x => decide x.2.Nodup)).map (fun x => mkM x.2) := by
  intro d
  induction d with
  | zero => intro b a l; split <;> rfl
  | succ d ih =>
    intro b a l
    have key : ∀ i j l1 l2, (if l.Nodup then (putL (nxM (tilT s) false) (lvs (nxM (tilT s) false) w n d) b i j l1 l2 (mkM l)).map Prod.snd else []) = ((putL (nxC s) (lvs (nxC s) w n d) b i j l1 l2 l).filter (fun x => decide x.2.Nodup)).map (fun x => mkM x.2) := by
      intro i j l1 l2
      unfold putL
      by_cases c : 0 ≤ j ∧ rd b j = 0
      · rw [if_pos c, if_pos c]
        have e2 : nxC s l i j.toNat = some (l ++ [tilT s i j.toNat]) := rfl
        rw [e2]
        have q := ih ((b.set i l1).set j.toNat l2) (i + 1) (l ++ [tilT s i j.toNat])
        show _ = ((lvs (nxC s) w n d ((b.set i l1).set j.toNat l2) (i + 1) (l ++ [tilT s i j.toNat])).filter (fun x => decide x.2.Nodup)).map (fun x => mkM x.2)
        rw [← q]
        by_cases hn : l.Nodup
        · rw [if_pos hn]
          by_cases hm : tilT s i j.toNat ∈ l
          · have e1 : nxM (tilT s) false (mkM l) i j.toNat = none := by unfold nxM mkM; rw [if_neg (by simp [hm])]
            rw [e1, if_neg (fun q => (nodup_snoc.1 q).2 hm)]
            rfl
          · have e1 : nxM (tilT s) false (mkM l) i j.toNat = some (mkM (l ++ [tilT s i j.toNat])) := by
              unfold nxM
              rw [if_pos (by simp [mkM, hm])]
              rw [show (!false) = true from rfl, mkM_snoc]
            rw [e1, if_pos (nodup_snoc.2 ⟨hn, hm⟩)]
            rfl
        · rw [if_neg hn, if_neg (fun q => hn (nodup_snoc.1 q).1)]
      · rw [if_neg c, if_neg c]; split <;> rfl
    rw [lvs_succ, lvs_succ]
    by_cases c : ffN b a = b.length
    · rw [if_pos c, if_pos c]
      by_cases hn : l.Nodup
      · rw [if_pos hn]; simp [hn]
      · rw [if_neg hn]; simp [hn]
    · rw [if_neg c, if_neg c]
      by_cases hn : l.Nodup
      · rw [if_pos hn, List.map_append, List.filter_append, List.map_append, ← key, ← key, if_pos hn, if_pos hn]
      · rw [if_neg hn, List.filter_append, List.map_append, ← key, ← key, if_neg hn, if_neg hn]; rfl
theorem lvs_allL (s : ByteArray) : allL s = (lvs (nxC s) (w0 (rowsB s) : Int) ((cells s).length : Int) 31 (List.replicate (cells s).length (0 : Int)) 0 []).map Prod.fst := by
  unfold allL
  exact lvs_sim (R := fun _ _ => True) (fun h h' i j _ => .inr ⟨h, h' ++ [tilT s i j], by unfold nxS; rw [if_pos rfl], rfl, trivial⟩) 31 _ _ _ _ trivial
theorem htR_eq {s : ByteArray} (ht : isTab s = true) : htR s = (((lvs (nxC s) (w0 (rowsB s) : Int) ((cells s).length : Int) 31 (List.replicate (cells s).length (0 : Int)) 0 []).filter (fun x => decide x.2.Nodup)).map (fun x => mkM x.2)).foldl (fun L m => addTx L (mtx m)) [] := by
  have hd := tab_dim ht
  rw [← lvs_marks s 31 _ _ [], if_pos List.nodup_nil, mkM_nil]
  unfold htR seaH
  rw [layG_marks (by omega) 31 _ _ _ _ List.length_replicate (Nat.zero_le _) (fun k h1 h2 => by rw [rd_at h2]; simp)]
  show (goL (fun (L : List ByteArray) (x : List Int × (S_Tile → Bool)) => ((true, addTx L (mtx x.2)) : Bool × List ByteArray)) _ []).2 = _
  rw [goL_true (fun (L : List ByteArray) (x : List Int × (S_Tile → Bool)) => addTx L (mtx x.2)), List.foldl_map]
/-! ### the tiles placed are the layout's tiles -/
def celD (s : ByteArray) (w n : Nat) (L : List Int) (i : Nat) : List S_Tile := if (i : Int) < otherF w n i (rd L (i : Int)) then [tileAt s (i : Int) (otherF w n i (rd L (i : Int)))] else []
theorem tilesD_succ (s : ByteArray) (w n : Nat) (L : List Int) (i d : Nat) : tilesD s w n L i (d + 1) = celD s w n L i ++ tilesD s w n L (i + 1) d := rfl
theorem tilesD_snoc (s : ByteArray) (w n : Nat) (L : List Int) : ∀ (d i : Nat), tilesD s w n L i (d + 1) = tilesD s w n L i d ++ celD s w n L (i + d) := by
  intro d
  induction d with
  | zero => intro i; rw [tilesD_succ]; simp [tilesD]
  | succ d ih =>
    intro i
    rw [tilesD_succ, ih (i + 1), tilesD_succ, List.append_assoc, show i + 1 + d = i + (d + 1) by omega]
theorem tilesD_congr (s : ByteArray) (w n : Nat) {L L' : List Int} : ∀ (d i : Nat), (∀ k : Nat, i ≤ k → k < i + d → rd L (k : Int) = rd L' (k : Int)) → tilesD s w n L i d = tilesD s w n L' i d := by
  intro d
  induction d with
  | zero => intro i _; rfl
  | succ d ih =>
    intro i h
    rw [tilesD_succ, tilesD_succ, ih (i + 1) (fun k h1 h2 => h k (by omega) (by omega))]
    unfold celD
    rw [h i (Nat.le_refl _) (by omega)]
theorem celD_none (s : ByteArray) {w n : Nat} {L : List Int} {i : Nat} (h : rd L (i : Int) = 119 ∨ rd L (i : Int) = 110) : celD s w n L i = [] := by
  unfold celD otherF
  rw [if_neg]
  rcases h with h | h <;> rw [h] <;> (repeat' split) <;> omega
theorem tilesD_skip (s : ByteArray) {w n : Nat} {L : List Int} : ∀ (e a : Nat), (∀ k : Nat, a ≤ k → k < a + e → rd L (k : Int) = 119 ∨ rd L (k : Int) = 110) → tilesD s w n L 0 (a + e) = tilesD s w n L 0 a := by
  intro e
  induction e with
  | zero => intro a _; rfl
  | succ e ih =>
    intro a h
    rw [← Nat.add_assoc, tilesD_snoc, Nat.zero_add, celD_none s (h (a + e) (by omega) (by omega)), List.append_nil]
    exact ih a (fun k h1 h2 => h k h1 (by omega))
theorem rd_set {b : List Int} {i : Nat} {l : Int} (hi : i < b.length) (k : Nat) : rd (b.set i l) (k : Int) = if k = i then l else rd b (k : Int) := by
  by_cases hk : k < b.length
  · rw [rd_at (by rw [List.length_set]; exact hk), rd_at hk, List.getElem_set]
    by_cases e : k = i
    · rw [if_pos e, if_pos e.symm]
    · rw [if_neg e, if_neg (fun q => e q.symm)]
  · rw [if_neg (by omega)]
    unfold rd
    rw [Int.toNat_natCast, List.getD_eq_getElem?_getD, List.getD_eq_getElem?_getD, List.getElem?_eq_none (by rw [List.length_set]; omega), List.getElem?_eq_none (by omega)]
theorem ffN_skip {b : List Int} {a k : Nat} (h1 : a ≤ k) (h2 : k < ffN b a) (h3 : k < b.length) : rd b (k : Int) ≠ 0 := by
  rw [rd_at h3]
  have h4 : k - a < (b.drop a).findIdx (fun x => x == 0) := by unfold ffN at h2; omega
  have h5 := List.not_of_lt_findIdx h4
  rw [List.getElem_drop] at h5
  simpa [show a + (k - a) = k by omega] using h5
def InvT (s : ByteArray) (w n : Nat) (b : List Int) (a : Nat) (l : List S_Tile) : Prop :=
  b.length = n ∧ a ≤ n ∧ (∀ k : Nat, a ≤ k → k < n → rd b (k : Int) = 0 ∨ rd b (k : Int) = 119 ∨ rd b (k : Int) = 110) ∧ tilesD s w n b 0 a = l
theorem inv_ff {s : ByteArray} {w n : Nat} {b : List Int} {a : Nat} {l : List S_Tile} (h : InvT s w n b a l) : tilesD s w n b 0 (ffN b a) = l := by
  obtain ⟨h1, h2, h3, h4⟩ := h
  have h5 := ffN_le b a
  have h6 : ffN b a ≤ b.length := by
    have := List.findIdx_le_length (xs := b.drop a) (p := fun x => x == 0)
    rw [List.length_drop] at this
    unfold ffN
    omega
  obtain ⟨e, he⟩ : ∃ e, ffN b a = a + e := ⟨ffN b a - a, by omega⟩
  have h7 := fun k q1 q2 => ffN_skip (b := b) (a := a) (k := k) q1 q2
  rw [he] at h6 h7 ⊢
  rw [tilesD_skip s e a (fun k q1 q2 => ?_), h4]
  rcases h3 k q1 (by omega) with q | q
  · exact absurd q (h7 k q1 q2 (by omega))
  · exact q
theorem inv_put {s : ByteArray} {w n : Nat} {b : List Int} {a i j : Nat} {l : List S_Tile} {c c2 : Int} (h : InvT s w n b a l) (hi : i = ffN b a) (hlt : i < b.length) (hij : i < j) (hjn : j < n) (hc2 : c2 = 119 ∨ c2 = 110) (ho : otherF w n i c = (j : Int)) :
    InvT s w n ((b.set i c).set j c2) (i + 1) (l ++ [tilT s i j]) := by
  have hf := inv_ff h
  rw [← hi] at hf
  have hle : a ≤ i := hi ▸ ffN_le b a
  obtain ⟨h1, h2, h3, h4⟩ := h
  have hr : ∀ k : Nat, rd ((b.set i c).set j c2) (k : Int) = if k = j then c2 else if k = i then c else rd b (k : Int) := fun k => by
    rw [rd_set (by rw [List.length_set]; omega), rd_set hlt]
  refine ⟨by simp [h1], by omega, fun k q1 q2 => ?_, ?_⟩
  · rw [hr]
    by_cases e : k = j
    · rw [if_pos e]; exact .inr hc2
    · rw [if_neg e, if_neg (by omega)]; exact h3 k (by omega) q2
  · rw [tilesD_snoc, Nat.zero_add, tilesD_congr s w n (L' := b) i 0 (fun k q1 q2 => by rw [hr, if_neg (by omega), if_neg (by omega)]), hf]
    congr 1
    have hc : rd ((b.set i c).set j c2) (i : Int) = c := by rw [hr, if_neg (by omega), if_pos rfl]
    unfold celD
    rw [hc, ho, if_pos (by omega)]
    rfl
theorem lvs_tiles (s : ByteArray) {w n : Nat} (hw : 0 < w) {hh : Nat} (hwh : w * hh = n) : ∀ (d : Nat) (b : List Int) (a : Nat) (l : List S_Tile), InvT s w n b a l → ∀ x ∈ lvs (nxC s) (w : Int) (n : Int) d b a l, tilesD s w n x.1 0 n = x.2 := by
  intro d
  induction d with
  | zero => intro b a l _ x hx; cases hx
  | succ d ih =>
    intro b a l h x hx
    rw [lvs_succ] at hx
    by_cases c : ffN b a = b.length
    · rw [if_pos c, List.mem_singleton] at hx
      subst hx
      have q := inv_ff h
      rw [c, h.1] at q
      exact q
    · rw [if_neg c] at hx
      obtain ⟨hlt, hfree⟩ := ffN_lt (by rw [h.1]; exact h.2.1) c
      obtain ⟨i, hi⟩ : ∃ i, i = ffN b a := ⟨_, rfl⟩
      rw [← hi] at hx hlt hfree
      have hbn := h.1
      rcases List.mem_append.1 hx with hx | hx
      · by_cases q2 : (i : Int) % (w : Int) < (w : Int) - 1
        · have eN : nearE (w : Int) (i : Int) = (i : Int) + 1 := by unfold nearE; rw [if_pos q2]
          rw [eN] at hx
          unfold putL at hx
          split at hx
          · have e : ((i : Int) + 1).toNat = i + 1 := by omega
            rw [e] at hx
            have q3 : i % w < w - 1 := by omega
            have hjn : i + 1 < n := by
              by_cases hj : i + 1 < n
              · exact hj
              · exfalso
                obtain ⟨m, rfl⟩ : ∃ m, hh = m + 1 := ⟨hh - 1, by cases hh with | zero => omega | succ m => rfl⟩
                have e3 : i = w * m + (w - 1) := by rw [Nat.mul_succ] at hwh; omega
                have e4 : i % w = w - 1 := by rw [e3, Nat.mul_add_mod]; exact Nat.mod_eq_of_lt (by omega)
                omega
            refine ih _ _ _ (inv_put h hi hlt (Nat.lt_succ_self i) hjn (.inl rfl) ?_) x hx
            unfold otherF
            rw [if_neg (by omega), if_neg (by omega), if_pos ⟨rfl, q3⟩]
            omega
          · cases hx
        · have eN : nearE (w : Int) (i : Int) = -1 := by unfold nearE; rw [if_neg q2]
          rw [eN] at hx
          unfold putL at hx
          rw [if_neg (fun q => absurd q.1 (by decide))] at hx
          cases hx
      · by_cases q2 : (i : Int) + (w : Int) < (n : Int)
        · have eN : nearS (w : Int) (n : Int) (i : Int) = (i : Int) + (w : Int) := by unfold nearS; rw [if_pos q2]
          rw [eN] at hx
          unfold putL at hx
          split at hx
          · have e : ((i : Int) + (w : Int)).toNat = i + w := by omega
            rw [e] at hx
            refine ih _ _ _ (inv_put h hi hlt (by omega) (by omega) (.inr rfl) ?_) x hx
            unfold otherF
            rw [if_neg (by omega), if_pos ⟨rfl, by omega⟩]
            omega
          · cases hx
        · have eN : nearS (w : Int) (n : Int) (i : Int) = -1 := by unfold nearS; rw [if_neg q2]
          rw [eN] at hx
          unfold putL at hx
          rw [if_neg (fun q => absurd q.1 (by decide))] at hx
          cases hx
/-! ### the two answers -/
theorem tilesD_good {s : ByteArray} (ht : isTab s = true) {w h : Nat} (hwh : w * h = (cells s).length) (L : List Int) : ∀ (d i : Nat), i + d ≤ (cells s).length → ∀ t ∈ tilesD s w (w * h) L i d, goodT t = true := by
  intro d
  induction d with
  | zero => intro i _ t ht'; cases ht'
  | succ d ih =>
    intro i hi t ht'
    rw [tilesD_succ] at ht'
    rcases List.mem_append.1 ht' with q | q
    · unfold celD at q
      split at q
      · rename_i c
        rw [List.mem_singleton] at q
        obtain ⟨b1, b2⟩ := other_bd (w := w) (h := h) (rd L (i : Int)) (show i < w * h by omega)
        obtain ⟨j, hj⟩ : ∃ j : Nat, otherF w (w * h) i (rd L (i : Int)) = (j : Int) := ⟨(otherF w (w * h) i (rd L (i : Int))).toNat, by omega⟩
        rw [hj] at q b2
        rw [q]
        exact tilT_gt ht (i := i) (j := j) (by omega) (by omega)
      · cases q
    · exact ih (i + 1) (by omega) t q
theorem tilesH_hand {s : ByteArray} (ht : isTab s = true) (b : List Int) : handB (tilesH s b) = decide (tilesH s b).Nodup := by
  have hg : ∀ t ∈ tilesH s b, goodT t = true := tilesD_good ht (by rw [(cells_n ht).1]) b _ 0 (by omega)
  have hl := tilesH_len ht b
  unfold handB difT
  rw [decide_eq_true (by omega), List.all_eq_true.2 hg, Bool.true_and, Bool.true_and]
theorem mtx_hand {l : List S_Tile} (hg : ∀ t ∈ l, goodT t = true) : mtx (mkM l) = mkU (handU (sortT l)) := by
  unfold mtx
  rw [sort_handM (l := l) (m := mkM l) (fun x => ⟨fun h => ⟨hg x h, by simp [mkM, h]⟩, fun h => by simpa [mkM] using h.2⟩)]
theorem rd_rep (n k : Nat) : rd (List.replicate n (0 : Int)) (k : Int) = 0 := by
  unfold rd
  rw [List.getD_eq_getElem?_getD, List.getElem?_replicate]
  split <;> rfl
theorem foldl_mem {α β : Type} {f g : α → β → α} : ∀ (L : List β) (a : α), (∀ a, ∀ x ∈ L, f a x = g a x) → L.foldl f a = L.foldl g a
  | [], _, _ => rfl
  | x :: L, a, h => by
    rw [List.foldl_cons, List.foldl_cons, h a x List.mem_cons_self]
    exact foldl_mem L _ fun a y hy => h a y (List.mem_cons_of_mem _ hy)
theorem ht_same {s : ByteArray} (ht : isTab s = true) : htR s = seenS s (allL s) := by
  obtain ⟨c1, c2, c3, c4⟩ := cells_n ht
  rw [htR_eq ht, lvs_allL]
  unfold seenS
  rw [List.foldl_map, List.foldl_map, List.foldl_filter]
  refine foldl_mem _ _ fun acc x hx => ?_
  have hT : tilesH s x.1 = x.2 := by
    have q := lvs_tiles s (w := w0 (rowsB s)) (n := (cells s).length) c3 c1.symm 31 _ _ _ ⟨List.length_replicate, Nat.zero_le _, fun k _ _ => .inl (rd_rep _ k), rfl⟩ x hx
    unfold tilesH
    rw [← c1]
    exact q
  have hg : ∀ t ∈ x.2, goodT t = true := by
    rw [← hT]
    exact tilesD_good ht (by rw [c1]) _ _ 0 (by omega)
  have hH := tilesH_hand ht x.1
  unfold seenP
  rw [hH, hT, mtx_hand hg]
end Go.Proofs.YtokkiiepddhkiaaGreatDoor.Pure
