/- The program's windows and the reference's are the same ones in the same order (plain). -/
import Derived.Test.YtbkaedmabdgdhaaPWinS
import Derived.Test.YtbkaedmabdgdhaaSortRShelf
import Derived.Test.YtbkaedmabdgdhaaPWin0
import Derived.Test.YtbkaedmabdgdhaaMSxS
import Derived.Test.YtbkaedmabdgdhaaG0
namespace Go.Proofs.Ytbkaedmabdgdhaa.Hd
open Go.RowKit Go.Proofs.Ytbkaedmabdgdhaa.Pure Go.Proofs.YtbkaedmabdgdhaaW.PrintWords Go.Proofs.YtbkaedmabdgdhaaW.PrintLast Go.Proofs.YtbkaedmabdgdhaaW.PrintMore
set_option linter.unusedVariables false
set_option linter.unusedSimpArgs false
def cmpL : List Int → List Int → Int
  | x :: xs, y :: ys => if x = y then cmpL xs ys else if x < y then -1 else 1
  | [], [] => 0
  | [], _ :: _ => -1
  | _ :: _, [] => 1
theorem cmpL_self : ∀ a : List Int, cmpL a a = 0
  | [] => rfl
  | x :: xs => by simp [cmpL, cmpL_self xs]
theorem cmpL_neg : ∀ {a b : List Int}, (cmpL a b < 0 ↔ 0 < cmpL b a)
  | [], [] => by simp [cmpL]
  | x :: xs, y :: ys => by
    unfold cmpL
    by_cases e : x = y
    · subst e; rw [if_pos rfl, if_pos rfl]; exact cmpL_neg
    · rw [if_neg e, if_neg (Ne.symm e)]
      by_cases c : x < y
      · rw [if_pos c, if_neg (by omega)]; omega
      · rw [if_neg c, if_pos (by omega)]; omega
  | [], _ :: _ => by simp [cmpL]
  | _ :: _, [] => by simp [cmpL]
theorem cmpL_zero : ∀ {a b : List Int}, cmpL a b = 0 → a = b
  | [], [], _ => rfl
  | x :: xs, y :: ys, q => by
    unfold cmpL at q
    by_cases e : x = y
    · subst e; rw [if_pos rfl] at q; rw [cmpL_zero q]
    · rw [if_neg e] at q; split at q <;> omega
  | [], _ :: _, h => by simp [cmpL] at h
  | _ :: _, [], h => by simp [cmpL] at h
theorem cmpL_trans : ∀ {a b c : List Int}, cmpL a b < 0 → cmpL b c < 0 → cmpL a c < 0
  | [], [], _, h1, _ => by simp [cmpL] at h1
  | x :: xs, y :: ys, z :: zs, h1, h2 => by
    unfold cmpL at *
    by_cases e : x = y
    · subst e
      rw [if_pos rfl] at h1
      by_cases e2 : x = z
      · subst e2; rw [if_pos rfl] at h2 ⊢; exact cmpL_trans h1 h2
      · rw [if_neg e2] at h2 ⊢; exact h2
    · rw [if_neg e] at h1
      by_cases e2 : y = z
      · subst e2; rw [if_neg e]; exact h1
      · rw [if_neg e2] at h2
        have c1 : x < y := by split at h1 <;> omega
        have c2 : y < z := by split at h2 <;> omega
        rw [if_neg (by omega), if_pos (by omega)]; omega
  | [], _ :: _, _ :: _, _, _ => by simp [cmpL]
  | [], _ :: _, [], _, h => by simp [cmpL] at h
  | _ :: _, [], _, h, _ => by simp [cmpL] at h
  | _ :: _, _ :: _, [], _, h => by simp [cmpL] at h
theorem cmpL_ntrans {a b c : List Int} (h1 : ¬ cmpL a b < 0) (h2 : ¬ cmpL b c < 0) : ¬ cmpL a c < 0 := by
  intro h
  by_cases k : cmpL b a < 0
  · exact h2 (cmpL_trans k h)
  · have c2 : cmpL a b = 0 := by
      have q := mt cmpL_neg.2 k
      omega
    have := cmpL_zero c2
    rw [this] at h
    exact h2 h
theorem cmpL_drop {a b : List Int} {i : Nat} (ha : i < a.length) (hb : i < b.length) : cmpL (a.drop i) (b.drop i) = if a[i] = b[i] then cmpL (a.drop (i + 1)) (b.drop (i + 1)) else if a[i] < b[i] then -1 else 1 := by
  rw [List.drop_eq_getElem_cons ha, List.drop_eq_getElem_cons hb]; rfl
theorem cmpInt_is (x y : Int) : cmp_Compare_int.f x y = some (if x < y then -1 else if x > y then 1 else 0) := by
  unfold cmp_Compare_int.f cmp_isNaN_int.f
  by_cases h : x < y
  · simp [h]
  · by_cases h2 : x > y
    · simp [h, h2]
    · simp [h, h2]
theorem compareL_l0 (a b : List Int) (hab : a.length = b.length) (hl : a.length ≤ 1048576) : ∀ (d i : Nat), i + d = a.length → Ev (fun k => slices_Compare_int_int.l0 k a b a (a.length : Int) (i : Int)) (cmpL (a.drop i) (b.drop i)) := by
  intro d
  induction d with
  | zero =>
    intro i hi
    refine Ev.succ ?_
    simp only [slices_Compare_int_int.l0]
    refine Ev.neg (by omega) (Ev.neg (by omega) (Ev.ret ?_))
    rw [List.drop_of_length_le (by omega), List.drop_of_length_le (by omega)]; rfl
  | succ d ih =>
    intro i hi
    have ha : i < a.length := by omega
    have hb : i < b.length := by omega
    refine Ev.succ ?_
    rw [cmpL_drop ha hb]
    simp only [slices_Compare_int_int.l0]
    rw [rd_at ha, rd_at hb, w64' (n := (i : Int) + 1) (m := ((i + 1 : Nat) : Int)) (by omega) (by omega) (by omega)]
    by_cases e : a[i] = b[i]
    · rw [if_pos e]
      refine Ev.pos (by omega) (Ev.pos (by omega) (Ev.pos (by omega) (Ev.neg (by omega) (Ev.pos (by omega) (Ev.bs (cmpInt_is _ _) (Ev.pos ?_ (ih (i + 1) (by omega))))))))
      rw [if_neg (by omega), if_neg (by omega)]
    · rw [if_neg e]
      refine Ev.pos (by omega) (Ev.pos (by omega) (Ev.pos (by omega) (Ev.neg (by omega) (Ev.pos (by omega) (Ev.bs (cmpInt_is _ _) (Ev.neg ?_ (Ev.ret ?_)))))))
      · by_cases h : a[i] < b[i]
        · simp [h]
        · have : a[i] > b[i] := by omega
          simp [h, this]
      · by_cases h : a[i] < b[i]
        · simp [h]
        · have : a[i] > b[i] := by omega
          simp [h, this]
theorem compareL_ev (a b : List Int) (hab : a.length = b.length) (hl : a.length ≤ 1048576) : Ev (fun k => slices_Compare_int_int.f k a b) (cmpL a b) := by
  unfold slices_Compare_int_int.f
  have h := compareL_l0 a b hab hl a.length 0 (by omega)
  simpa using h
section
variable (xs : List (List Int))
end
end Go.Proofs.Ytbkaedmabdgdhaa.Hd
namespace Go.Proofs.Ytbkaedmabdgdhaa.Pure
open Go.RowKit Go.Proofs.Ytbkaedmabdgdhaa.Hd Go.Proofs.YtbkaedmabdgdhaaW.PrintWords Go.Proofs.YtbkaedmabdgdhaaW.PrintLast
set_option linter.unusedVariables false
set_option linter.unusedSimpArgs false
theorem pre_of {l w : List Int} {a b : Int} (h : l ++ [a, b] <+: w) : l <+: w := (List.prefix_append l [a, b]).trans h
theorem pre_two {l w : List Int} {a b c d : Int} (h : l ++ [a, b] <+: w) (h2 : l ++ [c, d] <+: w) : a = c ∧ b = d := by
  obtain ⟨s, rfl⟩ := h
  obtain ⟨t, ht⟩ := h2
  rw [List.append_assoc, List.append_assoc] at ht
  have := List.append_cancel_left ht
  simp only [List.cons_append, List.nil_append, List.cons.injEq] at this
  exact ⟨this.1.symm, this.2.1.symm⟩
theorem layN_pre (m : Nat) : ∀ (n : Nat) (l : List Int) (H : List S_Tile), ∀ w ∈ layN m n l H, l <+: w
  | 0, l, H, w, h => by
    unfold layN at h
    split at h
    · simp only [List.mem_singleton] at h; rw [h]; exact List.prefix_refl _
    · cases h
  | n + 1, l, H, w, h => by
    unfold layN at h
    split at h
    · simp only [List.mem_singleton] at h; rw [h]; exact List.prefix_refl _
    · obtain ⟨k, _, h⟩ := List.mem_flatMap.1 h
      unfold bothW at h
      rw [List.mem_append] at h
      rcases h with h | h
      · exact pre_of (layN_pre m n _ _ w h)
      · split at h
        · cases h
        · exact pre_of (layN_pre m n _ _ w h)
theorem lookN_pre (stp : List Int → List S_Tile → Bool) : ∀ (d : Nat) (l : List Int) (H : List S_Tile), ∀ w ∈ lookN stp d l H, l <+: w
  | 0, l, H, w, h => by
    unfold lookN at h
    split at h
    · simp only [List.mem_singleton] at h; rw [h]; exact List.prefix_refl _
    · cases h
  | d + 1, l, H, w, h => by
    unfold lookN at h
    split at h
    · simp only [List.mem_singleton] at h; rw [h]; exact List.prefix_refl _
    · obtain ⟨a, _, h⟩ := List.mem_flatMap.1 h
      obtain ⟨b, _, h⟩ := List.mem_flatMap.1 h
      unfold cellL at h
      split at h
      · exact pre_of (lookN_pre stp d _ _ w h)
      · cases h
theorem cmpL_pre {x y : Int} (hxy : x < y) : ∀ {l v w : List Int} {p q : List Int}, l ++ x :: p <+: v → l ++ y :: q <+: w → cmpL v w < 0
  | [], v, w, p, q, h1, h2 => by
    obtain ⟨s, rfl⟩ := h1
    obtain ⟨t, rfl⟩ := h2
    simp only [List.nil_append, List.cons_append]
    unfold cmpL
    rw [if_neg (by omega), if_pos hxy]; omega
  | z :: l, v, w, p, q, h1, h2 => by
    obtain ⟨s, rfl⟩ := h1
    obtain ⟨t, rfl⟩ := h2
    simp only [List.cons_append]
    unfold cmpL
    rw [if_pos rfl]
    exact cmpL_pre hxy (List.prefix_append (l ++ x :: p) s) (List.prefix_append (l ++ y :: q) t)
/-- The reference's lists come in order, each once. -/
theorem lookN_sorted (stp : List Int → List S_Tile → Bool) : ∀ (d : Nat) (l : List Int) (H : List S_Tile), (lookN stp d l H).Pairwise (fun v w => cmpL v w < 0)
  | 0, l, H => by
    unfold lookN
    split <;> simp
  | d + 1, l, H => by
    unfold lookN
    split
    · simp
    · rw [List.pairwise_flatMap]
      refine ⟨fun a _ => ?_, List.pairwise_lt_range.imp fun {a1 a2} h12 => ?_⟩
      · rw [List.pairwise_flatMap]
        refine ⟨fun b _ => ?_, List.pairwise_lt_range.imp fun {b1 b2} h12 => ?_⟩
        · unfold cellL
          split
          · exact lookN_sorted stp d _ _
          · exact List.Pairwise.nil
        · intro v hv w hw
          unfold cellL at hv hw
          split at hv
          · split at hw
            · have h1 := lookN_pre stp d _ _ v hv
              have h2 := lookN_pre stp d _ _ w hw
              have e1 : l ++ [(a : Int), (b1 : Int)] = (l ++ [(a : Int)]) ++ (b1 : Int) :: [] := by simp
              have e2 : l ++ [(a : Int), (b2 : Int)] = (l ++ [(a : Int)]) ++ (b2 : Int) :: [] := by simp
              rw [e1] at h1
              rw [e2] at h2
              exact cmpL_pre (by omega) h1 h2
            · cases hw
          · cases hv
      · intro v hv w hw
        obtain ⟨b1, _, hv⟩ := List.mem_flatMap.1 hv
        obtain ⟨b2, _, hw⟩ := List.mem_flatMap.1 hw
        unfold cellL at hv hw
        split at hv
        · split at hw
          · exact cmpL_pre (by omega : (a1 : Int) < (a2 : Int)) (lookN_pre stp d _ _ v hv) (lookN_pre stp d _ _ w hw)
          · cases hw
        · cases hv
theorem rdT_inj {H : List S_Tile} (hn : H.Nodup) {i j : Nat} (hi : i < H.length) (hj : j < H.length) (h : rd_Tile H (i : Int) = rd_Tile H (j : Int)) : i = j := by
  rw [rdT_lt hi, rdT_lt hj] at h
  exact (List.getElem_inj hn).1 h
theorem good_le {t : S_Tile} (h : goodT t = true) : 0 ≤ t.f0 ∧ t.f0 ≤ t.f1 ∧ t.f1 ≤ 9 := by
  unfold goodT at h
  simp only [Bool.and_eq_true, decide_eq_true_eq] at h
  omega
theorem tile_ext {s t : S_Tile} (h0 : s.f0 = t.f0) (h1 : s.f1 = t.f1) : s = t := by cases s; cases t; simp only at h0 h1; rw [h0, h1]
/-- No list comes twice. -/
theorem layN_nodup (m : Nat) : ∀ (n : Nat) (l : List Int) (H : List S_Tile), H.Nodup → (∀ t ∈ H, goodT t = true) → (layN m n l H).Nodup
  | 0, l, H, _, _ => by
    unfold layN
    split <;> simp
  | n + 1, l, H, hn, hg => by
    unfold layN
    split
    · simp
    · unfold List.Nodup
      rw [List.pairwise_flatMap]
      have hsub : ∀ k, (H.eraseIdx k).Nodup := fun k => hn.sublist (List.eraseIdx_sublist H k)
      have hgs : ∀ k, ∀ t ∈ H.eraseIdx k, goodT t = true := fun k t ht => hg t (List.mem_of_mem_eraseIdx ht)
      refine ⟨fun k _ => ?_, List.Pairwise.imp_of_mem (R := fun a b => a < b) (fun {a b} ha hb hab => ?_) List.pairwise_lt_range⟩
      · unfold bothW
        split
        · rw [List.append_nil]; exact layN_nodup m n _ _ (hsub k) (hgs k)
        · rename_i hd
          refine List.nodup_append.2 ⟨layN_nodup m n _ _ (hsub k) (hgs k), layN_nodup m n _ _ (hsub k) (hgs k), fun v hv w hw => ?_⟩
          rintro rfl
          have := (pre_two (layN_pre m n _ _ v hv) (layN_pre m n _ _ v hw)).1
          exact hd (by rw [this]; simp)
      · rw [List.mem_range] at ha hb
        intro v hv w hw
        rintro rfl
        have ga := good_le (hg _ (List.getElem_mem ha)); have gb := good_le (hg _ (List.getElem_mem hb))
        rw [← rdT_lt ha] at ga; rw [← rdT_lt hb] at gb
        have key : ∀ {x y z u : Int}, l ++ [x, y] <+: v → l ++ [z, u] <+: v → x = z ∧ y = u := fun h1 h2 => pre_two h1 h2
        have hne : ¬ ((rd_Tile H (a : Int)).f0 = (rd_Tile H (b : Int)).f0 ∧ (rd_Tile H (a : Int)).f1 = (rd_Tile H (b : Int)).f1) := fun h => by
          have := rdT_inj hn ha hb (tile_ext h.1 h.2); omega
        unfold bothW at hv hw
        rw [List.mem_append] at hv hw
        rcases hv with hv | hv
        · rcases hw with hw | hw
          · exact hne (key (layN_pre m n _ _ v hv) (layN_pre m n _ _ v hw))
          · split at hw
            · cases hw
            · have := key (layN_pre m n _ _ v hv) (layN_pre m n _ _ v hw)
              exact hne ⟨by omega, by omega⟩
        · split at hv
          · cases hv
          · rcases hw with hw | hw
            · have := key (layN_pre m n _ _ v hv) (layN_pre m n _ _ v hw)
              exact hne ⟨by omega, by omega⟩
            · split at hw
              · cases hw
              · have := key (layN_pre m n _ _ v hv) (layN_pre m n _ _ v hw)
                exact hne ⟨this.2, this.1⟩
theorem lessT_mem {H : List S_Tile} {t x : S_Tile} : x ∈ lessT H t ↔ x ∈ H ∧ goodT x = true ∧ x ≠ t := by
  unfold lessT keepT
  rw [List.mem_filter, sortT_mem]
  simp [and_assoc]
theorem erase_mem {H : List S_Tile} (hn : H.Nodup) {k : Nat} (hk : k < H.length) {x : S_Tile} : x ∈ H.eraseIdx k ↔ x ∈ H ∧ x ≠ H[k] := by
  rw [List.mem_eraseIdx_iff_getElem]
  constructor
  · rintro ⟨i, hi, hne, rfl⟩
    exact ⟨List.getElem_mem hi, fun h => hne ((List.getElem_inj hn).1 h)⟩
  · rintro ⟨hx, hne⟩
    obtain ⟨i, hi, rfl⟩ := List.getElem_of_mem hx
    exact ⟨i, hi, fun h => hne (by subst h; rfl), rfl⟩
theorem tl_le {a b : Int} (h : a ≤ b) : tl a b = ⟨a, b⟩ := by unfold tl; rw [Int.min_eq_left h, Int.max_eq_right h]
theorem tl_ge {a b : Int} (h : b ≤ a) : tl a b = ⟨b, a⟩ := by unfold tl; rw [Int.min_eq_right h, Int.max_eq_left h]
/-- The same lists. -/
theorem lay_look (m : Nat) (stp : List Int → List S_Tile → Bool) (I : List Int → List S_Tile → Prop) (hstp : ∀ l H, I l H → stp l H = decide (l.length = 2 * m)) (hI : ∀ (l : List Int) (H : List S_Tile) (a b : Nat), I l H → tl (a : Int) (b : Int) ∈ H → I (l ++ [(a : Int), (b : Int)]) (lessT H (tl (a : Int) (b : Int)))) :
    ∀ (d n : Nat) (l : List Int) (H H' : List S_Tile), l.length + 2 * d = 2 * m → H.length = n → H.Nodup → (∀ t ∈ H, goodT t = true) → (∀ t, t ∈ H ↔ t ∈ H') → I l H' → ∀ w, w ∈ layN m n l H ↔ w ∈ lookN stp d l H'
  | 0, n, l, H, H', hl, hn, hnd, hg, hm, hi, w => by
    have e : l.length = 2 * m := by omega
    have e2 : stp l H' = true := by rw [hstp l H' hi]; exact decide_eq_true e
    cases n <;> simp [layN, lookN, e, e2]
  | d + 1, n, l, H, H', hl, hn, hnd, hg, hm, hi, w => by
    have e : l.length ≠ 2 * m := by omega
    have e2 : stp l H' = false := by rw [hstp l H' hi]; exact decide_eq_false e
    have hL : w ∈ lookN stp (d + 1) l H' ↔ ∃ a b : Nat, a < 10 ∧ b < 10 ∧ tl (a : Int) (b : Int) ∈ H' ∧ w ∈ lookN stp d (l ++ [(a : Int), (b : Int)]) (lessT H' (tl (a : Int) (b : Int))) := by
      rw [lookN, if_neg (by rw [e2]; exact Bool.false_ne_true), List.mem_flatMap]
      constructor
      · rintro ⟨a, ha, h⟩
        obtain ⟨b, hb, h⟩ := List.mem_flatMap.1 h
        unfold cellL at h
        split at h
        · rename_i ht; exact ⟨a, b, List.mem_range.1 ha, List.mem_range.1 hb, ht, h⟩
        · cases h
      · rintro ⟨a, b, ha, hb, ht, h⟩
        refine ⟨a, List.mem_range.2 ha, List.mem_flatMap.2 ⟨b, List.mem_range.2 hb, ?_⟩⟩
        unfold cellL; rw [if_pos ht]; exact h
    rw [hL]
    cases n with
    | zero =>
      have hz := List.eq_nil_of_length_eq_zero hn
      subst hz
      simp only [layN, if_neg e, List.not_mem_nil, false_iff]
      rintro ⟨a, b, _, _, ht, _⟩
      exact (List.not_mem_nil ((hm _).2 ht)).elim
    | succ n =>
      have hstep : ∀ (k : Nat) (hk : k < H.length) (a b : Nat), tl (a : Int) (b : Int) = H[k] → (w ∈ layN m n (l ++ [(a : Int), (b : Int)]) (H.eraseIdx k) ↔ w ∈ lookN stp d (l ++ [(a : Int), (b : Int)]) (lessT H' (tl (a : Int) (b : Int)))) := fun k hk a b ht => by
        have htm : tl (a : Int) (b : Int) ∈ H' := (hm _).1 (by rw [ht]; exact List.getElem_mem hk)
        refine lay_look m stp I hstp hI d n _ _ _ (by simp; omega) (by rw [erase_len hk]; omega) (hnd.sublist (List.eraseIdx_sublist H k)) (erase_all hg) (fun t => ?_) (hI l H' a b hi htm) w
        rw [erase_mem hnd hk, lessT_mem, ← hm, ht]
        exact ⟨fun h => ⟨h.1, hg t h.1, h.2⟩, fun h => ⟨h.1, h.2.2⟩⟩
      rw [layN, if_neg e, List.mem_flatMap]
      constructor
      · rintro ⟨k, hk, h⟩
        have hk := List.mem_range.1 hk
        have gk := good_le (hg _ (List.getElem_mem hk))
        unfold bothW at h
        rw [rdT_lt hk, List.mem_append] at h
        have ea : ((H[k].f0.toNat : Nat) : Int) = H[k].f0 := Int.toNat_of_nonneg (by omega)
        have eb : ((H[k].f1.toNat : Nat) : Int) = H[k].f1 := Int.toNat_of_nonneg (by omega)
        rcases h with h | h
        · have ht : tl ((H[k].f0.toNat : Nat) : Int) ((H[k].f1.toNat : Nat) : Int) = H[k] := by rw [ea, eb, tl_le gk.2.1]
          refine ⟨H[k].f0.toNat, H[k].f1.toNat, by omega, by omega, by rw [ht]; exact (hm _).1 (List.getElem_mem hk), (hstep k hk _ _ ht).1 ?_⟩
          rw [ea, eb]; exact h
        · split at h
          · cases h
          · have ht : tl ((H[k].f1.toNat : Nat) : Int) ((H[k].f0.toNat : Nat) : Int) = H[k] := by rw [ea, eb, tl_ge gk.2.1]
            refine ⟨H[k].f1.toNat, H[k].f0.toNat, by omega, by omega, by rw [ht]; exact (hm _).1 (List.getElem_mem hk), (hstep k hk _ _ ht).1 ?_⟩
            rw [ea, eb]; exact h
      · rintro ⟨a, b, ha, hb, ht, h⟩
        obtain ⟨k, hk, hkt⟩ := List.getElem_of_mem ((hm _).2 ht)
        have h2 := (hstep k hk a b hkt.symm).2 h
        refine ⟨k, List.mem_range.2 hk, ?_⟩
        unfold bothW
        rw [rdT_lt hk, List.mem_append, hkt]
        by_cases hab : (a : Int) ≤ b
        · rw [tl_le hab]; exact .inl h2
        · right
          rw [tl_ge (by omega), if_neg (by simp; omega)]
          exact h2
/-- How many lists there are at most. -/
theorem layN_bound (m : Nat) : ∀ (n d : Nat) (l : List Int) (H : List S_Tile), l.length + 2 * d = 2 * m → H.length = n → n ≤ 9 → (layN m n l H).length ≤ 18 ^ d
  | n, 0, l, H, hl, hn, h9 => by
    have e : l.length = 2 * m := by omega
    cases n <;> simp [layN, e]
  | 0, d + 1, l, H, hl, hn, h9 => by
    have e : l.length ≠ 2 * m := by omega
    simp [layN, e]
  | n + 1, d + 1, l, H, hl, hn, h9 => by
    have e : l.length ≠ 2 * m := by omega
    rw [layN, if_neg e]
    have hb : ∀ k ∈ List.range H.length, (bothW (layN m n) l H k).length ≤ 2 * 18 ^ d := fun k hk => by
      have hk := List.mem_range.1 hk
      unfold bothW
      rw [List.length_append]
      have h1 := layN_bound m n d (l ++ [(rd_Tile H (k : Int)).f0, (rd_Tile H (k : Int)).f1]) (H.eraseIdx k) (by simp; omega) (by rw [erase_len hk]; omega) (by omega)
      have h2 := layN_bound m n d (l ++ [(rd_Tile H (k : Int)).f1, (rd_Tile H (k : Int)).f0]) (H.eraseIdx k) (by simp; omega) (by rw [erase_len hk]; omega) (by omega)
      split
      · simp only [List.length_nil]; omega
      · omega
    have key : ∀ (L : List Nat), (∀ k ∈ L, (bothW (layN m n) l H k).length ≤ 2 * 18 ^ d) → (L.flatMap (bothW (layN m n) l H)).length ≤ L.length * (2 * 18 ^ d) := by
      intro L
      induction L with
      | nil => intro _; simp
      | cons x L ih =>
        intro h
        have h1 := h x (List.mem_cons_self)
        have h2 := ih (fun k hk => h k (List.mem_cons_of_mem _ hk))
        rw [List.flatMap_cons, List.length_append, List.length_cons, Nat.add_mul, Nat.one_mul]; omega
    refine Nat.le_trans (key _ hb) ?_
    rw [List.length_range, Nat.pow_succ, Nat.mul_comm (18 ^ d) 18]
    have : H.length * (2 * 18 ^ d) ≤ 9 * (2 * 18 ^ d) := Nat.mul_le_mul_right _ (by omega)
    omega
end Go.Proofs.Ytbkaedmabdgdhaa.Pure
