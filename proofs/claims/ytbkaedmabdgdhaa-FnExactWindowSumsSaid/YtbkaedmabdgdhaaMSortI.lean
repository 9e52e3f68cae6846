/- slices.Sort and slices.Compact over rows of whole numbers of the call's own, by the shelf's contracts (laid in the text Shelf). -/
import Derived.Test.YtbkaedmabdgdhaaShelf
import Derived.Test.YtbkaedmabdgdhaaMSxR
import Derived.Sort.Grow
namespace Go.Proofs.Ytbkaedmabdgdhaa.Hd
open Go.RowKit Go.Proofs.YtbkaedmabdgdhaaW.PrintWords Go.Proofs.YtbkaedmabdgdhaaW.PrintLast Go.Proofs.YtbkaedmabdgdhaaW.PrintMore
set_option linter.unusedVariables false
set_option linter.unusedSimpArgs false
theorem reps_intsS {R : Int → List Value → Prop} (h : ∀ x, R x [.int .i64 x]) (xs : List Int) : Reps R 1 xs (xs.map (Value.int .i64)) := by
  have key : ∀ (zs ys : List Int), Reps R 1 ys (ys.map (Value.int .i64)) → Reps R 1 (ys ++ zs) ((ys ++ zs).map (Value.int .i64)) := by
    intro zs
    induction zs with
    | nil => intro ys h0; rwa [List.append_nil]
    | cons z zs ih =>
      intro ys h0
      have h1 := Reps.snoc h0 (h z) rfl
      have e : ys ++ z :: zs = (ys ++ [z]) ++ zs := by simp
      rw [e]
      refine ih (ys ++ [z]) ?_
      have e2 : (ys ++ [z]).map (Value.int .i64) = ys.map (Value.int .i64) ++ [.int .i64 z] := by simp
      rw [e2]
      exact h1
  exact key xs [] (Reps.none _ _)
theorem holdsI {w : World} {base cap g E : Nat} {ok : Nat → Prop} {l : List Int} (h : Kd.R (Kd.int .i64) E w base ok (.slice (some ⟨g, 0, none⟩) l.length cap) l) : Go.Sort.Holds (Value.int .i64) w g 0 l.toArray := by
  intro j hj
  have hj : j < l.length := by simpa using hj
  have hcf := Kd.R_cell (0 : Int) h (j : Int) (by omega) (by omega)
  simp only [Int.toNat_natCast] at hcf
  refine ⟨?_, by simpa using hcf.2⟩
  have e1 : l.toArray[j]! = rdOf 0 l (j : Int) := by simp [rdOf, hj]
  rw [e1]; simpa using hcf.1
theorem putI_R {w : World} {base cap g E : Nat} {ok : Nat → Prop} {l : List Int} (h : Kd.R (Kd.int .i64) E w base ok (.slice (some ⟨g, 0, none⟩) l.length cap) l) (h0 : 0 < l.length) (d : List Int) (hd : d.length = l.length) (m : Nat) (hm : m ≤ l.length) (q : Nat) (os : Array Obj) :
    Kd.R (Kd.int .i64) E (Go.Sort.grow (Go.Sort.putRow (Value.int .i64) (Go.Sort.ahead w q) g 0 d.toArray) os) base ok (.slice (some ⟨g, 0, none⟩) m cap) (d.take m) ∧ Mv (fun k => (Value.slice (some ⟨g, 0, none⟩) l.length cap).ownBlock = some k) w (Go.Sort.grow (Go.Sort.putRow (Value.int .i64) (Go.Sort.ahead w q) g 0 d.toArray) os) := by
  obtain ⟨hsub, inner, ho, hr⟩ := h
  rcases ho.2 with ⟨e, hn⟩ | ⟨g', cap', cur, e, hg, hh, hc, hmx, hcs, htk⟩
  · omega
  · injection e with e1 _ e3
    injection e1 with e1
    injection e1 with e1
    subst e1; subst e3
    have hlt : g < w.heap.size := (Array.getElem?_eq_some_iff.1 hh).1
    refine ⟨⟨hsub, (d.take m).map (Value.int .i64), ?_, reps_intsS (R := (Kd.int .i64).M _ base _) (fun _ => rfl) _⟩, ?_⟩
    · have hl : (d.take m).length = m := by rw [List.length_take]; omega
      rw [hl]
      refine ⟨by rw [List.length_map, hl]; exact (Nat.mul_one m).symm, .inr ⟨g, cap, Go.Sort.putCells (Value.int .i64) 0 d.toArray cur, rfl, hg, ?_, by omega, hmx, ?_, ?_⟩⟩
      · show ((w.heap.modify g (Go.Sort.onCells (Go.Sort.putCells (Value.int .i64) 0 d.toArray))) ++ os)[g]? = _
        rw [Array.getElem?_append_left (by simpa using hlt), Array.getElem?_modify, if_pos rfl, hh]
        rfl
      · unfold Go.Sort.putCells
        rw [Array.size_mapIdx]; exact hcs
      · show List.take (m * 1) _ = _
        rw [Nat.mul_one]
        have hcs' : cur.size = cap := by rw [hcs]; exact Nat.mul_one cap
        refine List.ext_getElem? fun j => ?_
        by_cases hj : j < m
        · rw [List.getElem?_take_of_lt hj, Array.getElem?_toList]
          unfold Go.Sort.putCells
          rw [Array.getElem?_mapIdx, Array.getElem?_eq_getElem (show j < cur.size by omega)]
          rw [Option.map_some, if_pos ⟨Nat.zero_le _, by simp; omega⟩, Nat.sub_zero]
          rw [List.getElem?_map, List.getElem?_take_of_lt hj, List.getElem?_eq_getElem (show j < d.length by omega)]
          simp [show j < d.length by omega]
        · rw [List.getElem?_eq_none (by rw [List.length_take]; omega), List.getElem?_eq_none (by rw [List.length_map, hl]; omega)]
    · refine ⟨rfl, rfl, rfl, ?_, fun k hk hne => ?_⟩
      · show w.heap.size ≤ ((w.heap.modify g _) ++ os).size
        simp
      · show ((w.heap.modify g _) ++ os)[k]? = _
        rw [Array.getElem?_append_left (by simpa using hk), Array.getElem?_modify, if_neg (fun e => hne (by rw [← e]; rfl))]
def sortI (l : List Int) : List Int := l.mergeSort fun x y => decide (x ≤ y)
theorem sortI_len (l : List Int) : (sortI l).length = l.length := List.length_mergeSort l
theorem sortI_R {w : World} {base E : Nat} {ok : Nat → Prop} {v : Value} {l : List Int} (h : Kd.R (Kd.int .i64) E w base ok v l) (hl : l.length ≤ 8388608) :
    Calls Try.prog 38 #[v] w fun e w' => e = .returned (.tuple #[]) ∧ Kd.R (Kd.int .i64) E w' base ok v (sortI l) ∧ Mv (fun k => v.ownBlock = some k) w w' := by
  rcases Nat.eq_zero_or_pos l.length with h0 | h0
  · obtain rfl := List.eq_nil_of_length_eq_zero h0
    obtain ⟨A, c, rfl, _⟩ := Kd.R_reads h
    refine (Try.slices_Sort_int_none A c w).mono ?_
    rintro e w' ⟨rfl, rfl⟩
    exact ⟨rfl, by simpa [sortI] using h, Mv.refl _ _⟩
  · obtain ⟨g, cap, rfl, hc⟩ := Kd.R_form h h0
    have hlt : g < w.heap.size := by
      obtain ⟨hsub, inner, ho, hr⟩ := h
      rcases ho.2 with ⟨e, hn⟩ | ⟨g', cap', cur, e, hg, hh, _⟩
      · omega
      · injection e with e1
        injection e1 with e1
        injection e1 with e1
        subst e1
        exact (Array.getElem?_eq_some_iff.1 hh).1
    refine (Try.slices_Sort_int g 0 cap l w (holdsI h) hlt (by omega)).mono ?_
    rintro e w' ⟨rfl, n, os, rfl⟩
    have h2 := putI_R h h0 (sortI l) (sortI_len l) l.length (Nat.le_refl _) n os
    rw [List.take_of_length_le (by rw [sortI_len]; exact Nat.le_refl _)] at h2
    exact ⟨rfl, h2.1, h2.2⟩
theorem compactI_le (l : List Int) : (Lib.compact l).length ≤ l.length := by
  unfold Lib.compact Lib.compactUpTo
  rw [List.length_map]
  exact Nat.le_trans (List.length_filter_le _ _) (by simp)
theorem compactI_R {w : World} {base E : Nat} {ok : Nat → Prop} {v : Value} {l : List Int} (h : Kd.R (Kd.int .i64) E w base ok v l) (hl : l.length ≤ 8388608) :
    Calls Try.prog 39 #[v] w fun e w' => ∃ u, e = .returned u ∧ Kd.R (Kd.int .i64) E w' base ok u (Lib.compact l) ∧ Mv (fun k => v.ownBlock = some k) w w' := by
  rcases Nat.eq_zero_or_pos l.length with h0 | h0
  · obtain rfl := List.eq_nil_of_length_eq_zero h0
    obtain ⟨A, c, rfl, _⟩ := Kd.R_reads h
    refine (Try.slices_Compact_int_empty A c w).mono ?_
    rintro e w' ⟨rfl, rfl⟩
    exact ⟨_, rfl, by simpa [Lib.compact, Lib.compactUpTo] using h, Mv.refl _ _⟩
  · obtain ⟨g, cap, rfl, hc⟩ := Kd.R_form h h0
    have hle := compactI_le l
    refine (Try.slices_Compact_int g 0 cap l w (holdsI h) (by omega) (Kd.R_reads' h).2.1).mono ?_
    rintro e w' ⟨rfl, q, rfl⟩
    have h2 := putI_R h h0 (Lib.compact l ++ List.replicate (l.length - (Lib.compact l).length) 0) (by simp; omega) (Lib.compact l).length hle q #[]
    rw [List.take_left' rfl] at h2
    have e : Go.Sort.grow (Go.Sort.putRow (Value.int .i64) (Go.Sort.ahead w q) g 0 (Lib.compact l ++ List.replicate (l.length - (Lib.compact l).length) 0).toArray) #[] = Go.Sort.putRow (Value.int .i64) (Go.Sort.ahead w q) g 0 (Lib.compact l ++ List.replicate (l.length - (Lib.compact l).length) 0).toArray := by
      unfold Go.Sort.grow; simp; rfl
    rw [e] at h2
    exact ⟨_, rfl, h2.1, h2.2⟩
theorem Hp.turn {w0 W W' : World} {cs : List Chunk} {α : Type} {d : Kd α} {e base : Nat} {v v' : Value} {l l' : List α} {F : Nat → Prop} (hp : Hp w0 (row d e base v l F :: cs) W) (hm : Mv (fun k => v.ownBlock = some k) W W') (hR : d.R e W' base F v' l') : ∃ F', Hp w0 (row d e base v' l' F' :: cs) W' :=
  have hrow := hp.at_ 0 _ rfl
  ⟨F, hp.upd 0 _ (row d e base v' l' F) rfl (hm.mono (fun k hk => hrow.1.1 k hk)) ⟨hR, fun k hk => Nat.lt_of_lt_of_le (hrow.2 k hk) hm.size⟩ (fun k hk => .inl hk)⟩
end Go.Proofs.Ytbkaedmabdgdhaa.Hd
