/- Dealing: a tile taken out of a row that holds it once. -/
import Derived.Test.YtdcjapdkbocgmaaPDealA
namespace Go.Proofs.Ytdcjapdkbocgmaa.Pure
open Go.RowKit Go.Proofs.Ytdcjapdkbocgmaa.Hd Go.Proofs.YtdcjapdkbocgmaaW.PrintWords Go.Proofs.YtdcjapdkbocgmaaW.PrintLast
set_option linter.unusedVariables false
set_option linter.unusedSimpArgs false
def otherT (x y : Int) (t : S_Tile) : Bool := !(t.f0 == x) || !(t.f1 == y)
theorem without_l0 (l : List S_Tile) (x y : Int) (hl : l.length ≤ 1000000) : ∀ (d i : Nat), i + d = l.length →
    Ev (fun k => spec_plWithout.l0 k ((l.take i).filter (otherT x y)) l (l.length : Int) (i : Int) x y) (l.filter (otherT x y)) := by
  intro d
  induction d with
  | zero =>
    intro i hi
    refine Ev.succ ?_
    simp only [spec_plWithout.l0]
    exact Ev.neg (by omega) (Ev.ret (by rw [List.take_of_length_le (by omega)]))
  | succ d ih =>
    intro i hi
    have hlt : i < l.length := by omega
    have e : rd_Tile l (i : Int) = l[i] := by unfold rd_Tile; rw [Int.toNat_natCast]; simp [hlt]
    have IH := ih (i + 1) (by omega)
    have hfl : ((l.take i).filter (otherT x y)).length ≤ i := Nat.le_trans (List.length_filter_le _ _) (by rw [List.length_take]; omega)
    rw [List.take_succ_eq_append_getElem hlt, List.filter_append] at IH
    refine Ev.succ ?_
    simp only [spec_plWithout.l0]
    refine Ev.pos (by omega) (Ev.pos (by omega) (Ev.pos (by omega) ?_))
    rw [w64' (n := (i : Int) + 1) (m := ((i + 1 : Nat) : Int)) (by omega) (by omega) (by omega), e]
    by_cases h : otherT x y l[i] = true
    · refine Ev.pos h (Ev.pos (by omega) ?_)
      rw [List.filter_cons_of_pos h, List.filter_nil] at IH
      exact IH
    · refine Ev.neg h ?_
      rw [List.filter_cons_of_neg h, List.filter_nil, List.append_nil] at IH
      exact IH
theorem filt_era (f : S_Tile → Bool) : ∀ (l : List S_Tile) (i : Nat) (h : i < l.length), f l[i] = false → (∀ j (hj : j < l.length), j ≠ i → f l[j] = true) → l.filter f = l.eraseIdx i := by
  intro l
  induction l with
  | nil => intro i h; exact absurd h (by simp)
  | cons x xs ih =>
    intro i h hf ht
    cases i with
    | zero =>
      have hx : ¬ f x = true := by have q : f x = false := hf; rw [q]; simp
      rw [List.filter_cons_of_neg hx, List.eraseIdx_zero, List.tail_cons, List.filter_eq_self]
      intro a ha
      obtain ⟨j, hj, rfl⟩ := List.getElem_of_mem ha
      exact ht (j + 1) (by simp; omega) (by omega)
    | succ i =>
      have hx : f x = true := ht 0 (by simp) (by omega)
      rw [List.filter_cons_of_pos hx, List.eraseIdx_cons_succ]
      congr 1
      exact ih i (by simp at h; omega) hf (fun j hj hne => ht (j + 1) (by simp; omega) (by omega))
theorem without_ev (l : List S_Tile) (hn : l.Nodup) (i : Nat) (h : i < l.length) (hl : l.length ≤ 1000000) : Ev (fun k => spec_plWithout.f k l (rd_Tile l (i : Int)).f0 (rd_Tile l (i : Int)).f1) (l.eraseIdx i) := by
  have e : rd_Tile l (i : Int) = l[i] := by unfold rd_Tile; rw [Int.toNat_natCast]; simp [h]
  rw [e, ← filt_era (otherT l[i].f0 l[i].f1) l i h (by unfold otherT; simp) (fun j hj hne => by
    have hne2 : l[j] ≠ l[i] := by
      have hpw := List.pairwise_iff_getElem.1 hn
      rcases Nat.lt_or_gt_of_ne hne with q | q
      · exact hpw j i hj h q
      · exact fun e => hpw i j h hj q e.symm
    unfold otherT
    by_cases h0 : l[j].f0 = l[i].f0
    · have h1 : l[j].f1 ≠ l[i].f1 := fun h1 => hne2 (by
        generalize l[j] = a at h0 h1; generalize l[i] = b at h0 h1
        obtain ⟨a0, a1⟩ := a; obtain ⟨b0, b1⟩ := b
        dsimp only at h0 h1; rw [h0, h1])
      simp [h1]
    · simp [h0])]
  unfold spec_plWithout.f
  exact without_l0 l _ _ hl l.length 0 (by omega)
end Go.Proofs.Ytdcjapdkbocgmaa.Pure
