/- The text of a game: the steps by which the program makes it (plain). -/
import Derived.Test.YtjaojemmbeddfaaGreatPFate
import Derived.Test.YtjaojemmbeddfaaGreatPKey
import Derived.Test.YtjaojemmbeddfaaGreatPSet0
import Derived.Test.YtjaojemmbeddfaaGreatMStrJ
import Derived.Test.YtjaojemmbeddfaaGreatG4
import Derived.Test.YtjaojemmbeddfaaGreatG0
namespace Go.Proofs.YtjaojemmbeddfaaGreat.Pure
open Go Go.RowKit Go.Proofs.YtjaojemmbeddfaaGreat.Hd Go.Proofs.YtjaojemmbeddfaaGreatW.PrintWords Go.Proofs.YtjaojemmbeddfaaGreatW.PrintLast
set_option linter.unusedVariables false
set_option linter.unusedSimpArgs false
def mkU (l : List UInt8) : ByteArray := ⟨l.toArray⟩
theorem mkU_list (l : List UInt8) : (mkU l).data.toList = l := by simp [mkU]
theorem numU {n : Int} (h0 : 0 ≤ n) (h9 : n ≤ 9) : UInt8.ofNat ((wrap64 (48 + n)) % 256).toNat = dgU n := by
  have e : wrap64 (48 + n) = 48 + n := w64' rfl (by omega) (by omega)
  rw [e]
  unfold dgU
  congr 1
  omega
theorem strU (l : List Int) : strOfNums l = mkU (l.map fun n => UInt8.ofNat n.toNat) := by
  first | rfl | (unfold strOfNums mkU; simp)
theorem digitsU {t : S_Tile} (h : goodT t = true) : impl_Tile_digits.f t.f0 t.f1 = some (mkU (tlU t)) := by
  obtain ⟨⟨a, b⟩, c, d⟩ := good_bdU h
  unfold impl_Tile_digits.f
  rw [strU]
  simp only [List.map_cons, List.map_nil, numU a b, numU c d]
  rfl
theorem handText_l0 (l : List S_Tile) (hl : l.length ≤ 1000) (hg : ∀ t ∈ l, goodT t = true) (hj : strings_Join.f (l.map fun t => mkU (tlU t)) (⟨#[44]⟩ : ByteArray) = some (mkU (Lib.join (l.map tlU) [44]))) : ∀ (d i : Nat), i + d = l.length → Ev (fun k => impl_handText.l0 k ((l.take i).map fun t => mkU (tlU t)) l (l.length : Int) (i : Int)) (mkU (Lib.join (l.map tlU) [44])) := by
  intro d
  induction d with
  | zero =>
    intro i hi
    refine Ev.succ ?_
    simp only [impl_handText.l0]
    rw [List.take_of_length_le (by omega)]
    exact Ev.neg (by omega) (Ev.bs hj (Ev.ret rfl))
  | succ d ih =>
    intro i hi
    have hlt : i < l.length := by omega
    refine Ev.succ ?_
    simp only [impl_handText.l0]
    rw [rdT_at hlt, w64' (n := (i : Int) + 1) (m := ((i + 1 : Nat) : Int)) (by omega) (by omega) (by omega)]
    have h2 := ih (i + 1) (by omega)
    rw [List.take_succ_eq_append_getElem hlt, List.map_append] at h2
    exact Ev.pos (by omega) (Ev.pos (by omega) (Ev.pos (by omega) (Ev.bs (digitsU (hg _ (List.getElem_mem hlt))) (Ev.pos (by simp; omega) h2))))
theorem joinU_len : ∀ (l : List S_Tile), (Lib.joinTail [44] (l.map tlU)).length = 3 * l.length
  | [] => rfl
  | a :: l => by
    have h := joinU_len l
    simp only [Lib.joinTail, List.map_cons, List.flatten_cons, tlU, List.cons_append, List.nil_append, List.length_cons] at h ⊢
    omega
theorem handText_ev (l : List S_Tile) (hl : l.length ≤ 1000) (hg : ∀ t ∈ l, goodT t = true) : Ev (fun k => impl_handText.f k l) (mkU (handU l)) := by
  unfold impl_handText.f
  by_cases h : l.length = 0
  · refine Ev.pos (by omega) (Ev.ret ?_)
    unfold handU
    rw [if_pos h]; rfl
  · refine Ev.neg (by omega) ?_
    unfold handU
    rw [if_neg h]
    refine handText_l0 l hl hg ?_ l.length 0 (by omega)
    have em : (l.map fun t => mkU (tlU t)).map (·.data.toList) = l.map tlU := by
      rw [List.map_map]
      exact List.map_congr_left fun t _ => mkU_list _
    have hj : (Lib.join (l.map tlU) [44]).length ≤ 3 * l.length := by
      cases l with
      | nil => simp at h
      | cons a l =>
        rw [List.map_cons, Lib.join_cons, List.length_append, joinU_len]
        simp [tlU]; omega
    have e44 : ((⟨#[44]⟩ : ByteArray).data.toList) = [44] := rfl
    unfold strings_Join.f
    rw [em, e44, if_pos ⟨by simp; omega, by omega⟩]
    rfl
theorem chainText_l0 (l : List Int) (hl : l.length ≤ 1000) (hg : ∀ x ∈ l, 0 ≤ x ∧ x ≤ 9) : ∀ (d i : Nat), i + d = l.length → Ev (fun k => impl_chainText.l0 k ((l.take i).map fun x => (wrap64 (48 + x)) % 256) l (l.length : Int) (i : Int)) (mkU (rowU l)) := by
  intro d
  induction d with
  | zero =>
    intro i hi
    refine Ev.succ ?_
    simp only [impl_chainText.l0]
    rw [List.take_of_length_le (by omega)]
    refine Ev.neg (by omega) (Ev.ret ?_)
    rw [strU, List.map_map]
    unfold rowU
    congr 1
    exact List.map_congr_left fun x hx => numU (hg x hx).1 (hg x hx).2
  | succ d ih =>
    intro i hi
    have hlt : i < l.length := by omega
    have hb := hg _ (List.getElem_mem hlt)
    refine Ev.succ ?_
    simp only [impl_chainText.l0]
    rw [rd_at hlt, w64' (n := (i : Int) + 1) (m := ((i + 1 : Nat) : Int)) (by omega) (by omega) (by omega)]
    have h2 := ih (i + 1) (by omega)
    rw [List.take_succ_eq_append_getElem hlt, List.map_append] at h2
    exact Ev.pos (by omega) (Ev.pos (by omega) (Ev.pos (by omega) (Ev.neg (by omega) (Ev.pos (by simp; omega) h2))))
theorem chainText_ev (l : List Int) (hl : l.length ≤ 1000) (hg : ∀ x ∈ l, 0 ≤ x ∧ x ≤ 9) : Ev (fun k => impl_chainText.f k l) (mkU (rowU l)) := by
  unfold impl_chainText.f
  exact chainText_l0 l hl hg l.length 0 (by omega)
end Go.Proofs.YtjaojemmbeddfaaGreat.Pure
namespace Go.Proofs.YtjaojemmbeddfaaGreat.Pure
open Go Go.RowKit Go.Proofs.YtjaojemmbeddfaaGreat.Hd Go.Proofs.YtjaojemmbeddfaaGreatW.PrintWords Go.Proofs.YtjaojemmbeddfaaGreatW.PrintLast
set_option linter.unusedVariables false
set_option linter.unusedSimpArgs false
def RowOk (r : List Int) : Prop := ∀ x ∈ r, 0 ≤ x ∧ x ≤ 9
instance (r : List Int) : Decidable (RowOk r) := by unfold RowOk; infer_instance
def keyB (f s : List S_Tile) (r : List Int) (t p : Int) : Prop := gmB f s r t p ∧ RowOk r
instance (f s : List S_Tile) (r : List Int) (t p : Int) : Decidable (keyB f s r t p) := by unfold keyB; infer_instance
/-- The game's text. -/
def gkey (f s : List S_Tile) (r : List Int) (t p : Int) : List UInt8 := keyU (sortT f) (sortT s) (endsL r) t p
theorem sortT_goodU (l : List S_Tile) : ∀ t ∈ sortT l, goodT t = true := fun t ht => ((sortT_mem l t).1 ht).2
theorem handText_sort (l : List S_Tile) : Ev (fun k => impl_handText.f k (sortT l)) (mkU (handU (sortT l))) :=
  handText_ev _ (Nat.le_trans (sortT_len l) (by omega)) (sortT_goodU l)
theorem ends_rowok {r : List Int} (h : RowOk r) : RowOk (endsL r) := by
  unfold endsL
  split
  · exact fun x hx => absurd hx List.not_mem_nil
  · rename_i hr
    have hA : endA r ∈ r := by
      unfold endA
      have := rd_at (l := r) (i := 0) (by omega)
      rw [show ((0 : Nat) : Int) = 0 from rfl] at this
      rw [this]; exact List.getElem_mem _
    have hB : endB r ∈ r := by
      unfold endB
      have := rd_at (l := r) (i := r.length - 1) (by omega)
      rw [show ((r.length - 1 : Nat) : Int) = (r.length : Int) - 1 by omega] at this
      rw [this]; exact List.getElem_mem _
    intro x hx
    simp only [List.mem_cons, List.not_mem_nil, or_false] at hx
    rcases hx with rfl | rfl
    · exact h _ hA
    · exact h _ hB
theorem chain_nil {r : List Int} (h : r.length = 0) : Ev (fun k => impl_chainText.f k r) (mkU (rowU (endsL r))) := by
  obtain rfl := List.eq_nil_of_length_eq_zero h
  exact chainText_ev [] (by simp) (fun x hx => absurd hx List.not_mem_nil)
theorem chain_ends {r : List Int} (h : r.length ≠ 0) (hr : RowOk r) : Ev (fun k => impl_chainText.f k [endA r, endB r]) (mkU (rowU (endsL r))) := by
  have e := ends_rowok hr
  unfold endsL at e ⊢
  rw [if_neg h] at e ⊢
  exact chainText_ev _ (by simp) e
theorem chain_tp {t p : Int} (ht : 0 ≤ t ∧ t ≤ 1) (hp : 0 ≤ p ∧ p ≤ 2) : Ev (fun k => impl_chainText.f k [t, p]) (mkU (rowU [t, p])) :=
  chainText_ev _ (by simp) (by
    intro x hx
    simp only [List.mem_cons, List.not_mem_nil, or_false] at hx
    rcases hx with rfl | rfl <;> omega)
theorem handU_len (l : List S_Tile) : (handU l).length ≤ 3 * l.length + 1 := by
  unfold handU
  split
  · simp
  · rename_i q
    cases l with
    | nil => simp at q
    | cons a l =>
      rw [List.map_cons, Lib.join_cons, List.length_append, joinU_len]
      simp [tlU]; omega
theorem endsL_len (r : List Int) : (endsL r).length ≤ 2 := by unfold endsL; split <;> simp
theorem join_key (f s : List S_Tile) (r : List Int) (t p : Int) : strings_Join.f [(mkU (handU (sortT f))), (mkU (handU (sortT s))), (mkU (rowU (endsL r))), (mkU (rowU [t, p]))] (⟨#[58]⟩ : ByteArray) = some (mkU (gkey f s r t p)) := by
  have e58 : ((⟨#[58]⟩ : ByteArray).data.toList) = [58] := rfl
  unfold strings_Join.f
  simp only [List.map_cons, List.map_nil, mkU_list, e58]
  rw [if_pos]
  · rfl
  · refine ⟨by simp, ?_⟩
    have h1 := handU_len (sortT f)
    have h2 := handU_len (sortT s)
    have h3 := sortT_len f
    have h4 := sortT_len s
    have h5 := endsL_len r
    simp [Lib.join_cons, Lib.joinTail, rowU]
    omega
/-- What a text tells. -/
theorem gkey_same {g h : Gm} (hg : GmOk g) (hh : GmOk h) (rg : RowOk g.r) (rh : RowOk h.r) (e : mkU (gkey g.f g.s g.r g.t g.p) = mkU (gkey h.f h.s h.r h.t h.p)) : sameG g h := by
  have e2 := congrArg (fun b : ByteArray => b.data.toList) e
  simp only [mkU_list] at e2
  have ht := hg.t
  have hp := hg.p
  have ht' := hh.t
  have hp' := hh.p
  exact keyU_inj (sortT_goodU _) (sortT_goodU _) (sortT_goodU _) (sortT_goodU _) (ends_rowok rg) (ends_rowok rh) (by omega) (by omega) (by omega) (by omega) e2
theorem other_ok {t : S_Tile} {n : Int} (hg : goodT t = true) (h : hasT t n = true) : 0 ≤ otherN t n ∧ otherN t n ≤ 9 := by
  obtain ⟨⟨a, b⟩, c, d⟩ := good_bdU hg
  unfold hasT at h
  unfold otherN
  simp only [Bool.or_eq_true, beq_iff_eq, decide_eq_true_eq] at h
  omega
theorem make_rowok {g : Gm} (hr : RowOk g.r) {x : S_plLay} (hx : x ∈ g.moves) : RowOk (g.make x).r := by
  obtain ⟨_, h⟩ := moves_mem hx
  unfold Gm.make
  split
  · exact hr
  · rename_i h2
    rcases h with rfl | ⟨_, _, hg, h3, h4⟩
    · exact absurd rfl h2
    · show RowOk (rowP g.r x)
      obtain ⟨⟨a, b⟩, c, d⟩ := good_bdU hg
      unfold rowP
      split
      · intro y hy
        simp only [List.mem_cons, List.not_mem_nil, or_false] at hy
        rcases hy with rfl | rfl <;> omega
      · rename_i hne
        have h5 := h4 hne
        split
        · rename_i h6
          rw [if_pos h6] at h5
          intro y hy
          rw [List.mem_append, List.mem_singleton] at hy
          rcases hy with rfl | hy
          · exact other_ok hg h5
          · exact hr y hy
        · rename_i h6
          rw [if_neg h6] at h5
          intro y hy
          rw [List.mem_append, List.mem_singleton] at hy
          rcases hy with hy | rfl
          · exact hr y hy
          · exact other_ok hg h5
end Go.Proofs.YtjaojemmbeddfaaGreat.Pure
