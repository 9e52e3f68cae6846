/- Layouts, plain: the reference's taLayout, the program's pairs; IsLayout. -/
import Derived.Test.YtjhbnkplpaffoaaDoorPLayA
import Derived.Test.YtjhbnkplpaffoaaDoorPTab3
import Derived.Test.YtjhbnkplpaffoaaDoorG0
import Derived.Test.YtjhbnkplpaffoaaDoorG3
import Derived.Test.YtjhbnkplpaffoaaDoorG3
import Derived.Test.YtjhbnkplpaffoaaDoorG3
namespace Go.Proofs.YtjhbnkplpaffoaaDoor.Pure
open Go Go.RowKit Go.Proofs.YtjhbnkplpaffoaaDoor.Hd Go.Proofs.YtjhbnkplpaffoaaDoorW.PrintWords Go.Proofs.YtjhbnkplpaffoaaDoorW.PrintLast
set_option linter.unusedVariables false
set_option linter.unusedSimpArgs false
theorem allC_succ (w n : Nat) (L : List Int) (i d : Nat) : allC w n L i (d + 1) = (goodC w n L i && allC w n L (i + 1) d) := by
  unfold allC
  rw [List.range'_succ, List.all_cons]
theorem taLayout_l1 (w h : Nat) (L0 L : List Int) (hw : 0 < w) (hwh : w * h ≤ 1000) (hL : L.length = w * h) : ∀ (d i : Nat), i + d = w * h →
    Ev (fun k => spec_taLayout.l1 k L L (L.length : Int) (i : Int) (w : Int) (h : Int) L0) (if allC w (w * h) L i d = true then (L, true) else ([], false)) := by
  intro d
  induction d with
  | zero =>
    intro i h1
    refine Ev.succ ?_
    simp only [spec_taLayout.l1]
    exact Ev.neg (by omega) (Ev.now _)
  | succ d ih =>
    intro i h1
    have hi : i < w * h := by omega
    refine Ev.succ ?_
    simp only [spec_taLayout.l1]
    rw [w64' (n := (i : Int) + 1) (m := ((i + 1 : Nat) : Int)) (by omega) (by omega) (by omega)]
    obtain ⟨b1, b2⟩ := other_bd (w := w) (h := h) (rd L (i : Int)) hi
    refine Ev.pos (by omega) (Ev.pos (by omega) (Ev.pos (by omega) (Ev.bd (taOther_ev w h i L0 (rd L (i : Int)) hw hwh hi) ?_)))
    rw [allC_succ]
    unfold goodC
    by_cases n0 : otherF w (w * h) i (rd L (i : Int)) < 0
    · rw [decide_eq_false (by omega)]
      exact Ev.pos n0 (Ev.now _)
    · rw [decide_eq_true (by omega), Bool.true_and]
      refine Ev.neg n0 (Ev.pos (by omega) (Ev.pos (by omega) (Ev.bs (back_eq _) ?_)))
      by_cases e : rd L (otherF w (w * h) i (rd L (i : Int))) = backF (rd L (i : Int))
      · rw [beq_iff_eq.2 e, Bool.true_and]
        exact Ev.pos e (ih (i + 1) (by omega))
      · rw [beq_eq_false_iff_ne.2 e]
        exact Ev.neg e (Ev.now _)
theorem taLayout_l0 (w h : Int) (L0 : List Int) (R : List ByteArray) (res : List Int × Bool) (hK : Ev (fun k => spec_taLayout.l1 k (R.flatMap bytesOf) (R.flatMap bytesOf) ((R.flatMap bytesOf).length : Int) 0 w h L0) res) (hR : R.length ≤ 61) (hr : ∀ r ∈ R, r.size ≤ 60) :
    ∀ (d i : Nat) (acc : List Int), i + d = R.length → acc ++ (R.drop i).flatMap bytesOf = R.flatMap bytesOf → acc.length ≤ 61 * i → Ev (fun k => spec_taLayout.l0 k acc R (R.length : Int) (i : Int) w h L0) res := by
  intro d
  induction d with
  | zero =>
    intro i acc h1 h2 h3
    refine Ev.succ ?_
    simp only [spec_taLayout.l0]
    rw [List.drop_of_length_le (by omega)] at h2
    simp only [List.flatMap_nil, List.append_nil] at h2
    rw [h2]
    exact Ev.neg (by omega) hK
  | succ d ih =>
    intro i acc h1 h2 h3
    have hi : i < R.length := by omega
    refine Ev.succ ?_
    simp only [spec_taLayout.l0]
    rw [w64' (n := (i : Int) + 1) (m := ((i + 1 : Nat) : Int)) (by omega) (by omega) (by omega), rdOf_at R i hi]
    have hs := hr R[i] (List.getElem_mem hi)
    refine Ev.pos (by omega) (Ev.pos (by omega) (Ev.pos (by omega) (Ev.pos (by omega) ?_)))
    refine ih (i + 1) _ (by omega) ?_ (by rw [List.length_append, bytesOf_length]; omega)
    rw [List.drop_eq_getElem_cons hi, List.flatMap_cons] at h2
    rw [List.append_assoc]
    exact h2
theorem lets_rows (s : ByteArray) : (rowsB s).flatMap bytesOf = lets s := by
  unfold lets rowsB flatB bytesOf
  rw [toList_mkB, List.flatMap_map, List.map_flatten, List.flatMap_def]
  simp only [toList_mkB]
def nesw : ByteArray := ⟨#[110, 101, 115, 119]⟩
/-- Is a text a layout of its own size? -/
def isLay (t : ByteArray) : Bool := formF (rowsB t) nesw && allC (w0 (rowsB t)) (w0 (rowsB t) * (rowsB t).length) (lets t) 0 (w0 (rowsB t) * (rowsB t).length)
def sameB (s t : ByteArray) : Bool := w0 (rowsB s) == w0 (rowsB t) && (rowsB s).length == (rowsB t).length
theorem letter_of {w n i : Nat} {c : Int} (h : 0 ≤ otherF w n i c) : c = 110 ∨ c = 101 ∨ c = 115 ∨ c = 119 := by
  unfold otherF at h
  split at h
  · omega
  · split at h
    · omega
    · split at h
      · omega
      · split at h <;> omega
theorem taRows_lay (t : ByteArray) (h : (taRowsF t).2 = true) (ha : allC (w0 (rowsB t)) (w0 (rowsB t) * (rowsB t).length) (lets t) 0 (w0 (rowsB t) * (rowsB t).length) = true) (hL : (lets t).length = w0 (rowsB t) * (rowsB t).length) : formF (rowsB t) nesw = true := by
  obtain ⟨h1, h2, h3, h4⟩ := taRowsF_true h
  unfold formF
  rw [h4, Bool.and_true, List.all_eq_true]
  intro r hr
  have q1 := h3 r hr
  unfold rowOk at q1
  rw [Bool.and_eq_true] at q1
  unfold cellOk
  rw [q1.1, q1.2, Bool.true_and, Bool.true_and, List.all_eq_true]
  intro b hb
  have hm : (b.toNat : Int) ∈ lets t := by
    rw [← lets_rows, List.mem_flatMap]
    exact ⟨r, hr, List.mem_map.2 ⟨b, hb, rfl⟩⟩
  obtain ⟨i, hi, e⟩ := List.getElem_of_mem hm
  unfold allC at ha
  rw [List.all_eq_true] at ha
  have hg := ha i (by rw [List.mem_range'_1]; omega)
  unfold goodC at hg
  rw [Bool.and_eq_true, decide_eq_true_eq] at hg
  have hl := letter_of hg.1
  rw [rd_at hi, e] at hl
  have : ∀ b : UInt8, ((b.toNat : Int) = 110 ∨ (b.toNat : Int) = 101 ∨ (b.toNat : Int) = 115 ∨ (b.toNat : Int) = 119) → nesw.data.toList.contains b = true := by
    intro b hb
    have h110 : b.toNat = 110 → b = 110 := fun q => UInt8.toNat_inj.1 q
    have h101 : b.toNat = 101 → b = 101 := fun q => UInt8.toNat_inj.1 q
    have h115 : b.toNat = 115 → b = 115 := fun q => UInt8.toNat_inj.1 q
    have h119 : b.toNat = 119 → b = 119 := fun q => UInt8.toNat_inj.1 q
    rcases hb with q | q | q | q
    · rw [h110 (by omega)]; decide
    · rw [h101 (by omega)]; decide
    · rw [h115 (by omega)]; decide
    · rw [h119 (by omega)]; decide
  exact this b hl
theorem taRows_of_form {t sg : ByteArray} (h : formF (rowsB t) sg = true) : (taRowsF t).2 = true := by
  obtain ⟨h1, h2, h3, h4, h5⟩ := form_size h
  unfold formF at h
  rw [Bool.and_eq_true] at h
  unfold taRowsF taRowsR
  rw [if_neg (by omega), if_pos (List.all_eq_true.2 (fun r hr => by unfold rowOk; rw [h2 r hr]; simp; omega))]
  exact h.2
theorem lets_size {t : ByteArray} (h : (taRowsF t).2 = true) : (lets t).length = w0 (rowsB t) * (rowsB t).length ∧ 0 < w0 (rowsB t) ∧ w0 (rowsB t) * (rowsB t).length ≤ 30 := by
  obtain ⟨h1, h2, h3, h4⟩ := taRowsF_true h
  obtain ⟨g1, g2, g3⟩ := w0_le t
  have hr : ∀ r ∈ rowsB t, r.size = w0 (rowsB t) ∧ 0 < r.size := by
    intro r hr
    have := h3 r hr
    unfold rowOk at this
    simp only [Bool.and_eq_true, beq_iff_eq, bne_iff_ne, ne_eq] at this
    omega
  have hf : fits (rowsB t) = true := h4
  unfold fits at hf
  simp only [Bool.and_eq_true, decide_eq_true_eq] at hf
  have hlen : ∀ (T : List ByteArray), (∀ r ∈ T, r.size = w0 (rowsB t)) → (T.flatMap bytesOf).length = w0 (rowsB t) * T.length := by
    intro T
    induction T with
    | nil => intro _; simp
    | cons a q ih =>
      intro hT
      rw [List.flatMap_cons, List.length_append, ih (fun r hr => hT r (List.mem_cons_of_mem _ hr)), List.length_cons, Nat.mul_add, bytesOf_length, hT a (by simp)]
      omega
  have hl := hlen _ (fun r h => (hr r h).1)
  rw [lets_rows] at hl
  have := hr (rowsB t)[0] (List.getElem_mem g3)
  refine ⟨hl, by omega, ?_⟩
  rw [Nat.mul_comm]
  exact hf.2
/-- What the reference reads a layout as. -/
def layF (w h : Nat) (t : ByteArray) : List Int × Bool := if isLay t = true ∧ (rowsB t).length = h ∧ w0 (rowsB t) = w then (lets t, true) else ([], false)
theorem taLayout_ev (w h : Nat) (L0 : List Int) (t : ByteArray) (ht : t.size ≤ 1048576) : Ev (fun k => spec_taLayout.f k (w : Int) (h : Int) L0 t) (layF w h t) := by
  unfold spec_taLayout.f
  obtain ⟨g1, g2, g3⟩ := w0_le t
  refine Ev.bd (taRows_ev t ht) ?_
  by_cases hr : (taRowsF t).2 = true
  · obtain ⟨h1, h2, h3, h4⟩ := taRowsF_true hr
    obtain ⟨l1, l2, l3⟩ := lets_size hr
    rw [h2]
    refine Ev.pos rfl ?_
    show Ev (fun n => if ((rowsB t).length : Int) = (h : Int) then _ else _) _
    by_cases hh : (rowsB t).length = h
    · refine Ev.pos (by omega) (Ev.pos (by show (0 : Int) < ((rowsB t).length : Int); omega) (Ev.succ ?_))
      simp only [spec_taLayout.j0]
      by_cases hw : w0 (rowsB t) = w
      · refine Ev.neg (by show ¬ (((w0 (rowsB t) : Nat) : Int) != (w : Int)) = true; rw [hw]; simp) ?_
        subst hh
        subst hw
        have hk1 := taLayout_l1 (w0 (rowsB t)) (rowsB t).length L0 (lets t) l2 (by omega) l1 (w0 (rowsB t) * (rowsB t).length) 0 (by omega)
        rw [← lets_rows] at hk1
        have hk0 := taLayout_l0 (w0 (rowsB t) : Int) ((rowsB t).length : Int) L0 (rowsB t) _ hk1 (by omega) (fun r hr' => by have := rows_le t r hr'; omega) (rowsB t).length 0 [] (by omega) (by simp) (by simp)
        rw [lets_rows] at hk0
        refine Ev.eq (f := fun k => spec_taLayout.l0 k [] (rowsB t) ((rowsB t).length : Int) 0 (w0 (rowsB t) : Int) ((rowsB t).length : Int) L0) rfl ?_
        have hr' : layF (w0 (rowsB t)) (rowsB t).length t = if allC (w0 (rowsB t)) (w0 (rowsB t) * (rowsB t).length) (lets t) 0 (w0 (rowsB t) * (rowsB t).length) = true then (lets t, true) else ([], false) := by
          unfold layF isLay
          by_cases ha : allC (w0 (rowsB t)) (w0 (rowsB t) * (rowsB t).length) (lets t) 0 (w0 (rowsB t) * (rowsB t).length) = true
          · rw [if_pos ha, if_pos ⟨by rw [ha, Bool.and_true]; exact taRows_lay t hr ha l1, rfl, rfl⟩]
          · rw [if_neg ha, if_neg (fun q => ha (Bool.and_eq_true _ _ ▸ q.1 : _ ∧ _).2)]
        rw [hr']
        exact hk0
      · refine Ev.pos (by show (((w0 (rowsB t) : Nat) : Int) != (w : Int)) = true; rw [bne_iff_ne]; omega) (Ev.ret ?_)
        unfold layF
        rw [if_neg (fun q => hw q.2.2)]
    · refine Ev.neg (by omega) (Ev.succ ?_)
      simp only [spec_taLayout.j0]
      refine Ev.pos trivial (Ev.ret ?_)
      unfold layF
      rw [if_neg (fun q => hh q.2.1)]
  · refine Ev.neg hr (Ev.succ ?_)
    simp only [spec_taLayout.j0]
    refine Ev.pos trivial (Ev.ret ?_)
    unfold layF isLay
    rw [if_neg ?_]
    intro q
    have := q.1
    rw [Bool.and_eq_true] at this
    exact hr (taRows_of_form this.1)
/-- The pairs of a layout from a cell on. -/
def pairC (w n : Nat) (L : List Int) (i : Nat) : List (List Int) := if (i : Int) < otherF w n i (rd L (i : Int)) then [[(i : Int), otherF w n i (rd L (i : Int))]] else []
def pairsC (w n : Nat) (L : List Int) (i d : Nat) : List (List Int) := (List.range' i d).flatMap (pairC w n L)
theorem pairsC_succ (w n : Nat) (L : List Int) (i d : Nat) : pairsC w n L i (d + 1) = pairC w n L i ++ pairsC w n L (i + 1) d := by
  unfold pairsC
  rw [List.range'_succ, List.flatMap_cons]
def outP (w n : Nat) (L : List Int) (i d : Nat) (acc : List (List Int)) : List (List Int) × Bool := if allC w n L i d = true then (acc ++ pairsC w n L i d, true) else ([], false)
theorem pairs_j1 (w n : Nat) (c : ByteArray) (L : List Int) (hc : ∀ j : Int, bt c j = rd L j) (hcl : c.size = n) (hn : 0 < n) (hn2 : n ≤ 1000) (acc : List (List Int)) (i : Nat) (b bk : Int) (hb : -1000 ≤ b ∧ b ≤ 3000) (hacc : acc.length ≤ 1000) (res : List (List Int) × Bool)
    (hno : ¬ (0 ≤ b ∧ b < n ∧ rd L b = bk) → res = ([], false))
    (hyes : (0 ≤ b ∧ b < n ∧ rd L b = bk) → Ev (fun k => impl_pairs.l0 k (w : Int) c (acc ++ if (i : Int) < b then [[(i : Int), b]] else []) (n : Int) (wrap64 ((i : Int) + 1))) res) :
    Ev (fun k => impl_pairs.j1 k (w : Int) c acc (i : Int) b bk (n : Int) (i : Int)) res := by
  refine Ev.succ ?_
  simp only [impl_pairs.j1]
  rw [w64' (n := (c.size : Int) - 1) (m := (n : Int) - 1) (by omega) (by omega) (by omega)]
  by_cases h0 : 0 ≤ b ∧ b < n
  · have e : impl_within.f b 0 ((n : Int) - 1) = some true := by
      unfold impl_within.f
      rw [if_pos h0.1, decide_eq_true (by omega)]
    refine Ev.bs e (Ev.pos rfl (Ev.pos h0.1 (Ev.pos (by omega) (Ev.succ ?_))))
    simp only [impl_pairs.j2]
    rw [hc]
    by_cases h1 : rd L b = bk
    · refine Ev.neg (by rw [h1]; simp) ?_
      have hh := hyes ⟨h0.1, h0.2, h1⟩
      by_cases h2 : (i : Int) < b
      · rw [if_pos h2] at hh
        exact Ev.pos h2 (Ev.pos (by omega) hh)
      · rw [if_neg h2, List.append_nil] at hh
        exact Ev.neg h2 hh
    · rw [hno (fun q => h1 q.2.2)]
      exact Ev.pos (by rw [bne_iff_ne]; exact h1) (Ev.now _)
  · have e : impl_within.f b 0 ((n : Int) - 1) = some false := by
      unfold impl_within.f
      by_cases h3 : 0 ≤ b
      · rw [if_pos h3, decide_eq_false (by omega)]
      · rw [if_neg h3]
    refine Ev.bs e (Ev.neg (by simp) (Ev.succ ?_))
    simp only [impl_pairs.j2]
    rw [hno (fun q => h0 ⟨q.1, q.2.1⟩)]
    exact Ev.pos trivial (Ev.now _)
theorem pairs_l0 (w h : Nat) (c : ByteArray) (L : List Int) (hc : ∀ j : Int, bt c j = rd L j) (hcl : c.size = w * h) (hw : 0 < w) (hn2 : w * h ≤ 30)
    (hL : ∀ i : Nat, i < w * h → rd L (i : Int) = 110 ∨ rd L (i : Int) = 101 ∨ rd L (i : Int) = 115 ∨ rd L (i : Int) = 119) : ∀ (d i : Nat) (acc : List (List Int)), i + d = w * h → acc.length ≤ i →
    Ev (fun k => impl_pairs.l0 k (w : Int) c acc ((w * h : Nat) : Int) (i : Int)) (outP w (w * h) L i d acc) := by
  intro d
  induction d with
  | zero =>
    intro i acc h1 h2
    refine Ev.succ ?_
    simp only [impl_pairs.l0]
    refine Ev.neg (by omega) (Ev.ret ?_)
    unfold outP allC pairsC
    simp
  | succ d ih =>
    intro i acc h1 h2
    have hi : i < w * h := by omega
    have hh0 : 0 < h := Nat.pos_of_ne_zero (fun e => by subst e; simp at hi)
    have hwle : w * 1 ≤ w * h := Nat.mul_le_mul_left _ hh0
    have hmod : i % w < w := Nat.mod_lt _ hw
    refine Ev.succ ?_
    simp only [impl_pairs.l0]
    refine Ev.pos (by omega) (Ev.pos (by omega) (Ev.pos (by omega) ?_))
    have e1 : wrap64 ((i : Int) + 1) = ((i + 1 : Nat) : Int) := w64' (by omega) (by omega) (by omega)
    have e2 : wrap64 ((i : Int) + (w : Int)) = (i : Int) + (w : Int) := w64' rfl (by omega) (by omega)
    have e3 : wrap64 ((i : Int) - (w : Int)) = (i : Int) - (w : Int) := w64' rfl (by omega) (by omega)
    have e4 : wrap64 ((i : Int) - 1) = (i : Int) - 1 := w64' rfl (by omega) (by omega)
    have key : ∀ (b bk : Int), (-1000 ≤ b ∧ b ≤ 3000) → bk = backF (rd L (i : Int)) → (0 ≤ b ∧ b < ((w * h : Nat) : Int) → otherF w (w * h) i (rd L (i : Int)) = b) → (¬ (0 ≤ b ∧ b < ((w * h : Nat) : Int)) → otherF w (w * h) i (rd L (i : Int)) = -1) →
        Ev (fun k => impl_pairs.j1 k (w : Int) c acc (i : Int) b bk ((w * h : Nat) : Int) (i : Int)) (outP w (w * h) L i (d + 1) acc) := by
      intro b bk hb hbk ho1 ho2
      refine pairs_j1 w (w * h) c L hc hcl (by omega) (by omega) acc i b bk hb (by omega) _ ?_ ?_
      · intro hno
        unfold outP
        rw [allC_succ]
        have : goodC w (w * h) L i = false := by
          unfold goodC
          by_cases q : 0 ≤ b ∧ b < ((w * h : Nat) : Int)
          · rw [ho1 q, ← hbk, beq_eq_false_iff_ne.2 (fun e => hno ⟨q.1, q.2, e⟩), Bool.and_false]
          · rw [ho2 q]; rfl
        rw [this]
        rfl
      · intro hyes
        have ho := ho1 ⟨hyes.1, hyes.2.1⟩
        rw [e1]
        have hh := ih (i + 1) (acc ++ if (i : Int) < b then [[(i : Int), b]] else []) (by omega) (by rw [List.length_append]; split <;> simp <;> omega)
        unfold outP at hh ⊢
        rw [allC_succ, pairsC_succ]
        have hg : goodC w (w * h) L i = true := by
          unfold goodC
          rw [ho, ← hbk, beq_iff_eq.2 hyes.2.2, decide_eq_true hyes.1]; rfl
        have hp : pairC w (w * h) L i = if (i : Int) < b then [[(i : Int), b]] else [] := by
          unfold pairC
          rw [ho]
        rw [hg, Bool.true_and, hp, ← List.append_assoc]
        exact hh
    have noOther : ∀ (res : List (List Int) × Bool), otherF w (w * h) i (rd L (i : Int)) = -1 → outP w (w * h) L i (d + 1) acc = ([], false) := by
      intro _ ho
      unfold outP
      rw [allC_succ]
      have : goodC w (w * h) L i = false := by unfold goodC; rw [ho]; rfl
      rw [this]
      rfl
    rw [hc]
    rcases hL i hi with hl | hl | hl | hl
    · rw [hl]
      refine Ev.neg (by decide) (Ev.neg (by decide) (Ev.pos rfl ?_))
      rw [e3]
      refine key _ _ (by omega) (by rw [hl]; rfl) (fun q => ?_) (fun q => ?_)
      · rw [hl]; unfold otherF; rw [if_pos ⟨rfl, by omega⟩]
      · rw [hl]; unfold otherF; rw [if_neg (by omega), if_neg (by omega), if_neg (by omega), if_neg (by omega)]
    · rw [hl]
      refine Ev.pos rfl (Ev.neg (by omega) ?_)
      rw [e1, tmod_nat]
      by_cases q : i % w < w - 1
      · have hlt := east_lt hi q
        have hne : (i + 1) % w ≠ 0 := by
          have h3 : (i + 1) % w = (i % w + 1) % w := by rw [Nat.add_mod]; simp
          rw [h3, Nat.mod_eq_of_lt (by omega)]
          omega
        refine Ev.neg (by omega) ?_
        refine key _ _ (by omega) (by rw [hl]; rfl) (fun q2 => ?_) (fun q2 => absurd (by omega) q2)
        rw [hl]; unfold otherF; rw [if_neg (by omega), if_neg (by omega), if_pos ⟨rfl, q⟩]; omega
      · have heq : (i + 1) % w = 0 := by
          have h3 : i + 1 = w * (i / w + 1) := by
            have := Nat.div_add_mod i w
            rw [Nat.mul_add, Nat.mul_one]
            omega
          rw [h3, Nat.mul_mod_right]
        rw [noOther ([], false) (by rw [hl]; unfold otherF; rw [if_neg (by omega), if_neg (by omega), if_neg (by omega), if_neg (by omega)])]
        exact Ev.pos (by omega) (Ev.now _)
    · rw [hl]
      refine Ev.neg (by decide) (Ev.pos rfl ?_)
      rw [e2]
      refine key _ _ (by omega) (by rw [hl]; rfl) (fun q => ?_) (fun q => ?_)
      · rw [hl]; unfold otherF; rw [if_neg (by omega), if_pos ⟨rfl, by omega⟩]
      · rw [hl]; unfold otherF; rw [if_neg (by omega), if_neg (by omega), if_neg (by omega), if_neg (by omega)]
    · rw [hl]
      refine Ev.neg (by decide) (Ev.neg (by decide) (Ev.neg (by decide) (Ev.neg (by omega) ?_)))
      rw [e4, tmod_nat]
      by_cases q : 0 < i % w
      · have : i % w ≤ i := Nat.mod_le _ _
        refine Ev.neg (by omega) ?_
        refine key _ _ (by omega) (by rw [hl]; rfl) (fun q2 => ?_) (fun q2 => absurd (by omega) q2)
        rw [hl]; unfold otherF; rw [if_neg (by omega), if_neg (by omega), if_neg (by omega), if_pos ⟨rfl, q⟩]
      · rw [noOther ([], false) (by rw [hl]; unfold otherF; rw [if_neg (by omega), if_neg (by omega), if_neg (by omega), if_neg (by omega)])]
        exact Ev.pos (by omega) (Ev.now _)
def pairsF (t : ByteArray) : List (List Int) × Bool := if isLay t = true then (pairsC (w0 (rowsB t)) (w0 (rowsB t) * (rowsB t).length) (lets t) 0 (w0 (rowsB t) * (rowsB t).length), true) else ([], false)
theorem pairs_ev (t : ByteArray) (ht : t.size ≤ 1048576) : Ev (fun k => impl_pairs.f k t) (pairsF t) := by
  unfold impl_pairs.f
  refine Ev.bd (isForm_ev t nesw ht (by decide) (by decide)) ?_
  cases hf : formF (rowsB t) nesw with
  | false =>
    refine Ev.neg (by simp) (Ev.ret ?_)
    unfold pairsF isLay
    rw [hf]
    rfl
  | true =>
    obtain ⟨l1, l2, l3⟩ := lets_size (taRows_of_form hf)
    refine Ev.pos rfl (Ev.bs (size_ev t ht (w0_le t).2.2) (Ev.bs (flat_eq t ht) ?_))
    have hcl : (flatB t).size = w0 (rowsB t) * (rowsB t).length := by rw [← lets_len]; exact l1
    have hL : ∀ i : Nat, i < w0 (rowsB t) * (rowsB t).length → rd (lets t) (i : Int) = 110 ∨ rd (lets t) (i : Int) = 101 ∨ rd (lets t) (i : Int) = 115 ∨ rd (lets t) (i : Int) = 119 := by
      intro i hi
      obtain ⟨b, hb, e⟩ := lets_in hf i (by omega)
      have hb' : b ∈ [(110 : UInt8), 101, 115, 119] := hb
      simp only [List.mem_cons, List.not_mem_nil, or_false] at hb'
      rw [e]
      rcases hb' with rfl | rfl | rfl | rfl
      · exact Or.inl rfl
      · exact Or.inr (Or.inl rfl)
      · exact Or.inr (Or.inr (Or.inl rfl))
      · exact Or.inr (Or.inr (Or.inr rfl))
    have hk := pairs_l0 (w0 (rowsB t)) (rowsB t).length (flatB t) (lets t) (bt_lets t) hcl l2 l3 hL (w0 (rowsB t) * (rowsB t).length) 0 [] (by omega) (by simp)
    have he : outP (w0 (rowsB t)) (w0 (rowsB t) * (rowsB t).length) (lets t) 0 (w0 (rowsB t) * (rowsB t).length) [] = pairsF t := by
      unfold outP pairsF isLay
      rw [hf, Bool.true_and, List.nil_append]
    rw [he] at hk
    rw [hcl]
    exact hk
theorem isLayout_ev (s t : ByteArray) (hs : s.size ≤ 1048576) (ht : t.size ≤ 1048576) : Ev (fun k => impl_isLayout.f k s t) (isLay t && sameB s t) := by
  unfold impl_isLayout.f
  refine Ev.bd (pairs_ev t ht) (Ev.bs (size_ev s hs (w0_le s).2.2) (Ev.bs (size_ev t ht (w0_le t).2.2) ?_))
  unfold pairsF
  cases hl : isLay t with
  | false => exact Ev.neg (by simp) (Ev.now _)
  | true =>
    refine Ev.pos rfl ?_
    rw [Bool.true_and]
    unfold sameB
    by_cases hw : w0 (rowsB s) = w0 (rowsB t)
    · refine Ev.pos (by show ((w0 (rowsB s) : Nat) : Int) = _; rw [hw]) (Ev.ret ?_)
      rw [hw, beq_self_eq_true, Bool.true_and]
      show (((rowsB s).length : Int) == ((rowsB t).length : Int)) = _
      by_cases hh : (rowsB s).length = (rowsB t).length
      · rw [hh]; simp
      · rw [beq_eq_false_iff_ne.2 hh, beq_eq_false_iff_ne]; omega
    · refine Ev.neg (by show ¬ ((w0 (rowsB s) : Nat) : Int) = ((w0 (rowsB t) : Nat) : Int); omega) (Ev.ret ?_)
      rw [beq_eq_false_iff_ne.2 hw, Bool.false_and]
def isLayF (s t : ByteArray) : Bool × Bool := if isTab s = true then (isLay t && sameB s t, true) else (false, false)
theorem implIsLayout_ev (s t : ByteArray) (hs : s.size ≤ 1048576) (ht : t.size ≤ 1048576) : Ev (fun k => impl_IsLayout.f k s t) (isLayF s t) := by
  unfold impl_IsLayout.f isLayF
  refine Ev.bd (implIsTable_ev s hs) ?_
  cases h : isTab s with
  | true => exact Ev.pos rfl (Ev.bd (isLayout_ev s t hs ht) (Ev.now _))
  | false => exact Ev.neg (by simp) (Ev.now _)
theorem lay_same (s t : ByteArray) : (layF (w0 (rowsB s)) (rowsB s).length t).2 = (isLay t && sameB s t) := by
  unfold layF sameB
  by_cases h : isLay t = true ∧ (rowsB t).length = (rowsB s).length ∧ w0 (rowsB t) = w0 (rowsB s)
  · rw [if_pos h, h.1, h.2.1, h.2.2]; simp
  · rw [if_neg h]
    cases hl : isLay t with
    | false => rfl
    | true =>
      rw [Bool.true_and]
      symm
      show _ = false
      rw [Bool.and_eq_false_iff, beq_eq_false_iff_ne, beq_eq_false_iff_ne]
      by_cases hw : w0 (rowsB s) = w0 (rowsB t)
      · exact Or.inr (fun q => h ⟨hl, q.symm, hw.symm⟩)
      · exact Or.inl hw
theorem specIsLayout_ev (s t : ByteArray) (hs : s.size ≤ 1048576) (ht : t.size ≤ 1048576) : Ev (fun k => spec_IsLayout.f k s t) (isLayF s t) := by
  unfold spec_IsLayout.f isLayF
  refine Ev.bd (taRead_ev s hs) ?_
  cases h : isTab s with
  | true =>
    rw [isTab_tab h]
    refine Ev.pos rfl (Ev.bd (taLayout_ev (w0 (rowsB s)) (rowsB s).length _ t ht) (Ev.ret ?_))
    rw [lay_same]
    rfl
  | false => rw [isTab_no h]; exact Ev.neg (by simp) (Ev.now _)
end Go.Proofs.YtjhbnkplpaffoaaDoor.Pure
