/- HandsOfTable: what the reference makes of a layout: its tiles, their text, whether it has been seen; plain. -/
import Derived.Test.YtokkiiepddhkiaaGreatDoorPHtA
import Derived.Test.YtokkiiepddhkiaaGreatDoorG1
import Derived.Test.YtokkiiepddhkiaaGreatDoorG0
import Derived.Test.YtokkiiepddhkiaaGreatDoorG2
import Derived.Test.YtokkiiepddhkiaaGreatDoorPMirP
import Derived.Test.YtokkiiepddhkiaaGreatDoorPApA
import Derived.Test.YtokkiiepddhkiaaGreatDoorPLayS
import Derived.Test.YtokkiiepddhkiaaGreatDoorPCells
namespace Go.Proofs.YtokkiiepddhkiaaGreatDoor.Pure
open Go Go.RowKit Go.Proofs.YtokkiiepddhkiaaGreatDoor.Hd Go.Proofs.YtokkiiepddhkiaaGreatDoorW.PrintWords Go.Proofs.YtokkiiepddhkiaaGreatDoorW.PrintLast
set_option linter.unusedVariables false
set_option linter.unusedSimpArgs false
/-- The other cell that a letter tells, or -1. -/
def otherF (w n i : Nat) (c : Int) : Int := if c = 110 ∧ w ≤ i then (i : Int) - w else if c = 115 ∧ i + w < n then (i : Int) + w else if c = 101 ∧ i % w < w - 1 then (i : Int) + 1 else if c = 119 ∧ 0 < i % w then (i : Int) - 1 else -1
theorem other_bd {w h i : Nat} (c : Int) (hi : i < w * h) : -1 ≤ otherF w (w * h) i c ∧ otherF w (w * h) i c < ((w * h : Nat) : Int) := by
  unfold otherF
  split
  · omega
  · split
    · omega
    · split
      · rename_i hc
        have := east_lt hi hc.2
        omega
      · split
        · rename_i hc
          have : i % w ≤ i := Nat.mod_le _ _
          omega
        · omega
theorem taOther_ev (w h i : Nat) (L : List Int) (c : Int) (hw : 0 < w) (hwh : w * h ≤ 1000) (hi : i < w * h) : Ev (fun k => spec_taOther.f k (w : Int) (h : Int) L (i : Int) c) (otherF w (w * h) i c) := by
  have hh : 0 < h := Nat.pos_of_ne_zero (fun e => by subst e; simp at hi)
  have hw1 : w * 1 ≤ w * h := Nat.mul_le_mul_left _ hh
  have ew : wrap64 ((w : Int) * (h : Int)) = ((w * h : Nat) : Int) := mul_w (by omega)
  have e1 : wrap64 ((i : Int) + (w : Int)) = (i : Int) + (w : Int) := w64' rfl (by omega) (by omega)
  have e2 : wrap64 ((i : Int) - (w : Int)) = (i : Int) - (w : Int) := w64' rfl (by omega) (by omega)
  have e3 : wrap64 ((w : Int) - 1) = (w : Int) - 1 := w64' rfl (by omega) (by omega)
  have e4 : wrap64 ((i : Int) + 1) = (i : Int) + 1 := w64' rfl (by omega) (by omega)
  have e5 : wrap64 ((i : Int) - 1) = (i : Int) - 1 := w64' rfl (by omega) (by omega)
  have hm : i % w < w := Nat.mod_lt _ hw
  unfold spec_taOther.f
  by_cases n1 : c = 110
  · subst n1
    refine Ev.pos rfl (Ev.succ ?_)
    simp only [spec_taOther.j0]
    by_cases q : w ≤ i
    · refine Ev.pos (decide_eq_true (by omega)) (Ev.ret ?_)
      unfold otherF
      rw [if_pos ⟨rfl, q⟩, e2]
    · refine Ev.neg (by simp; omega) (Ev.neg (by decide) (Ev.succ ?_))
      simp only [spec_taOther.j1]
      refine Ev.neg (by simp) (Ev.neg (by decide) (Ev.succ ?_))
      simp only [spec_taOther.j2]
      refine Ev.neg (by simp) (Ev.neg (by decide) (Ev.ret ?_))
      unfold otherF
      rw [if_neg (by omega), if_neg (by omega), if_neg (by omega), if_neg (by omega)]
  refine Ev.neg n1 (Ev.succ ?_)
  simp only [spec_taOther.j0]
  refine Ev.neg (by simp) ?_
  by_cases n2 : c = 115
  · subst n2
    refine Ev.pos rfl (Ev.succ ?_)
    simp only [spec_taOther.j1]
    rw [e1, ew]
    by_cases q : i + w < w * h
    · refine Ev.pos (decide_eq_true (by omega)) (Ev.ret ?_)
      unfold otherF
      rw [if_neg (by omega), if_pos ⟨rfl, q⟩]
    · refine Ev.neg (by simp; omega) (Ev.neg (by decide) (Ev.succ ?_))
      simp only [spec_taOther.j2]
      refine Ev.neg (by simp) (Ev.neg (by decide) (Ev.ret ?_))
      unfold otherF
      rw [if_neg (by omega), if_neg (by omega), if_neg (by omega), if_neg (by omega)]
  refine Ev.neg n2 (Ev.succ ?_)
  simp only [spec_taOther.j1]
  refine Ev.neg (by simp) ?_
  by_cases n3 : c = 101
  · subst n3
    refine Ev.pos rfl (Ev.neg (by omega) (Ev.succ ?_))
    simp only [spec_taOther.j2]
    rw [tmod_nat, e3, e4]
    by_cases q : i % w < w - 1
    · refine Ev.pos (decide_eq_true (by omega)) (Ev.ret ?_)
      unfold otherF
      rw [if_neg (by omega), if_neg (by omega), if_pos ⟨rfl, q⟩]
    · refine Ev.neg (by rw [decide_eq_true_eq]; omega) (Ev.neg (by decide) (Ev.ret ?_))
      unfold otherF
      rw [if_neg (by omega), if_neg (by omega), if_neg (by omega), if_neg (by omega)]
  refine Ev.neg n3 (Ev.succ ?_)
  simp only [spec_taOther.j2]
  refine Ev.neg (by simp) ?_
  by_cases n4 : c = 119
  · subst n4
    refine Ev.pos rfl (Ev.neg (by omega) ?_)
    rw [tmod_nat, e5]
    by_cases q : 0 < i % w
    · refine Ev.pos (by omega) (Ev.ret ?_)
      unfold otherF
      rw [if_neg (by omega), if_neg (by omega), if_neg (by omega), if_pos ⟨rfl, q⟩]
    · refine Ev.neg (by omega) (Ev.ret ?_)
      unfold otherF
      rw [if_neg (by omega), if_neg (by omega), if_neg (by omega), if_neg (by omega)]
  · refine Ev.neg n4 (Ev.ret ?_)
    unfold otherF
    rw [if_neg (by omega), if_neg (by omega), if_neg (by omega), if_neg (by omega)]
end Go.Proofs.YtokkiiepddhkiaaGreatDoor.Pure
namespace Go.Proofs.YtokkiiepddhkiaaGreatDoor.Pure
open Go.RowKit Go.Proofs.YtokkiiepddhkiaaGreatDoor.Hd Go.Proofs.YtokkiiepddhkiaaGreatDoorW.PrintWords Go.Proofs.YtokkiiepddhkiaaGreatDoorW.PrintLast
set_option linter.unusedVariables false
set_option linter.unusedSimpArgs false
theorem lvs_sim {η η' : Type} {nx : η → Nat → Nat → Option η} {nx' : η' → Nat → Nat → Option η'} {R : η → η' → Prop} (hR : ∀ h h' i j, R h h' → (nx h i j = none ∧ nx' h' i j = none) ∨ ∃ k k', nx h i j = some k ∧ nx' h' i j = some k' ∧ R k k') {w n : Int} :
    ∀ (d : Nat) (b : List Int) (a : Nat) (h : η) (h' : η'), R h h' → (lvs nx w n d b a h).map Prod.fst = (lvs nx' w n d b a h').map Prod.fst := by
  intro d
  induction d with
  | zero => intro b a h h' _; rfl
  | succ d ih =>
    intro b a h h' hh
    have key : ∀ i j l l2, (putL nx (lvs nx w n d) b i j l l2 h).map Prod.fst = (putL nx' (lvs nx' w n d) b i j l l2 h').map Prod.fst := by
      intro i j l l2
      unfold putL
      by_cases c : 0 ≤ j ∧ rd b j = 0
      · rw [if_pos c, if_pos c]
        rcases hR h h' i j.toNat hh with ⟨e1, e2⟩ | ⟨k, k', e1, e2, hk⟩
        · rw [e1, e2]; rfl
        · rw [e1, e2]; exact ih _ _ _ _ hk
      · rw [if_neg c, if_neg c]; rfl
    rw [lvs_succ, lvs_succ]
    by_cases c : ffN b a = b.length
    · rw [if_pos c, if_pos c]; rfl
    · rw [if_neg c, if_neg c, List.map_append, List.map_append, key, key]
theorem lvs_all {η : Type} {nx : η → Nat → Nat → Option η} {w n : Int} : ∀ (d : Nat) (b : List Int) (a : Nat) (h : η), ∀ x ∈ lvs nx w n d b a h, x.1.length = b.length ∧ ((∀ y ∈ b, 0 ≤ y ∧ y < 256) → ∀ y ∈ x.1, 0 ≤ y ∧ y < 256) := by
  intro d
  induction d with
  | zero => intro b a h x hx; cases hx
  | succ d ih =>
    intro b a h x hx
    have key : ∀ i j l l2, (0 ≤ l ∧ l < 256) → (0 ≤ l2 ∧ l2 < 256) → x ∈ putL nx (lvs nx w n d) b i j l l2 h → x.1.length = b.length ∧ ((∀ y ∈ b, 0 ≤ y ∧ y < 256) → ∀ y ∈ x.1, 0 ≤ y ∧ y < 256) := by
      intro i j l l2 hl hl2 hx
      unfold putL at hx
      split at hx
      · cases e : nx h i j.toNat with
        | none => rw [e] at hx; cases hx
        | some k =>
          rw [e] at hx
          obtain ⟨h1, h2⟩ := ih _ _ _ x hx
          refine ⟨by rw [h1]; simp, fun hb => h2 (fun y hy => ?_)⟩
          rcases List.mem_or_eq_of_mem_set hy with hy | rfl
          · rcases List.mem_or_eq_of_mem_set hy with hy | rfl
            · exact hb y hy
            · exact hl
          · exact hl2
      · cases hx
    rw [lvs_succ] at hx
    split at hx
    · rw [List.mem_singleton] at hx; subst hx; exact ⟨rfl, fun hb => hb⟩
    · rcases List.mem_append.1 hx with hx | hx
      · exact key _ _ _ _ (by decide) (by decide) hx
      · exact key _ _ _ _ (by decide) (by decide) hx
end Go.Proofs.YtokkiiepddhkiaaGreatDoor.Pure
namespace Go.Proofs.YtokkiiepddhkiaaGreatDoor.Pure
open Go.RowKit Go.Proofs.YtokkiiepddhkiaaGreatDoor.Hd Go.Proofs.YtokkiiepddhkiaaGreatDoorW.PrintWords Go.Proofs.YtokkiiepddhkiaaGreatDoorW.PrintLast
set_option linter.unusedVariables false
theorem addF_full {m : Nat} : ∀ (L fd : List (List Int)), fd.length + L.length ≤ m + 1 → addF (m : Int) fd L = fd ++ L := by
  intro L
  induction L with
  | nil => intro fd _; rw [addF_nil, List.append_nil]
  | cons x L ih =>
    intro fd h
    rw [List.length_cons] at h
    show addF (m : Int) (if (fd.length : Int) ≤ (m : Int) then fd ++ [x] else fd) L = _
    rw [if_pos (by omega), ih _ (by simp; omega), List.append_assoc]; rfl
theorem rdS_get {L : List (List Int)} {i : Nat} (h : i < L.length) : rd_i64s L (i : Int) = L[i] := by simp [rd_i64s, h]
end Go.Proofs.YtokkiiepddhkiaaGreatDoor.Pure
namespace Go.Proofs.YtokkiiepddhkiaaGreatDoor.Pure
open Go Go.RowKit Go.Proofs.YtokkiiepddhkiaaGreatDoor.Hd Go.Proofs.YtokkiiepddhkiaaGreatDoorW.PrintWords Go.Proofs.YtokkiiepddhkiaaGreatDoorW.PrintLast
set_option linter.unusedVariables false
theorem mk_appA (a b : List UInt8) : (⟨a.toArray⟩ : ByteArray) ++ (⟨b.toArray⟩ : ByteArray) = ⟨(a ++ b).toArray⟩ := by
  apply ByteArray.ext
  rw [ByteArray.data_append]
  simp
end Go.Proofs.YtokkiiepddhkiaaGreatDoor.Pure
namespace Go.Proofs.YtokkiiepddhkiaaGreatDoor.Pure
open Go Go.RowKit Go.Proofs.YtokkiiepddhkiaaGreatDoor.Hd Go.Proofs.YtokkiiepddhkiaaGreatDoorW.PrintWords Go.Proofs.YtokkiiepddhkiaaGreatDoorW.PrintLast
set_option linter.unusedVariables false
set_option linter.unusedSimpArgs false
theorem taRead_t {s : ByteArray} (hs : s.size ≤ 1048576) (h : isTab s = true) : Ev (fun k => spec_taRead.f k s) ((w0 (rowsB s) : Int), ((rowsB s).length : Int), cells s, true) := by
  have q := taRead_ev s hs
  rw [isTab_tab h] at q
  exact q
theorem taRead_n {s : ByteArray} (hs : s.size ≤ 1048576) (h : isTab s = false) : Ev (fun k => spec_taRead.f k s) (0, 0, [], false) := by
  have q := taRead_ev s hs
  rw [isTab_no h] at q
  exact q
/-- The tiles of a layout, from the cell i on. -/
def tilesD (s : ByteArray) (w n : Nat) (L : List Int) : Nat → Nat → List S_Tile
  | _, 0 => []
  | i, d + 1 => (if (i : Int) < otherF w n i (rd L (i : Int)) then [tileAt s (i : Int) (otherF w n i (rd L (i : Int)))] else []) ++ tilesD s w n L (i + 1) d
theorem tilesD_len (s : ByteArray) (w n : Nat) (L : List Int) : ∀ (d i : Nat), (tilesD s w n L i d).length ≤ d := by
  intro d
  induction d with
  | zero => intro i; exact Nat.le_refl _
  | succ d ih =>
    intro i
    have h := ih (i + 1)
    show (_ ++ tilesD s w n L (i + 1) d).length ≤ _
    rw [List.length_append]
    split <;> simp <;> omega
theorem taTiles_l0 {s : ByteArray} (h : isTab s = true) (L : List Int) (hL : L.length = (cells s).length) : ∀ (d i : Nat) (acc : List S_Tile), i + d = (cells s).length → acc.length ≤ i →
    Ev (fun k => spec_taTiles.l0 k acc L (L.length : Int) (i : Int) (w0 (rowsB s) : Int) ((rowsB s).length : Int) (cells s)) (acc ++ tilesD s (w0 (rowsB s)) (w0 (rowsB s) * (rowsB s).length) L i d) := by
  obtain ⟨c1, c2, c3, c4⟩ := cells_n h
  intro d
  induction d with
  | zero =>
    intro i acc h1 h2
    refine Ev.succ ?_
    simp only [spec_taTiles.l0]
    exact Ev.neg (by omega) (Ev.ret (by simp [tilesD]))
  | succ d ih =>
    intro i acc h1 h2
    have hi : i < w0 (rowsB s) * (rowsB s).length := by omega
    obtain ⟨b1, b2⟩ := other_bd (w := w0 (rowsB s)) (h := (rowsB s).length) (rd L (i : Int)) hi
    refine Ev.succ ?_
    simp only [spec_taTiles.l0]
    rw [w64' (n := (i : Int) + 1) (m := ((i + 1 : Nat) : Int)) (by omega) (by omega) (by omega)]
    refine Ev.pos (by omega) (Ev.pos (by omega) (Ev.pos (by omega) (Ev.bd (taOther_ev (w0 (rowsB s)) (rowsB s).length i (cells s) (rd L (i : Int)) c3 (by omega) hi) ?_)))
    unfold tilesD
    by_cases q : (i : Int) < otherF (w0 (rowsB s)) (w0 (rowsB s) * (rowsB s).length) i (rd L (i : Int))
    · rw [if_pos q]
      refine Ev.pos q (Ev.pos (by omega) (Ev.pos (by omega) (Ev.pos (by omega) (Ev.bs (tiOf_eq _ _) (Ev.pos (by omega) ?_)))))
      have hh := ih (i + 1) (acc ++ [tileAt s (i : Int) (otherF (w0 (rowsB s)) (w0 (rowsB s) * (rowsB s).length) i (rd L (i : Int)))]) (by omega) (by simp; omega)
      rw [List.append_assoc] at hh
      exact hh
    · rw [if_neg q, List.nil_append]
      exact Ev.neg q (ih (i + 1) acc (by omega) (by omega))
/-- The tiles of a layout of a table. -/
def tilesH (s : ByteArray) (b : List Int) : List S_Tile := tilesD s (w0 (rowsB s)) (w0 (rowsB s) * (rowsB s).length) b 0 (cells s).length
theorem tilesH_len {s : ByteArray} (h : isTab s = true) (b : List Int) : (tilesH s b).length ≤ 30 := Nat.le_trans (tilesD_len _ _ _ _ _ _) (tab_dim h).2.2.1
theorem taTiles_ev {s : ByteArray} (h : isTab s = true) (b : List Int) (hb : b.length = (cells s).length) : Ev (fun k => spec_taTiles.f k (w0 (rowsB s) : Int) ((rowsB s).length : Int) (cells s) b) (tilesH s b) :=
  taTiles_l0 h b hb (cells s).length 0 [] (by omega) (by simp)
theorem l1Num_1 {n : Int} (h0 : 0 ≤ n) (h9 : n ≤ 9) (k : Nat) : spec_l1Num.f (k + 1) n = some (mkU [dgU n]) := by
  unfold spec_l1Num.f
  rw [if_pos (by omega), strU]
  simp only [List.map_cons, List.map_nil, numU h0 h9]
theorem l1Num_e {n : Int} (h0 : 0 ≤ n) (h9 : n ≤ 9) : Ev (fun k => spec_l1Num.f k n) (mkU [dgU n]) := Ev.succ (Ev.eq (funext fun k => l1Num_1 h0 h9 k) (Ev.now _))
theorem joinU_snoc (R : List (List UInt8)) (r : List UInt8) : Lib.join (R ++ [r]) [44] = Lib.join R [44] ++ ((if 0 < R.length then [44] else []) ++ r) := by
  cases R with
  | nil => simp [Lib.join, List.intercalate]
  | cons x R =>
    rw [if_pos (by simp), List.cons_append, Lib.join_cons, Lib.join_cons]
    unfold Lib.joinTail
    rw [List.map_append, List.flatten_append]
    simp
theorem joinU_bd (l : List S_Tile) : (Lib.join (l.map tlU) [44]).length ≤ 3 * l.length := by
  cases l with
  | nil => simp [Lib.join]
  | cons a l =>
    rw [List.map_cons, Lib.join_cons, List.length_append, joinU_len]
    simp [tlU]; omega
theorem mkU_app (a b : List UInt8) : mkU a ++ mkU b = mkU (a ++ b) := mk_appA a b
theorem mkU_size (a : List UInt8) : (mkU a).size = a.length := by rw [size_len, mkU_list]
theorem tiText_l0 (l : List S_Tile) (hl : l.length ≤ 1000) (hg : ∀ t ∈ l, goodT t = true) : ∀ (d i : Nat), i + d = l.length →
    Ev (fun k => spec_tiText.l0 k (mkU (Lib.join ((l.take i).map tlU) [44])) l (l.length : Int) (i : Int)) (mkU (Lib.join (l.map tlU) [44])) := by
  intro d
  induction d with
  | zero =>
    intro i hi
    refine Ev.succ ?_
    simp only [spec_tiText.l0]
    rw [List.take_of_length_le (by omega)]
    exact Ev.neg (by omega) (Ev.now _)
  | succ d ih =>
    intro i hi
    have hlt : i < l.length := by omega
    obtain ⟨⟨a1, a2⟩, a3, a4⟩ := good_bdU (hg _ (List.getElem_mem hlt))
    have hb := joinU_bd (l.take i)
    rw [List.length_take] at hb
    refine Ev.succ ?_
    simp only [spec_tiText.l0]
    rw [rdT_at hlt, w64' (n := (i : Int) + 1) (m := ((i + 1 : Nat) : Int)) (by omega) (by omega) (by omega)]
    have h2 := ih (i + 1) (by omega)
    rw [List.take_succ_eq_append_getElem hlt, List.map_append, List.map_cons, List.map_nil, joinU_snoc] at h2
    have e44 : (⟨#[44]⟩ : ByteArray) = mkU [44] := rfl
    have et : [dgU l[i].f0] ++ [dgU l[i].f1] = tlU l[i] := rfl
    refine Ev.pos (by omega) (Ev.pos (by omega) (Ev.pos (by omega) ?_))
    by_cases h0 : i = 0
    · rw [if_neg (by rw [List.length_map, List.length_take]; omega), List.nil_append] at h2
      refine Ev.neg (by omega) (Ev.bd (l1Num_e a1 a2) (Ev.bd (l1Num_e a3 a4) ?_))
      rw [mkU_app [dgU _] [dgU _], et]
      refine Ev.pos (by rw [mkU_size, mkU_size]; simp) (Ev.pos (by rw [mkU_size, mkU_size]; simp only [tlU, List.length_cons, List.length_nil]; omega) ?_)
      rw [mkU_app]
      exact h2
    · rw [if_pos (by rw [List.length_map, List.length_take]; omega), ← List.append_assoc] at h2
      refine Ev.pos (by omega) (Ev.pos (by rw [mkU_size]; omega) (Ev.bd (l1Num_e a1 a2) (Ev.bd (l1Num_e a3 a4) ?_)))
      rw [mkU_app [dgU _] [dgU _], et, e44, mkU_app]
      refine Ev.pos (by rw [mkU_size, mkU_size]; simp) (Ev.pos (by rw [mkU_size, mkU_size, List.length_append]; simp only [tlU, List.length_cons, List.length_nil]; omega) ?_)
      rw [mkU_app]
      exact h2
theorem tiText_ev (l : List S_Tile) (hl : l.length ≤ 1000) (hg : ∀ t ∈ l, goodT t = true) : Ev (fun k => spec_tiText.f k l) (mkU (handU l)) := by
  unfold spec_tiText.f
  by_cases h : l.length = 0
  · refine Ev.pos (by omega) (Ev.ret ?_)
    unfold handU
    rw [if_pos h]; rfl
  · refine Ev.neg (by omega) ?_
    unfold handU
    rw [if_neg h]
    have q := tiText_l0 l hl hg l.length 0 (by omega)
    exact q
theorem hasS_l0 (l : List ByteArray) (x : ByteArray) (hl : l.length ≤ 1099511627776) : ∀ (d i : Nat), i + d = l.length → Ev (fun k => spec_l1HasS.l0 k x l (l.length : Int) (i : Int)) (inT (l.drop i) x) := by
  intro d
  induction d with
  | zero =>
    intro i hi
    refine Ev.succ ?_
    simp only [spec_l1HasS.l0]
    rw [List.drop_of_length_le (by omega)]
    exact Ev.neg (by omega) (Ev.now _)
  | succ d ih =>
    intro i hi
    have hlt : i < l.length := by omega
    have e : rdOf ByteArray.empty l (i : Int) = l[i] := by unfold rdOf; simp [hlt]
    refine Ev.succ ?_
    simp only [spec_l1HasS.l0]
    rw [w64' (n := (i : Int) + 1) (m := ((i + 1 : Nat) : Int)) (by omega) (by omega) (by omega), e, List.drop_eq_getElem_cons hlt]
    have e2 : inT (l[i] :: l.drop (i + 1)) x = (decide (l[i] = x) || inT (l.drop (i + 1)) x) := rfl
    rw [e2]
    refine Ev.pos (by omega) (Ev.pos (by omega) (Ev.pos (by omega) ?_))
    by_cases c : l[i] = x
    · refine Ev.pos (by rw [c]) (Ev.ret (by simp [c]))
    · refine Ev.neg (fun q => c ?_) ?_
      · rw [ByteArray.toList_eq, ByteArray.toList_eq] at q
        obtain ⟨a⟩ := x
        obtain ⟨b, hb⟩ : ∃ b, l[i] = b := ⟨_, rfl⟩
        rw [hb] at q ⊢
        obtain ⟨b⟩ := b
        simp only [ByteArray.mk.injEq]
        exact Array.toList_inj.1 q
      · rw [decide_eq_false c, Bool.false_or]
        exact ih (i + 1) (by omega)
theorem hasS_ev (l : List ByteArray) (x : ByteArray) (hl : l.length ≤ 1099511627776) : Ev (fun k => spec_l1HasS.f k l x) (inT l x) := by
  unfold spec_l1HasS.f
  exact hasS_l0 l x hl l.length 0 (by omega)
end Go.Proofs.YtokkiiepddhkiaaGreatDoor.Pure
