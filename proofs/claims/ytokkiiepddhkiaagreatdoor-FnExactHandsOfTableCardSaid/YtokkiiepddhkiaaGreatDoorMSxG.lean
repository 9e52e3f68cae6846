/- Several pieces of a world as one; a map from tiles to Bools as a piece: exact lookups and stores. -/
import Derived.Test.YtokkiiepddhkiaaGreatDoorMSx
import Derived.Test.YtokkiiepddhkiaaGreatDoorPTile0
import Derived.Maps.Own
import Derived.Maps.Views
import Derived.DeepKeys4
namespace Go.Proofs.YtokkiiepddhkiaaGreatDoor.Hd
open Go Go.RowKit Go.Maps Go.Proofs.YtokkiiepddhkiaaGreatDoor.Pure Go.Proofs.YtokkiiepddhkiaaGreatDoorW.PrintWords Go.Proofs.YtokkiiepddhkiaaGreatDoorW.PrintLast Go.Proofs.YtokkiiepddhkiaaGreatDoorW.PrintMore
set_option linter.unusedVariables false
set_option linter.unusedSimpArgs false
/-- Several pieces as one. -/
def grp (l : List Chunk) : Chunk where
  fp k := ∃ (i : Nat) (c : Chunk), l[i]? = some c ∧ c.fp k
  ok W := (∀ (i : Nat) (c : Chunk), l[i]? = some c → c.ok W) ∧ ∀ (i j : Nat) (c d : Chunk), i ≠ j → l[i]? = some c → l[j]? = some d → ∀ k, c.fp k → d.fp k → False
  move h e := ⟨fun i c hc => c.move (h.1 i c hc) (fun k hk => e k ⟨i, c, hc, hk⟩), h.2⟩
  live h k := fun ⟨i, c, hc, hk⟩ => c.live (h.1 i c hc) k hk
theorem Hp.grp {w0 W : World} {cs : List Chunk} (l : List Chunk) (h : Hp w0 (l ++ cs) W) : Hp w0 (Hd.grp l :: cs) W := by
  have hl : ∀ (i : Nat) (c : Chunk), l[i]? = some c → (l ++ cs)[i]? = some c := fun i c hc => by rw [List.getElem?_append_left (List.getElem?_eq_some_iff.1 hc).1]; exact hc
  have hr : ∀ (i : Nat) (c : Chunk), cs[i]? = some c → (l ++ cs)[l.length + i]? = some c := fun i c hc => by rw [List.getElem?_append_right (by omega)]; simpa using hc
  refine ⟨fun i c hc => ?_, fun i j c d hne hc hd k hk hk' => ?_, h.os, h.tape, h.output, h.size⟩
  · cases i with
    | zero => injection hc with hc; subst hc; exact ⟨fun i c hc => h.ok i c (hl i c hc), fun i j c d hne hc hd => h.ap i j c d hne (hl i c hc) (hl j d hd)⟩
    | succ i => exact h.ok _ c (hr i c hc)
  · cases i with
    | zero =>
      injection hc with hc; subst hc
      obtain ⟨i', c', hc', hk⟩ := hk
      cases j with
      | zero => exact hne rfl
      | succ j => exact h.ap i' (l.length + j) c' d (by have := (List.getElem?_eq_some_iff.1 hc').1; omega) (hl _ _ hc') (hr j d hd) k hk hk'
    | succ i =>
      cases j with
      | zero =>
        injection hd with hd; subst hd
        obtain ⟨j', d', hd', hk'⟩ := hk'
        exact h.ap (l.length + i) j' c d' (by have := (List.getElem?_eq_some_iff.1 hd').1; omega) (hr i c hc) (hl _ _ hd') k hk hk'
      | succ j => exact h.ap (l.length + i) (l.length + j) c d (by omega) (hr i c hc) (hr j d hd) k hk hk'
theorem Hp.ungrp {w0 W : World} {cs : List Chunk} {l : List Chunk} (h : Hp w0 (Hd.grp l :: cs) W) : Hp w0 (l ++ cs) W := by
  have h0 := h.at_ 0 _ rfl
  have hw : ∀ (i : Nat) (c : Chunk), (l ++ cs)[i]? = some c → (i < l.length ∧ l[i]? = some c) ∨ (l.length ≤ i ∧ cs[i - l.length]? = some c) := fun i c hc => by
    rw [List.getElem?_append] at hc
    split at hc
    · exact .inl ⟨by assumption, hc⟩
    · exact .inr ⟨by omega, hc⟩
  refine ⟨fun i c hc => ?_, fun i j c d hne hc hd k hk hk' => ?_, h.os, h.tape, h.output, h.size⟩
  · rcases hw i c hc with ⟨_, q⟩ | ⟨_, q⟩
    · exact h0.1 i c q
    · exact h.ok (i - l.length + 1) c q
  · rcases hw i c hc with ⟨hi, q⟩ | ⟨hi, q⟩ <;> rcases hw j d hd with ⟨hj, q'⟩ | ⟨hj, q'⟩
    · exact h0.2 i j c d hne q q' k hk hk'
    · exact h.ap 0 (j - l.length + 1) _ d (by omega) rfl q' k ⟨i, c, q, hk⟩ hk'
    · exact h.ap (i - l.length + 1) 0 c _ (by omega) q rfl k hk ⟨j, d, q', hk'⟩
    · exact h.ap (i - l.length + 1) (j - l.length + 1) c d (by omega) q q' k hk hk'
/-- An element read as itself, whatever it is. -/
def selfE (v : Value) : Option (DataW Value × List MemPlace) := some (.held v, [])
abbrev tvK (t : S_Tile) : Value := .agg #[.int .i64 t.f0, .int .i64 t.f1]
/-- Block b is a map from tiles to Bools, of at most n entries; a tile t that is looked up answers m t. -/
def tileM (P : Program) (k : TypeId) (b n : Nat) (m : S_Tile → Bool) : Chunk where
  fp x := x = b
  ok W := ∃ D : DataW Value, W.ownsMap P k selfE b n D ∧ IsMap D ∧ ∀ t kl, keyOf P k (tvK t) = some kl → D.atKey kl (.held (.bool false)) = .held (.bool (m t))
  move h e := by
    obtain ⟨D, ⟨es, clock, hb, F, hs, hD⟩, hi, hg⟩ := h
    exact ⟨D, ⟨es, clock, (e b rfl).trans hb, F, hs, hD⟩, hi, hg⟩
  live h k hk := by
    obtain ⟨D, ho, _⟩ := h
    subst hk
    exact ho.lt
def upd (m : S_Tile → Bool) (t : S_Tile) (v : Bool) : S_Tile → Bool := fun x => if x = t then v else m x
theorem upd_back {m : S_Tile → Bool} {t : S_Tile} {u v : Bool} (h : m t = v) : upd (upd m t u) t v = m := by
  funext x
  unfold upd
  by_cases e : x = t
  · rw [if_pos e, e, h]
  · rw [if_neg e, if_neg e]
theorem upd_same {m : S_Tile → Bool} {t : S_Tile} {v : Bool} (h : m t = v) : upd m t v = m := by
  funext x
  unfold upd
  by_cases e : x = t
  · rw [if_pos e, e, h]
  · rw [if_neg e]
section
variable {P : Program} {N : Nat} {s : List (Nat × Value)} {o : Oper} {rest : List Oper} {ops : Array Oper} {Q : Exit → Act → World → Prop} {W w0 : World} {cs : List Chunk} {k e t : TypeId} {b n : Nat} {m : S_Tile → Bool}
theorem tm_look (K : Keyed P k) {M X : Operand} (ho : o.op = .lookup t M X false) (hm : evl N s M = .map (some b)) {x : S_Tile} (hx : evl N s X = tvK x) (ht : P.underlying t = some (.map k e)) (hz : ∀ w, (zeroValue e).run P w = .ok (.bool false) w)
    (hkey : (keyOf P k (tvK x)).isSome = true) (hc : (tileM P k b n m).ok W) : (execOp (evl N s) o).run P W = .ok (.value (.bool (m x))) W := by
  obtain ⟨kl, hkl⟩ := Option.isSome_iff_exists.1 hkey
  obtain ⟨D, ⟨es, clock, hb, F, hs, hD⟩, hi, hg⟩ := hc
  have hgx := hg x kl hkl
  rcases Maps.fit_look false K ht (hz W) hb F hkl with ⟨hrun, _, hat⟩ | ⟨e0, y, _, _, hrun, hR, hat, _⟩
  · rw [hD, hat] at hgx
    have e1 : false = m x := by injection hgx with q; injection q
    unfold execOp
    simp [ho, hm, hx, hrun, Result.andThen, ← e1]
  · have hy : y = (.held e0.val, []) := (Option.some.inj hR).symm
    rw [hD, hat, hy] at hgx
    have e1 : e0.val = .bool (m x) := by injection hgx
    unfold execOp
    simp [ho, hm, hx, hrun, Result.andThen, e1]
end
end Go.Proofs.YtokkiiepddhkiaaGreatDoor.Hd
