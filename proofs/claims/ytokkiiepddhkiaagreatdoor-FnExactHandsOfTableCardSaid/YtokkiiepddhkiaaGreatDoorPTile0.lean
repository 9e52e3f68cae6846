/- Plain facts on tiles: the places in a list, good tiles. -/
import Derived.Test.YtokkiiepddhkiaaGreatDoorPEv
import Derived.Test.YtokkiiepddhkiaaGreatDoorG1
import Derived.Test.YtokkiiepddhkiaaGreatDoorG0
namespace Go.Proofs.YtokkiiepddhkiaaGreatDoor.Pure
open Go.RowKit Go.Proofs.YtokkiiepddhkiaaGreatDoor.Hd Go.Proofs.YtokkiiepddhkiaaGreatDoorW.PrintWords Go.Proofs.YtokkiiepddhkiaaGreatDoorW.PrintLast
set_option linter.unusedVariables false
set_option linter.unusedSimpArgs false
theorem rdT_at {l : List S_Tile} {i : Nat} (h : i < l.length) : rd_Tile l (i : Int) = l[i] := by simp [rd_Tile, h]
end Go.Proofs.YtokkiiepddhkiaaGreatDoor.Pure
namespace Go.Proofs.YtokkiiepddhkiaaGreatDoor.Hd
def inB (a b x : Int) : Bool := decide (a ≤ x) && decide (x ≤ b)
end Go.Proofs.YtokkiiepddhkiaaGreatDoor.Hd
namespace Go.Proofs.YtokkiiepddhkiaaGreatDoor.Pure
open Go.RowKit Go.Proofs.YtokkiiepddhkiaaGreatDoor.Hd Go.Proofs.YtokkiiepddhkiaaGreatDoorW.PrintWords Go.Proofs.YtokkiiepddhkiaaGreatDoorW.PrintLast
set_option linter.unusedVariables false
set_option linter.unusedSimpArgs false
def eqT (a b : S_Tile) : Bool := a.f0 == b.f0 && (a.f1 == b.f1)
theorem eqT_iff {a b : S_Tile} : eqT a b = true ↔ a = b := by
  cases a; cases b; simp [eqT]
instance instDecT : DecidableEq S_Tile := fun a b => decidable_of_iff (eqT a b = true) eqT_iff
/-- The place of a tile in a list, or -1. -/
def idxT (l : List S_Tile) (t : S_Tile) : Int := if t ∈ l then (l.idxOf t : Int) else -1
theorem idxT_ge (l : List S_Tile) (t : S_Tile) : 0 ≤ idxT l t ↔ t ∈ l := by
  unfold idxT
  by_cases h : t ∈ l
  · rw [if_pos h]; exact ⟨fun _ => h, fun _ => by omega⟩
  · rw [if_neg h]; exact ⟨fun h2 => by omega, fun h2 => absurd h2 h⟩
theorem idxT_hit {l : List S_Tile} {i : Nat} (h : i < l.length) (hn : l[i] ∉ l.take i) : idxT l l[i] = i := by
  unfold idxT
  rw [if_pos (List.getElem_mem h)]
  congr 1
  have hs : l = l.take i ++ l[i] :: l.drop (i + 1) := by
    rw [← List.drop_eq_getElem_cons h, List.take_append_drop]
  have hx : ∀ x, x = l[i] → List.idxOf x l = i := by
    intro x hx
    rw [hs, List.idxOf_append, if_neg (by rw [hx]; exact hn), hx, List.idxOf_cons_self, List.length_take]
    omega
  exact hx _ rfl
theorem take_mem_succ {l : List S_Tile} {i : Nat} (h : i < l.length) (t : S_Tile) : t ∈ l.take (i + 1) ↔ t ∈ l.take i ∨ t = l[i] := by
  rw [List.take_succ_eq_append_getElem h, List.mem_append, List.mem_singleton]
theorem tiPlace_l0 (l : List S_Tile) (hl : l.length ≤ 8388608) (t : S_Tile) : ∀ (d i : Nat), i + d = l.length → t ∉ l.take i →
    Ev (fun k => spec_tiPlace.l0 k l (l.length : Int) (i : Int) t.f0 t.f1) (idxT l t) := by
  intro d
  induction d with
  | zero =>
    intro i hi hn
    refine Ev.succ ?_
    simp only [spec_tiPlace.l0]
    refine Ev.neg (by omega) (Ev.ret ?_)
    rw [List.take_of_length_le (by omega)] at hn
    unfold idxT; rw [if_neg hn]
  | succ d ih =>
    intro i hi hn
    refine Ev.succ ?_
    have hlt : i < l.length := by omega
    simp only [spec_tiPlace.l0]
    refine Ev.pos (by omega) (Ev.pos (by omega) (Ev.pos (by omega) ?_))
    rw [w64' (n := (i : Int) + 1) (m := ((i + 1 : Nat) : Int)) (by omega) (by omega) (by omega), rdT_at hlt]
    by_cases e : l[i] = t
    · refine Ev.pos (eqT_iff.2 e) (Ev.ret ?_)
      rw [← e] at hn ⊢
      exact (idxT_hit hlt hn).symm
    · refine Ev.neg (fun h => e (eqT_iff.1 h)) (ih (i + 1) (by omega) ?_)
      rw [take_mem_succ hlt]
      exact fun h => h.elim hn fun h => e h.symm
theorem tiPlace_ev (l : List S_Tile) (hl : l.length ≤ 8388608) (t : S_Tile) : Ev (fun k => spec_tiPlace.f k l t.f0 t.f1) (idxT l t) := by
  unfold spec_tiPlace.f
  exact tiPlace_l0 l hl t l.length 0 (by omega) (by simp)
/-- No two tiles are the same. -/
def difT (l : List S_Tile) : Bool := decide l.Nodup
theorem nodup_snoc {α : Type} {l : List α} {x : α} : (l ++ [x]).Nodup ↔ l.Nodup ∧ x ∉ l := by
  rw [List.nodup_append]
  simp only [List.nodup_cons, List.not_mem_nil, not_false_iff, List.nodup_nil, List.mem_singleton]
  constructor
  · rintro ⟨h1, _, h3⟩
    exact ⟨h1, fun hx => h3 x hx x rfl rfl⟩
  · rintro ⟨h1, h2⟩
    exact ⟨h1, ⟨by simp, trivial⟩, fun a ha b hb e => h2 (by rw [← hb, ← e]; exact ha)⟩
theorem nodup_take {α : Type} {l : List α} {i : Nat} (h : i < l.length) : (l.take (i + 1)).Nodup ↔ (l.take i).Nodup ∧ l[i] ∉ l.take i := by
  rw [List.take_succ_eq_append_getElem h, nodup_snoc]
theorem nodup_not {α : Type} {l : List α} {i : Nat} (h : i < l.length) (hm : l[i] ∈ l.take i) : ¬ l.Nodup := by
  intro hn
  have h2 : (l.take (i + 1)).Nodup := hn.sublist (List.take_sublist _ _)
  exact ((nodup_take h).1 h2).2 hm
def goodT (t : S_Tile) : Bool := decide (0 ≤ t.f0) && decide (t.f0 ≤ t.f1) && decide (t.f1 ≤ 9)
theorem l1In_eq (n a b : Int) : spec_l1In.f n a b = some (inB a b n) := by
  unfold spec_l1In.f inB
  by_cases h : n ≥ a
  · rw [if_pos h, decide_eq_true (show a ≤ n from h), Bool.true_and]
  · rw [if_neg h, decide_eq_false (show ¬ a ≤ n from h), Bool.false_and]
theorem tiGood_eq (t : S_Tile) : spec_tiGood.f t.f0 t.f1 = some (goodT t) := by
  unfold spec_tiGood.f
  rw [l1In_eq, Option.bind_some]
  unfold goodT inB
  by_cases h : (decide (0 ≤ t.f0) && decide (t.f0 ≤ t.f1)) = true
  · rw [if_pos h, h, Bool.true_and]
  · rw [if_neg h, Bool.eq_false_iff.2 h, Bool.false_and]
/-- A hand. -/
def handB (l : List S_Tile) : Bool := decide (l.length ≤ 55) && (l.all goodT && difT l)
end Go.Proofs.YtokkiiepddhkiaaGreatDoor.Pure
