/- Plain words on tiles, and what the small functions over them answer. -/
import Derived.Test.YtokkiiepddhkiaaGreatDoorPTile0
import Derived.Test.YtokkiiepddhkiaaGreatDoorG1
import Derived.Test.YtokkiiepddhkiaaGreatDoorG1
namespace Go.Proofs.YtokkiiepddhkiaaGreatDoor.Pure
open Go.RowKit Go.Proofs.YtokkiiepddhkiaaGreatDoor.Hd Go.Proofs.YtokkiiepddhkiaaGreatDoorW.PrintWords Go.Proofs.YtokkiiepddhkiaaGreatDoorW.PrintLast
set_option linter.unusedVariables false
set_option linter.unusedSimpArgs false
/-- A tile. -/
theorem tiHand_l0 (l : List S_Tile) (hl : l.length ≤ 55) : ∀ (d i : Nat), i + d = l.length → (l.take i).Nodup → (l.take i).all goodT = true →
    Ev (fun k => spec_tiHand.l0 k l l (l.length : Int) (i : Int)) (l.all goodT && difT l) := by
  intro d
  induction d with
  | zero =>
    intro i hi hn hg
    refine Ev.succ ?_
    simp only [spec_tiHand.l0]
    rw [List.take_of_length_le (by omega)] at hn hg
    exact Ev.neg (by omega) (Ev.ret (by rw [hg]; unfold difT; rw [decide_eq_true hn]; rfl))
  | succ d ih =>
    intro i hi hn hg
    refine Ev.succ ?_
    have hlt : i < l.length := by omega
    simp only [spec_tiHand.l0]
    refine Ev.pos (by omega) (Ev.pos (by omega) (Ev.pos (by omega) ?_))
    rw [w64' (n := (i : Int) + 1) (m := ((i + 1 : Nat) : Int)) (by omega) (by omega) (by omega), rdT_at hlt, Int.toNat_natCast]
    refine Ev.bs (tiGood_eq _) ?_
    by_cases g : goodT l[i] = true
    · refine Ev.pos g (Ev.pos (by omega) (Ev.bd (tiPlace_ev (l.take i) (by rw [List.length_take]; omega) l[i]) ?_))
      by_cases e : l[i] ∈ l.take i
      · refine Ev.pos ((idxT_ge _ _).2 e) (Ev.ret ?_)
        unfold difT; rw [decide_eq_false (nodup_not hlt e), Bool.and_false]
      · refine Ev.neg (fun h => e ((idxT_ge _ _).1 h)) (ih (i + 1) (by omega) ((nodup_take hlt).2 ⟨hn, e⟩) ?_)
        rw [List.take_succ_eq_append_getElem hlt, List.all_append, hg]
        simp [g]
    · refine Ev.neg g (Ev.ret ?_)
      rw [List.all_eq_false.2 ⟨l[i], List.getElem_mem hlt, g⟩]; rfl
theorem tiHand_ev (l : List S_Tile) : Ev (fun k => spec_tiHand.f k l) (handB l) := by
  unfold spec_tiHand.f handB
  by_cases h : l.length ≤ 55
  · rw [decide_eq_true h, Bool.true_and]
    exact Ev.neg (by omega) (tiHand_l0 l h l.length 0 (by omega) (by simp) (by simp))
  · rw [decide_eq_false h, Bool.false_and]
    exact Ev.pos (by omega) (Ev.ret rfl)
end Go.Proofs.YtokkiiepddhkiaaGreatDoor.Pure
