/- SingleTiles: what both sides answer. -/
import Derived.Test.YtjhbnkplpaffoaaGreatDoorPSingA
import Derived.Test.YtjhbnkplpaffoaaGreatDoorMSingT
import Derived.Test.YtjhbnkplpaffoaaGreatDoorG3
namespace Go.Proofs.YtjhbnkplpaffoaaGreatDoor.Pure
open Go Go.RowKit Go.Proofs.YtjhbnkplpaffoaaGreatDoor.Hd Go.Proofs.YtjhbnkplpaffoaaGreatDoorW.PrintWords Go.Proofs.YtjhbnkplpaffoaaGreatDoorW.PrintLast
set_option linter.unusedVariables false
set_option linter.unusedSimpArgs false
theorem sing_l0 {s : ByteArray} (h : isTab s = true) (T : List S_Tile) (hT : T.length ≤ 1000000) : ∀ (d i : Nat) (acc : List S_Tile), i + d = T.length → acc.length ≤ i →
    Ev (fun k => spec_SingleTiles.l0 k acc T (T.length : Int) (i : Int) (w0 (rowsB s) : Int) ((rowsB s).length : Int) (cells s)) (acc ++ (T.drop i).filter (oneP s), true) := by
  intro d
  induction d with
  | zero =>
    intro i acc h1 h2
    refine Ev.succ ?_
    simp only [spec_SingleTiles.l0]
    refine Ev.neg (by omega) (Ev.ret ?_)
    rw [List.drop_of_length_le (by omega)]
    simp
  | succ d ih =>
    intro i acc h1 h2
    have hi : i < T.length := by omega
    refine Ev.succ ?_
    simp only [spec_SingleTiles.l0]
    rw [w64' (n := (i : Int) + 1) (m := ((i + 1 : Nat) : Int)) (by omega) (by omega) (by omega), rdT_at hi]
    refine Ev.pos (by omega) (Ev.pos (by omega) (Ev.pos (by omega) (Ev.bd (specPlaces_ev h T[i].f0 T[i].f1) ?_)))
    rw [List.drop_eq_getElem_cons hi]
    by_cases q : ((placesOf s T[i].f0 T[i].f1).length : Int) = 1
    · have hp : oneP s T[i] = true := beq_iff_eq.2 q
      rw [List.filter_cons_of_pos hp]
      have hh := ih (i + 1) (acc ++ [T[i]]) (by omega) (by simp; omega)
      rw [List.append_assoc] at hh
      exact Ev.pos q (Ev.pos (by omega) hh)
    · have hp : ¬ oneP s T[i] = true := fun z => q (beq_iff_eq.1 z)
      rw [List.filter_cons_of_neg hp]
      exact Ev.neg q (ih (i + 1) acc (by omega) (by omega))
theorem specSing_ev (s : ByteArray) (l : List S_Tile) (hs : s.size ≤ 1048576) (hl : l.length ≤ 1048576) : Ev (fun k => spec_SingleTiles.f k s l) (singF s l) := by
  unfold spec_SingleTiles.f spec_taAsked.f
  cases h : isTab s with
  | false =>
    refine Ev.bd (a := (0, 0, [], false)) ?_ ?_
    · refine Ev.bd (taRead_ev s hs) ?_
      rw [isTab_no h]
      exact Ev.neg (by simp) (Ev.now _)
    · refine Ev.neg (by simp) (Ev.ret ?_)
      unfold singF
      rw [h, Bool.false_and, if_neg (by simp)]
  | true =>
    refine Ev.bd (a := ((w0 (rowsB s) : Int), ((rowsB s).length : Int), cells s, handB l)) ?_ ?_
    · refine Ev.bd (taRead_ev s hs) ?_
      rw [isTab_tab h]
      exact Ev.pos rfl (Ev.bd (tiHand_ev l) (Ev.now _))
    · by_cases q : handB l = true
      · have hlen := sortT_len l
        refine Ev.pos q (Ev.bd (tiSort_ev l hl) ?_)
        have hk := sing_l0 h (sortT l) (by omega) (sortT l).length 0 [] (by omega) (by simp)
        have e : singF s l = ((sortT l).filter (oneP s), true) := by unfold singF; rw [if_pos (by rw [h, q]; rfl)]
        rw [e]
        rw [List.drop_zero, List.nil_append] at hk
        exact hk
      · refine Ev.neg q (Ev.ret ?_)
        unfold singF
        rw [if_neg (fun z => q (by rw [Bool.and_eq_true] at z; exact z.2))]
theorem implSing_eq (s : ByteArray) (l : List S_Tile) (hs : s.size ≤ 1048576) (hl : l.length ≤ 1048576) : impl_SingleTiles.f s l = some (singF s l) := if_pos ⟨hs, hl⟩
theorem singF_len (s : ByteArray) (l : List S_Tile) : (singF s l).1.length ≤ 1000 := by
  unfold singF
  split
  · have h1 := sortT_len l
    have h2 := List.length_filter_le (oneP s) (sortT l)
    show ((sortT l).filter (oneP s)).length ≤ _
    omega
  · simp
end Go.Proofs.YtjhbnkplpaffoaaGreatDoor.Pure
