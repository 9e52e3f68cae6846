/- SingleTiles: the tiles with one place; plain words. -/
import Derived.Test.YtjhbnkplpaffoaaGreatDoorPPlaces
import Derived.Test.YtjhbnkplpaffoaaGreatDoorPDelP
import Derived.Test.YtjhbnkplpaffoaaGreatDoorPSortT
import Derived.Test.YtjhbnkplpaffoaaGreatDoorPIsHand
import Derived.Test.YtjhbnkplpaffoaaGreatDoorMSorted2
import Derived.Test.YtjhbnkplpaffoaaGreatDoorG3
namespace Go.Proofs.YtjhbnkplpaffoaaGreatDoor.Pure
open Go Go.RowKit Go.Proofs.YtjhbnkplpaffoaaGreatDoor.Hd Go.Proofs.YtjhbnkplpaffoaaGreatDoorW.PrintWords Go.Proofs.YtjhbnkplpaffoaaGreatDoorW.PrintLast
set_option linter.unusedVariables false
theorem sorted_handS {hand : List S_Tile} (hb : handB hand = true) : impl_sorted.f hand = some (sortT hand) := by
  unfold handB at hb
  simp only [Bool.and_eq_true, decide_eq_true_eq, difT] at hb
  exact sorted_eq hb.2.1 hb.2.2 (by omega)
/-- Has a tile just one place? -/
def oneP (s : ByteArray) (t : S_Tile) : Bool := (((placesOf s t.f0 t.f1).length : Int) == 1)
def singF (s : ByteArray) (l : List S_Tile) : List S_Tile × Bool := if (isTab s && handB l) = true then ((sortT l).filter (oneP s), true) else ([], false)
theorem isApart_ev {s : ByteArray} {l : List S_Tile} (hs : s.size ≤ 1048576) (hl : l.length ≤ 1048576) : Ev (fun k => impl_isApart.f k s l) (isTab s && handB l) := by
  unfold impl_isApart.f
  refine Ev.bd (implIsTable_ev s hs) ?_
  cases h : isTab s with
  | true => exact Ev.pos rfl (Ev.bd (isHand_ev l) (Ev.ret (by simp)))
  | false => exact Ev.neg (by simp) (Ev.ret (by simp))
end Go.Proofs.YtjhbnkplpaffoaaGreatDoor.Pure
