/-
  DERIVED. GIVEN WITH THE SEED: THE CARDS: each row of YtjhbnkplpaffoaaGreatDoorRows.lean that lists a variable, with what it lists TIED to the program's text (the seventh form; the later family's looks); each row that meets fmt, with fmt's text TOLD by the authors' own Lean function (tested against real Go, not proved from fmt's source: count such statements apart). THE CARD IS WHAT COUNTS. Prove the row's statement (the work); the ties are given (YtjhbnkplpaffoaaGreatDoorTie.lean); close each card by the builder's one call (the guide's Derived/Test/ToyasCard.lean, 'card_holds'). Laid BY PROGRAM, IN A SANDBOX (cutbox-door.mjs). By AI agents, Wed Nov 11 2026. No macro, syntax, notation, axiom, sorry.
-/
import Derived.Test.YtjhbnkplpaffoaaGreatDoorRows
import GoSem.ClaimSeven
namespace Go.Proofs.YtjhbnkplpaffoaaGreatDoor
namespace Rows

/-- THE TIED CARD OF 'laws.FnExactSingleTiles'. -/
def fnExactSingleTilesCard : Claim7 := { stood := { row := fnExactSingleTilesRow, standIns := [], harness := (true, "450292e3a77143c174dbbb3fad0319e0c9b896fea3f6a86016c4b909c413e536"), looks := false }, kinds := [], alts := [], laidByText := true, laidKinds := [.data, .pinned], laidTests := true, laidLooks := .later }
def FnExactSingleTilesCardSaid : Prop := Claim7.holds Tryz.pinned (.plain (OpenSpec.ofChange fnExactSingleTilesSpec)) fnExactSingleTilesCard

/-- THE SECOND FORM's CARD OF 'laws.FnExactSingleTiles'. -/
def fnExactSingleTilesUptoCard : Claim7 := { stood := { row := fnExactSingleTilesUptoRow, standIns := [], harness := (true, "450292e3a77143c174dbbb3fad0319e0c9b896fea3f6a86016c4b909c413e536"), looks := false }, kinds := [], alts := [], laidByText := true, laidKinds := [.data, .pinned], laidTests := true, laidLooks := .later }
def FnExactSingleTilesUptoCardSaid : Prop := Claim7.holds Tryz.pinned (.plain (OpenSpec.upto fnExactSingleTilesSpec)) fnExactSingleTilesUptoCard
end Rows
end Go.Proofs.YtjhbnkplpaffoaaGreatDoor
