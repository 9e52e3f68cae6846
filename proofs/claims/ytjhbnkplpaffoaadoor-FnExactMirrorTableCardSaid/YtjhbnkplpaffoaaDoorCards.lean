/-
  DERIVED. GIVEN WITH THE SEED: THE CARDS: each row of YtjhbnkplpaffoaaDoorRows.lean that lists a variable, with what it lists TIED to the program's text (the seventh form; the later family's looks); each row that meets fmt, with fmt's text TOLD by the authors' own Lean function (tested against real Go, not proved from fmt's source: count such statements apart). THE CARD IS WHAT COUNTS. Prove the row's statement (the work); the ties are given (YtjhbnkplpaffoaaDoorTie.lean); close each card by the builder's one call (the guide's Derived/Test/ToyasCard.lean, 'card_holds'). Laid BY PROGRAM, IN A SANDBOX (cutbox-door.mjs). By AI agents, Wed Nov 11 2026. No macro, syntax, notation, axiom, sorry.
-/
import Derived.Test.YtjhbnkplpaffoaaDoorRows
import GoSem.ClaimSeven
namespace Go.Proofs.YtjhbnkplpaffoaaDoor
namespace Rows

/-- THE TIED CARD OF 'laws.FnExactIsTable'. -/
def fnExactIsTableCard : Claim7 := { stood := { row := fnExactIsTableRow, standIns := [], harness := (true, "5da4a47bd7c99e44d13a4270b84b229419b940391797f19b3409eabf2f842ffc"), looks := false }, kinds := [], alts := [], laidByText := true, laidKinds := [.data, .pinned], laidTests := true, laidLooks := .later }
def FnExactIsTableCardSaid : Prop := Claim7.holds Tryd.pinned (.plain (OpenSpec.ofChange fnExactIsTableSpec)) fnExactIsTableCard

/-- THE TIED CARD OF 'laws.FnExactTableSize'. -/
def fnExactTableSizeCard : Claim7 := { stood := { row := fnExactTableSizeRow, standIns := [], harness := (true, "5da4a47bd7c99e44d13a4270b84b229419b940391797f19b3409eabf2f842ffc"), looks := false }, kinds := [], alts := [], laidByText := true, laidKinds := [.data, .pinned], laidTests := true, laidLooks := .later }
def FnExactTableSizeCardSaid : Prop := Claim7.holds Tryd.pinned (.plain (OpenSpec.ofChange fnExactTableSizeSpec)) fnExactTableSizeCard

/-- THE TIED CARD OF 'laws.FnExactCountNumber'. -/
def fnExactCountNumberCard : Claim7 := { stood := { row := fnExactCountNumberRow, standIns := [], harness := (true, "5da4a47bd7c99e44d13a4270b84b229419b940391797f19b3409eabf2f842ffc"), looks := false }, kinds := [], alts := [], laidByText := true, laidKinds := [.data, .pinned], laidTests := true, laidLooks := .later }
def FnExactCountNumberCardSaid : Prop := Claim7.holds Tryd.pinned (.plain (OpenSpec.ofChange fnExactCountNumberSpec)) fnExactCountNumberCard

/-- THE TIED CARD OF 'laws.FnExactMirrorTable'. -/
def fnExactMirrorTableCard : Claim7 := { stood := { row := fnExactMirrorTableRow, standIns := [], harness := (true, "5da4a47bd7c99e44d13a4270b84b229419b940391797f19b3409eabf2f842ffc"), looks := false }, kinds := [], alts := [], laidByText := true, laidKinds := [.data, .pinned], laidTests := true, laidLooks := .later }
def FnExactMirrorTableCardSaid : Prop := Claim7.holds Tryd.pinned (.plain (OpenSpec.ofChange fnExactMirrorTableSpec)) fnExactMirrorTableCard

/-- THE TIED CARD OF 'laws.FnExactTurnTable'. -/
def fnExactTurnTableCard : Claim7 := { stood := { row := fnExactTurnTableRow, standIns := [], harness := (true, "5da4a47bd7c99e44d13a4270b84b229419b940391797f19b3409eabf2f842ffc"), looks := false }, kinds := [], alts := [], laidByText := true, laidKinds := [.data, .pinned], laidTests := true, laidLooks := .later }
def FnExactTurnTableCardSaid : Prop := Claim7.holds Tryd.pinned (.plain (OpenSpec.ofChange fnExactTurnTableSpec)) fnExactTurnTableCard

/-- THE TIED CARD OF 'laws.FnExactIsLayout'. -/
def fnExactIsLayoutCard : Claim7 := { stood := { row := fnExactIsLayoutRow, standIns := [], harness := (true, "5da4a47bd7c99e44d13a4270b84b229419b940391797f19b3409eabf2f842ffc"), looks := false }, kinds := [], alts := [], laidByText := true, laidKinds := [.data, .pinned], laidTests := true, laidLooks := .later }
def FnExactIsLayoutCardSaid : Prop := Claim7.holds Tryd.pinned (.plain (OpenSpec.ofChange fnExactIsLayoutSpec)) fnExactIsLayoutCard

/-- THE TIED CARD OF 'laws.FnExactPlacesOfTile'. -/
def fnExactPlacesOfTileCard : Claim7 := { stood := { row := fnExactPlacesOfTileRow, standIns := [], harness := (true, "5da4a47bd7c99e44d13a4270b84b229419b940391797f19b3409eabf2f842ffc"), looks := false }, kinds := [], alts := [], laidByText := true, laidKinds := [.data, .pinned], laidTests := true, laidLooks := .later }
def FnExactPlacesOfTileCardSaid : Prop := Claim7.holds Tryd.pinned (.plain (OpenSpec.ofChange fnExactPlacesOfTileSpec)) fnExactPlacesOfTileCard

/-- THE TIED CARD OF 'laws.FnExactTilesOfLayout'. -/
def fnExactTilesOfLayoutCard : Claim7 := { stood := { row := fnExactTilesOfLayoutRow, standIns := [], harness := (true, "5da4a47bd7c99e44d13a4270b84b229419b940391797f19b3409eabf2f842ffc"), looks := false }, kinds := [], alts := [], laidByText := true, laidKinds := [.data, .pinned], laidTests := true, laidLooks := .later }
def FnExactTilesOfLayoutCardSaid : Prop := Claim7.holds Tryd.pinned (.plain (OpenSpec.ofChange fnExactTilesOfLayoutSpec)) fnExactTilesOfLayoutCard

/-- THE SECOND FORM's CARD OF 'laws.FnExactIsTable'. -/
def fnExactIsTableUptoCard : Claim7 := { stood := { row := fnExactIsTableUptoRow, standIns := [], harness := (true, "5da4a47bd7c99e44d13a4270b84b229419b940391797f19b3409eabf2f842ffc"), looks := false }, kinds := [], alts := [], laidByText := true, laidKinds := [.data, .pinned], laidTests := true, laidLooks := .later }
def FnExactIsTableUptoCardSaid : Prop := Claim7.holds Tryd.pinned (.plain (OpenSpec.upto fnExactIsTableSpec)) fnExactIsTableUptoCard

/-- THE SECOND FORM's CARD OF 'laws.FnExactTableSize'. -/
def fnExactTableSizeUptoCard : Claim7 := { stood := { row := fnExactTableSizeUptoRow, standIns := [], harness := (true, "5da4a47bd7c99e44d13a4270b84b229419b940391797f19b3409eabf2f842ffc"), looks := false }, kinds := [], alts := [], laidByText := true, laidKinds := [.data, .pinned], laidTests := true, laidLooks := .later }
def FnExactTableSizeUptoCardSaid : Prop := Claim7.holds Tryd.pinned (.plain (OpenSpec.upto fnExactTableSizeSpec)) fnExactTableSizeUptoCard

/-- THE SECOND FORM's CARD OF 'laws.FnExactCountNumber'. -/
def fnExactCountNumberUptoCard : Claim7 := { stood := { row := fnExactCountNumberUptoRow, standIns := [], harness := (true, "5da4a47bd7c99e44d13a4270b84b229419b940391797f19b3409eabf2f842ffc"), looks := false }, kinds := [], alts := [], laidByText := true, laidKinds := [.data, .pinned], laidTests := true, laidLooks := .later }
def FnExactCountNumberUptoCardSaid : Prop := Claim7.holds Tryd.pinned (.plain (OpenSpec.upto fnExactCountNumberSpec)) fnExactCountNumberUptoCard

/-- THE SECOND FORM's CARD OF 'laws.FnExactMirrorTable'. -/
def fnExactMirrorTableUptoCard : Claim7 := { stood := { row := fnExactMirrorTableUptoRow, standIns := [], harness := (true, "5da4a47bd7c99e44d13a4270b84b229419b940391797f19b3409eabf2f842ffc"), looks := false }, kinds := [], alts := [], laidByText := true, laidKinds := [.data, .pinned], laidTests := true, laidLooks := .later }
def FnExactMirrorTableUptoCardSaid : Prop := Claim7.holds Tryd.pinned (.plain (OpenSpec.upto fnExactMirrorTableSpec)) fnExactMirrorTableUptoCard

/-- THE SECOND FORM's CARD OF 'laws.FnExactTurnTable'. -/
def fnExactTurnTableUptoCard : Claim7 := { stood := { row := fnExactTurnTableUptoRow, standIns := [], harness := (true, "5da4a47bd7c99e44d13a4270b84b229419b940391797f19b3409eabf2f842ffc"), looks := false }, kinds := [], alts := [], laidByText := true, laidKinds := [.data, .pinned], laidTests := true, laidLooks := .later }
def FnExactTurnTableUptoCardSaid : Prop := Claim7.holds Tryd.pinned (.plain (OpenSpec.upto fnExactTurnTableSpec)) fnExactTurnTableUptoCard

/-- THE SECOND FORM's CARD OF 'laws.FnExactIsLayout'. -/
def fnExactIsLayoutUptoCard : Claim7 := { stood := { row := fnExactIsLayoutUptoRow, standIns := [], harness := (true, "5da4a47bd7c99e44d13a4270b84b229419b940391797f19b3409eabf2f842ffc"), looks := false }, kinds := [], alts := [], laidByText := true, laidKinds := [.data, .pinned], laidTests := true, laidLooks := .later }
def FnExactIsLayoutUptoCardSaid : Prop := Claim7.holds Tryd.pinned (.plain (OpenSpec.upto fnExactIsLayoutSpec)) fnExactIsLayoutUptoCard

/-- THE SECOND FORM's CARD OF 'laws.FnExactPlacesOfTile'. -/
def fnExactPlacesOfTileUptoCard : Claim7 := { stood := { row := fnExactPlacesOfTileUptoRow, standIns := [], harness := (true, "5da4a47bd7c99e44d13a4270b84b229419b940391797f19b3409eabf2f842ffc"), looks := false }, kinds := [], alts := [], laidByText := true, laidKinds := [.data, .pinned], laidTests := true, laidLooks := .later }
def FnExactPlacesOfTileUptoCardSaid : Prop := Claim7.holds Tryd.pinned (.plain (OpenSpec.upto fnExactPlacesOfTileSpec)) fnExactPlacesOfTileUptoCard

/-- THE SECOND FORM's CARD OF 'laws.FnExactTilesOfLayout'. -/
def fnExactTilesOfLayoutUptoCard : Claim7 := { stood := { row := fnExactTilesOfLayoutUptoRow, standIns := [], harness := (true, "5da4a47bd7c99e44d13a4270b84b229419b940391797f19b3409eabf2f842ffc"), looks := false }, kinds := [], alts := [], laidByText := true, laidKinds := [.data, .pinned], laidTests := true, laidLooks := .later }
def FnExactTilesOfLayoutUptoCardSaid : Prop := Claim7.holds Tryd.pinned (.plain (OpenSpec.upto fnExactTilesOfLayoutSpec)) fnExactTilesOfLayoutUptoCard
end Rows
end Go.Proofs.YtjhbnkplpaffoaaDoor
