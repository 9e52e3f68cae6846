/-
  DERIVED. GIVEN WITH THE SEED: THE CARDS: each row of YtokkiiepddhkiaaGreatDoorRows.lean that lists a variable, with what it lists TIED to the program's text (the seventh form; the later family's looks); each row that meets fmt, with fmt's text TOLD by the authors' own Lean function (tested against real Go, not proved from fmt's source: count such statements apart). THE CARD IS WHAT COUNTS. Prove the row's statement (the work); the ties are given (YtokkiiepddhkiaaGreatDoorTie.lean); close each card by the builder's one call (the guide's Derived/Test/ToyasCard.lean, 'card_holds'). Laid BY PROGRAM, IN A SANDBOX (cutbox-door.mjs). By AI agents, Wed Nov 11 2026. No macro, syntax, notation, axiom, sorry.
-/
import Derived.Test.YtokkiiepddhkiaaGreatDoorRows
import GoSem.ClaimSeven
namespace Go.Proofs.YtokkiiepddhkiaaGreatDoor
namespace Rows

/-- THE TIED CARD OF 'laws.FnExactAllApart'. -/
def fnExactAllApartCard : Claim7 := { stood := { row := fnExactAllApartRow, standIns := [], harness := (true, "c976cf782ba3e0cc068ce792ec89e62c8321837e9fe411e4300785918764afcf"), looks := false }, kinds := [], alts := [], laidByText := true, laidKinds := [.data, .pinned], laidTests := true, laidLooks := .later }
def FnExactAllApartCardSaid : Prop := Claim7.holds Tryz.pinned (.plain (OpenSpec.ofChange fnExactAllApartSpec)) fnExactAllApartCard

/-- THE TIED CARD OF 'laws.FnExactSurePairs'. -/
def fnExactSurePairsCard : Claim7 := { stood := { row := fnExactSurePairsRow, standIns := [], harness := (true, "c976cf782ba3e0cc068ce792ec89e62c8321837e9fe411e4300785918764afcf"), looks := false }, kinds := [], alts := [], laidByText := true, laidKinds := [.data, .pinned], laidTests := true, laidLooks := .later }
def FnExactSurePairsCardSaid : Prop := Claim7.holds Tryz.pinned (.plain (OpenSpec.ofChange fnExactSurePairsSpec)) fnExactSurePairsCard

/-- THE TIED CARD OF 'laws.FnExactHandsOfTable'. -/
def fnExactHandsOfTableCard : Claim7 := { stood := { row := fnExactHandsOfTableRow, standIns := [], harness := (true, "c976cf782ba3e0cc068ce792ec89e62c8321837e9fe411e4300785918764afcf"), looks := false }, kinds := [], alts := [], laidByText := true, laidKinds := [.data, .pinned], laidTests := true, laidLooks := .later }
def FnExactHandsOfTableCardSaid : Prop := Claim7.holds Tryz.pinned (.plain (OpenSpec.ofChange fnExactHandsOfTableSpec)) fnExactHandsOfTableCard

/-- THE SECOND FORM's CARD OF 'laws.FnExactAllApart'. -/
def fnExactAllApartUptoCard : Claim7 := { stood := { row := fnExactAllApartUptoRow, standIns := [], harness := (true, "c976cf782ba3e0cc068ce792ec89e62c8321837e9fe411e4300785918764afcf"), looks := false }, kinds := [], alts := [], laidByText := true, laidKinds := [.data, .pinned], laidTests := true, laidLooks := .later }
def FnExactAllApartUptoCardSaid : Prop := Claim7.holds Tryz.pinned (.plain (OpenSpec.upto fnExactAllApartSpec)) fnExactAllApartUptoCard

/-- THE SECOND FORM's CARD OF 'laws.FnExactSurePairs'. -/
def fnExactSurePairsUptoCard : Claim7 := { stood := { row := fnExactSurePairsUptoRow, standIns := [], harness := (true, "c976cf782ba3e0cc068ce792ec89e62c8321837e9fe411e4300785918764afcf"), looks := false }, kinds := [], alts := [], laidByText := true, laidKinds := [.data, .pinned], laidTests := true, laidLooks := .later }
def FnExactSurePairsUptoCardSaid : Prop := Claim7.holds Tryz.pinned (.plain (OpenSpec.upto fnExactSurePairsSpec)) fnExactSurePairsUptoCard

/-- THE SECOND FORM's CARD OF 'laws.FnExactHandsOfTable'. -/
def fnExactHandsOfTableUptoCard : Claim7 := { stood := { row := fnExactHandsOfTableUptoRow, standIns := [], harness := (true, "c976cf782ba3e0cc068ce792ec89e62c8321837e9fe411e4300785918764afcf"), looks := false }, kinds := [], alts := [], laidByText := true, laidKinds := [.data, .pinned], laidTests := true, laidLooks := .later }
def FnExactHandsOfTableUptoCardSaid : Prop := Claim7.holds Tryz.pinned (.plain (OpenSpec.upto fnExactHandsOfTableSpec)) fnExactHandsOfTableUptoCard
end Rows
end Go.Proofs.YtokkiiepddhkiaaGreatDoor
