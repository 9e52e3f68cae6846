/-
  DERIVED. GIVEN WITH THE SEED: THE CARDS: each row of YtokkiiepddhkiaaDoorRows.lean that lists a variable, with what it lists TIED to the program's text (the seventh form; the later family's looks); each row that meets fmt, with fmt's text TOLD by the authors' own Lean function (tested against real Go, not proved from fmt's source: count such statements apart). THE CARD IS WHAT COUNTS. Prove the row's statement (the work); the ties are given (YtokkiiepddhkiaaDoorTie.lean); close each card by the builder's one call (the guide's Derived/Test/ToyasCard.lean, 'card_holds'). Laid BY PROGRAM, IN A SANDBOX (cutbox-door.mjs). By AI agents, Wed Nov 11 2026. No macro, syntax, notation, axiom, sorry.
-/
import Derived.Test.YtokkiiepddhkiaaDoorRows
import GoSem.ClaimSeven
namespace Go.Proofs.YtokkiiepddhkiaaDoor
namespace Rows

/-- THE TIED CARD OF 'laws.FnExactTurnTable'. -/
def fnExactTurnTableCard : Claim7 := { stood := { row := fnExactTurnTableRow, standIns := [], harness := (true, "0ed67daa090c429170179205f8c27302c2ba1b0440f588ce2f877aeb69dff53a"), looks := false }, kinds := [], alts := [], laidByText := true, laidKinds := [.data, .pinned], laidTests := true, laidLooks := .later }
def FnExactTurnTableCardSaid : Prop := Claim7.holds Tryd.pinned (.plain (OpenSpec.ofChange fnExactTurnTableSpec)) fnExactTurnTableCard

/-- THE TIED CARD OF 'laws.FnExactCountApart'. -/
def fnExactCountApartCard : Claim7 := { stood := { row := fnExactCountApartRow, standIns := [], harness := (true, "0ed67daa090c429170179205f8c27302c2ba1b0440f588ce2f877aeb69dff53a"), looks := false }, kinds := [], alts := [], laidByText := true, laidKinds := [.data, .pinned], laidTests := true, laidLooks := .later }
def FnExactCountApartCardSaid : Prop := Claim7.holds Tryd.pinned (.plain (OpenSpec.ofChange fnExactCountApartSpec)) fnExactCountApartCard

/-- THE TIED CARD OF 'laws.FnExactFirstApart'. -/
def fnExactFirstApartCard : Claim7 := { stood := { row := fnExactFirstApartRow, standIns := [], harness := (true, "0ed67daa090c429170179205f8c27302c2ba1b0440f588ce2f877aeb69dff53a"), looks := false }, kinds := [], alts := [], laidByText := true, laidKinds := [.data, .pinned], laidTests := true, laidLooks := .later }
def FnExactFirstApartCardSaid : Prop := Claim7.holds Tryd.pinned (.plain (OpenSpec.ofChange fnExactFirstApartSpec)) fnExactFirstApartCard

/-- THE SECOND FORM's CARD OF 'laws.FnExactTurnTable'. -/
def fnExactTurnTableUptoCard : Claim7 := { stood := { row := fnExactTurnTableUptoRow, standIns := [], harness := (true, "0ed67daa090c429170179205f8c27302c2ba1b0440f588ce2f877aeb69dff53a"), looks := false }, kinds := [], alts := [], laidByText := true, laidKinds := [.data, .pinned], laidTests := true, laidLooks := .later }
def FnExactTurnTableUptoCardSaid : Prop := Claim7.holds Tryd.pinned (.plain (OpenSpec.upto fnExactTurnTableSpec)) fnExactTurnTableUptoCard

/-- THE SECOND FORM's CARD OF 'laws.FnExactCountApart'. -/
def fnExactCountApartUptoCard : Claim7 := { stood := { row := fnExactCountApartUptoRow, standIns := [], harness := (true, "0ed67daa090c429170179205f8c27302c2ba1b0440f588ce2f877aeb69dff53a"), looks := false }, kinds := [], alts := [], laidByText := true, laidKinds := [.data, .pinned], laidTests := true, laidLooks := .later }
def FnExactCountApartUptoCardSaid : Prop := Claim7.holds Tryd.pinned (.plain (OpenSpec.upto fnExactCountApartSpec)) fnExactCountApartUptoCard

/-- THE SECOND FORM's CARD OF 'laws.FnExactFirstApart'. -/
def fnExactFirstApartUptoCard : Claim7 := { stood := { row := fnExactFirstApartUptoRow, standIns := [], harness := (true, "0ed67daa090c429170179205f8c27302c2ba1b0440f588ce2f877aeb69dff53a"), looks := false }, kinds := [], alts := [], laidByText := true, laidKinds := [.data, .pinned], laidTests := true, laidLooks := .later }
def FnExactFirstApartUptoCardSaid : Prop := Claim7.holds Tryd.pinned (.plain (OpenSpec.upto fnExactFirstApartSpec)) fnExactFirstApartUptoCard
end Rows
end Go.Proofs.YtokkiiepddhkiaaDoor
