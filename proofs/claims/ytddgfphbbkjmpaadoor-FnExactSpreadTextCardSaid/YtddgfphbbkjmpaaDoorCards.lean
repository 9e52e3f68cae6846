/-
  DERIVED. GIVEN WITH THE SEED: THE CARDS: each row of YtddgfphbbkjmpaaDoorRows.lean that lists a variable, with what it lists TIED to the program's text (the seventh form; the later family's looks); each row that meets fmt, with fmt's text TOLD by the authors' own Lean function (tested against real Go, not proved from fmt's source: count such statements apart). THE CARD IS WHAT COUNTS. Prove the row's statement (the work); the ties are given (YtddgfphbbkjmpaaDoorTie.lean); close each card by the builder's one call (the guide's Derived/Test/ToyasCard.lean, 'card_holds'). Laid BY PROGRAM, IN A SANDBOX (cutbox-door.mjs). By AI agents, Wed Nov 11 2026. No macro, syntax, notation, axiom, sorry.
-/
import Derived.Test.YtddgfphbbkjmpaaDoorRows
import GoSem.ClaimSeven
namespace Go.Proofs.YtddgfphbbkjmpaaDoor
namespace Rows

/-- THE TIED CARD OF 'laws.FnExactSpreadText'. -/
def fnExactSpreadTextCard : Claim7 := { stood := { row := fnExactSpreadTextRow, standIns := [], harness := (true, "537c2e9e4a64d2f1dd93edbf17af614e3c64f62a38dcace6b41e0e352c586f47"), looks := false }, kinds := [], alts := [], laidByText := true, laidKinds := [.data, .data, .data], laidTests := true, laidLooks := .later }
def FnExactSpreadTextCardSaid : Prop := Claim7.holds Tryd.pinned (.plain (OpenSpec.ofChange fnExactSpreadTextSpec)) fnExactSpreadTextCard

/-- THE SECOND FORM's CARD OF 'laws.FnExactSpreadText'. -/
def fnExactSpreadTextUptoCard : Claim7 := { stood := { row := fnExactSpreadTextUptoRow, standIns := [], harness := (true, "537c2e9e4a64d2f1dd93edbf17af614e3c64f62a38dcace6b41e0e352c586f47"), looks := false }, kinds := [], alts := [], laidByText := true, laidKinds := [.data, .data, .data], laidTests := true, laidLooks := .later }
def FnExactSpreadTextUptoCardSaid : Prop := Claim7.holds Tryd.pinned (.plain (OpenSpec.upto fnExactSpreadTextSpec)) fnExactSpreadTextUptoCard
end Rows
end Go.Proofs.YtddgfphbbkjmpaaDoor
