/-
  NARROWER THAN 'FOR EVERY INPUT', by the rows' own cells (each row's printed sentence says how): FnExactIsTable: laid · FnExactTableSize: laid · FnExactCountNumber: laid · FnExactMirrorTable: laid · FnExactTurnTable: laid · FnExactIsLayout: laid · FnExactPlacesOfTile: laid · FnExactTilesOfLayout: laid.
  DERIVED. THE GIVEN ROWS OF THIS SEAT. 8 by the template 'for every input the law returns true; each argument reads behind the call as it read before'; 0 by the template 'total and deterministic' (their statements: YtjhbnkplpaffoaaDoorTotals.lean).
  GIVEN WITH THE SEED: the statements are not yours to turn. If you find one false, say at which input.
  Laid BY PROGRAM, IN A SANDBOX (cutbox-rows.mjs): the forced cells as the released guide's own fill.sh prints them over the translation 9b77d437757c7dad… (all of the seat's roots in one cut). By AI agents, Wed Nov 11 2026. No macro, syntax, notation, axiom, sorry.
-/
import Derived.Test.YtjhbnkplpaffoaaDoorChecked
import GoSem.PinnedTables
import GoSem.Claim
import GoSem.ClaimJoined
import GoSem.ClaimMapViews
import Derived.JoinedTies
import Derived.KernelRfl
namespace Go.Proofs.YtjhbnkplpaffoaaDoor
/- THE CELL 'sum', in the pinned program and in every row, IS THE sha256 OF THE DUMP (.gsa) THAT YtjhbnkplpaffoaaDoorProg.lean LOADS. Nothing in Lean hashes anything: it is a label: what it is worth is what the hold of that sum in a sandbox is worth. -/
noncomputable def Tryd.pinned : Pinned := { name := "ytjhbnkplpaffoaadoor", sum := "9b77d437757c7dade3260cc2eee35c924a13d73f066824e5f27e0a729df348a7", checked := Tryd.checked }
namespace Rows
def none {H : Type} : Left H := { results := [], args := [] }

/- WHAT THE LISTED PACKAGE-LEVEL VARIABLES READ AS WHEN THE CALL BEGINS. Each datum BY PROGRAM (the guide's laid-datum.mjs) off the statement by which the dump's own 'gosem.cut.vars' lays the variable. In a bare row this is a premise. The card (YtjhbnkplpaffoaaDoorCards.lean) ties it to the program's text. -/
def laid_unicode_utf8_acceptRanges {H : Type} : DataW H := .agg [.agg [.lit (.int .u8 128), .lit (.int .u8 191)], .agg [.lit (.int .u8 160), .lit (.int .u8 191)], .agg [.lit (.int .u8 128), .lit (.int .u8 159)], .agg [.lit (.int .u8 144), .lit (.int .u8 191)], .agg [.lit (.int .u8 128), .lit (.int .u8 143)], .agg [.lit (.int .u8 0), .lit (.int .u8 0)], .agg [.lit (.int .u8 0), .lit (.int .u8 0)], .agg [.lit (.int .u8 0), .lit (.int .u8 0)], .agg [.lit (.int .u8 0), .lit (.int .u8 0)], .agg [.lit (.int .u8 0), .lit (.int .u8 0)], .agg [.lit (.int .u8 0), .lit (.int .u8 0)], .agg [.lit (.int .u8 0), .lit (.int .u8 0)], .agg [.lit (.int .u8 0), .lit (.int .u8 0)], .agg [.lit (.int .u8 0), .lit (.int .u8 0)], .agg [.lit (.int .u8 0), .lit (.int .u8 0)], .agg [.lit (.int .u8 0), .lit (.int .u8 0)]]
/-- One of Go's own tables, pinned by name: the form's constant. -/
def laid_unicode_utf8_first : DataW Unit := Go.Pinned.utf8First

/-- 'laws.FnExactIsTable': WHATEVER THE INPUT: true; the input reads as it did. -/
def fnExactIsTableSpec : ChangeSpec := { name := "fnExactIsTable", fn := fun _ => fun
  | [d] => { results := [.lit (.bool true)], args := [d] }
  | _ => none }
def fnExactIsTableRow : OpenClaim := { program := "ytjhbnkplpaffoaadoor", sum := "9b77d437757c7dade3260cc2eee35c924a13d73f066824e5f27e0a729df348a7", func := "loop.example/g01216/laws.FnExactIsTable", spec := "fnExactIsTable", inPlace := ["internal/bytealg.CountString", "internal/bytealg.IndexByteString", "internal/bytealg.IndexString"], named := ["unicode/utf8.first", "unicode/utf8.acceptRanges", "internal/bytealg.MaxLen"], apart := false, laid := [("unicode/utf8.acceptRanges", laid_unicode_utf8_acceptRanges), ("unicode/utf8.first", laid_unicode_utf8_first)] }
def FnExactIsTableSaid : Prop := fnExactIsTableRow.holds Tryd.pinned (OpenSpec.ofChange fnExactIsTableSpec)

/-- ITS FALSE NEIGHBOUR: 'it returns false'. Refute it at one input. -/
def fnExactIsTableWrong : ChangeSpec := { name := "fnExactIsTable", fn := fun _ => fun
  | [d] => { results := [.lit (.bool false)], args := [d] }
  | _ => none }
def FnExactIsTableWrongFalsely : Prop := fnExactIsTableRow.holds Tryd.pinned (OpenSpec.ofChange fnExactIsTableWrong)

/-- 'laws.FnExactTableSize': WHATEVER THE INPUT: true; the input reads as it did. -/
def fnExactTableSizeSpec : ChangeSpec := { name := "fnExactTableSize", fn := fun _ => fun
  | [d] => { results := [.lit (.bool true)], args := [d] }
  | _ => none }
def fnExactTableSizeRow : OpenClaim := { program := "ytjhbnkplpaffoaadoor", sum := "9b77d437757c7dade3260cc2eee35c924a13d73f066824e5f27e0a729df348a7", func := "loop.example/g01216/laws.FnExactTableSize", spec := "fnExactTableSize", inPlace := ["internal/bytealg.CountString", "internal/bytealg.IndexByteString", "internal/bytealg.IndexString"], named := ["unicode/utf8.first", "unicode/utf8.acceptRanges", "internal/bytealg.MaxLen"], apart := false, laid := [("unicode/utf8.acceptRanges", laid_unicode_utf8_acceptRanges), ("unicode/utf8.first", laid_unicode_utf8_first)] }
def FnExactTableSizeSaid : Prop := fnExactTableSizeRow.holds Tryd.pinned (OpenSpec.ofChange fnExactTableSizeSpec)

/-- ITS FALSE NEIGHBOUR: 'it returns false'. Refute it at one input. -/
def fnExactTableSizeWrong : ChangeSpec := { name := "fnExactTableSize", fn := fun _ => fun
  | [d] => { results := [.lit (.bool false)], args := [d] }
  | _ => none }
def FnExactTableSizeWrongFalsely : Prop := fnExactTableSizeRow.holds Tryd.pinned (OpenSpec.ofChange fnExactTableSizeWrong)

/-- 'laws.FnExactCountNumber': WHATEVER THE INPUT: true; the input reads as it did. -/
def fnExactCountNumberSpec : ChangeSpec := { name := "fnExactCountNumber", fn := fun _ => fun
  | [d1, d2] => { results := [.lit (.bool true)], args := [d1, d2] }
  | _ => none }
def fnExactCountNumberRow : OpenClaim := { program := "ytjhbnkplpaffoaadoor", sum := "9b77d437757c7dade3260cc2eee35c924a13d73f066824e5f27e0a729df348a7", func := "loop.example/g01216/laws.FnExactCountNumber", spec := "fnExactCountNumber", inPlace := ["internal/bytealg.CountString", "internal/bytealg.IndexByteString", "internal/bytealg.IndexString"], named := ["unicode/utf8.first", "unicode/utf8.acceptRanges", "internal/bytealg.MaxLen"], apart := false, laid := [("unicode/utf8.acceptRanges", laid_unicode_utf8_acceptRanges), ("unicode/utf8.first", laid_unicode_utf8_first)] }
def FnExactCountNumberSaid : Prop := fnExactCountNumberRow.holds Tryd.pinned (OpenSpec.ofChange fnExactCountNumberSpec)

/-- ITS FALSE NEIGHBOUR: 'it returns false'. Refute it at one input. -/
def fnExactCountNumberWrong : ChangeSpec := { name := "fnExactCountNumber", fn := fun _ => fun
  | [d1, d2] => { results := [.lit (.bool false)], args := [d1, d2] }
  | _ => none }
def FnExactCountNumberWrongFalsely : Prop := fnExactCountNumberRow.holds Tryd.pinned (OpenSpec.ofChange fnExactCountNumberWrong)

/-- 'laws.FnExactMirrorTable': WHATEVER THE INPUT: true; the input reads as it did. -/
def fnExactMirrorTableSpec : ChangeSpec := { name := "fnExactMirrorTable", fn := fun _ => fun
  | [d] => { results := [.lit (.bool true)], args := [d] }
  | _ => none }
def fnExactMirrorTableRow : OpenClaim := { program := "ytjhbnkplpaffoaadoor", sum := "9b77d437757c7dade3260cc2eee35c924a13d73f066824e5f27e0a729df348a7", func := "loop.example/g01216/laws.FnExactMirrorTable", spec := "fnExactMirrorTable", inPlace := ["internal/bytealg.CountString", "internal/bytealg.IndexByteString", "internal/bytealg.IndexString", "internal/abi.NoEscape", "internal/bytealg.MakeNoZero"], recurses := true, named := ["unicode/utf8.first", "unicode/utf8.acceptRanges", "internal/bytealg.MaxLen"], apart := false, laid := [("unicode/utf8.acceptRanges", laid_unicode_utf8_acceptRanges), ("unicode/utf8.first", laid_unicode_utf8_first)] }
def FnExactMirrorTableSaid : Prop := fnExactMirrorTableRow.holds Tryd.pinned (OpenSpec.ofChange fnExactMirrorTableSpec)

/-- ITS FALSE NEIGHBOUR: 'it returns false'. Refute it at one input. -/
def fnExactMirrorTableWrong : ChangeSpec := { name := "fnExactMirrorTable", fn := fun _ => fun
  | [d] => { results := [.lit (.bool false)], args := [d] }
  | _ => none }
def FnExactMirrorTableWrongFalsely : Prop := fnExactMirrorTableRow.holds Tryd.pinned (OpenSpec.ofChange fnExactMirrorTableWrong)

/-- 'laws.FnExactTurnTable': WHATEVER THE INPUT: true; the input reads as it did. -/
def fnExactTurnTableSpec : ChangeSpec := { name := "fnExactTurnTable", fn := fun _ => fun
  | [d] => { results := [.lit (.bool true)], args := [d] }
  | _ => none }
def fnExactTurnTableRow : OpenClaim := { program := "ytjhbnkplpaffoaadoor", sum := "9b77d437757c7dade3260cc2eee35c924a13d73f066824e5f27e0a729df348a7", func := "loop.example/g01216/laws.FnExactTurnTable", spec := "fnExactTurnTable", inPlace := ["internal/bytealg.CountString", "internal/bytealg.IndexByteString", "internal/bytealg.IndexString", "internal/abi.NoEscape", "internal/bytealg.MakeNoZero"], unfollowed := true, recurses := true, named := ["unicode/utf8.first", "unicode/utf8.acceptRanges", "internal/bytealg.MaxLen"], apart := false, laid := [("unicode/utf8.acceptRanges", laid_unicode_utf8_acceptRanges), ("unicode/utf8.first", laid_unicode_utf8_first)] }
def FnExactTurnTableSaid : Prop := fnExactTurnTableRow.holds Tryd.pinned (OpenSpec.ofChange fnExactTurnTableSpec)

/-- ITS FALSE NEIGHBOUR: 'it returns false'. Refute it at one input. -/
def fnExactTurnTableWrong : ChangeSpec := { name := "fnExactTurnTable", fn := fun _ => fun
  | [d] => { results := [.lit (.bool false)], args := [d] }
  | _ => none }
def FnExactTurnTableWrongFalsely : Prop := fnExactTurnTableRow.holds Tryd.pinned (OpenSpec.ofChange fnExactTurnTableWrong)

/-- 'laws.FnExactIsLayout': WHATEVER THE INPUT: true; the input reads as it did. -/
def fnExactIsLayoutSpec : ChangeSpec := { name := "fnExactIsLayout", fn := fun _ => fun
  | [d1, d2] => { results := [.lit (.bool true)], args := [d1, d2] }
  | _ => none }
def fnExactIsLayoutRow : OpenClaim := { program := "ytjhbnkplpaffoaadoor", sum := "9b77d437757c7dade3260cc2eee35c924a13d73f066824e5f27e0a729df348a7", func := "loop.example/g01216/laws.FnExactIsLayout", spec := "fnExactIsLayout", inPlace := ["internal/bytealg.CountString", "internal/bytealg.IndexByteString", "internal/bytealg.IndexString", "internal/abi.NoEscape", "internal/bytealg.MakeNoZero"], named := ["unicode/utf8.first", "unicode/utf8.acceptRanges", "internal/bytealg.MaxLen"], apart := false, laid := [("unicode/utf8.acceptRanges", laid_unicode_utf8_acceptRanges), ("unicode/utf8.first", laid_unicode_utf8_first)] }
def FnExactIsLayoutSaid : Prop := fnExactIsLayoutRow.holds Tryd.pinned (OpenSpec.ofChange fnExactIsLayoutSpec)

/-- ITS FALSE NEIGHBOUR: 'it returns false'. Refute it at one input. -/
def fnExactIsLayoutWrong : ChangeSpec := { name := "fnExactIsLayout", fn := fun _ => fun
  | [d1, d2] => { results := [.lit (.bool false)], args := [d1, d2] }
  | _ => none }
def FnExactIsLayoutWrongFalsely : Prop := fnExactIsLayoutRow.holds Tryd.pinned (OpenSpec.ofChange fnExactIsLayoutWrong)

/-- 'laws.FnExactPlacesOfTile': WHATEVER THE INPUT: true; the input reads as it did. -/
def fnExactPlacesOfTileSpec : ChangeSpec := { name := "fnExactPlacesOfTile", fn := fun _ => fun
  | [d1, d2] => { results := [.lit (.bool true)], args := [d1, d2] }
  | _ => none }
def fnExactPlacesOfTileRow : OpenClaim := { program := "ytjhbnkplpaffoaadoor", sum := "9b77d437757c7dade3260cc2eee35c924a13d73f066824e5f27e0a729df348a7", func := "loop.example/g01216/laws.FnExactPlacesOfTile", spec := "fnExactPlacesOfTile", inPlace := ["internal/bytealg.CountString", "internal/bytealg.IndexByteString", "internal/bytealg.IndexString", "internal/abi.NoEscape", "internal/bytealg.MakeNoZero"], named := ["unicode/utf8.first", "unicode/utf8.acceptRanges", "internal/bytealg.MaxLen"], apart := false, laid := [("unicode/utf8.acceptRanges", laid_unicode_utf8_acceptRanges), ("unicode/utf8.first", laid_unicode_utf8_first)] }
def FnExactPlacesOfTileSaid : Prop := fnExactPlacesOfTileRow.holds Tryd.pinned (OpenSpec.ofChange fnExactPlacesOfTileSpec)

/-- ITS FALSE NEIGHBOUR: 'it returns false'. Refute it at one input. -/
def fnExactPlacesOfTileWrong : ChangeSpec := { name := "fnExactPlacesOfTile", fn := fun _ => fun
  | [d1, d2] => { results := [.lit (.bool false)], args := [d1, d2] }
  | _ => none }
def FnExactPlacesOfTileWrongFalsely : Prop := fnExactPlacesOfTileRow.holds Tryd.pinned (OpenSpec.ofChange fnExactPlacesOfTileWrong)

/-- 'laws.FnExactTilesOfLayout': WHATEVER THE INPUT: true; the input reads as it did. -/
def fnExactTilesOfLayoutSpec : ChangeSpec := { name := "fnExactTilesOfLayout", fn := fun _ => fun
  | [d1, d2] => { results := [.lit (.bool true)], args := [d1, d2] }
  | _ => none }
def fnExactTilesOfLayoutRow : OpenClaim := { program := "ytjhbnkplpaffoaadoor", sum := "9b77d437757c7dade3260cc2eee35c924a13d73f066824e5f27e0a729df348a7", func := "loop.example/g01216/laws.FnExactTilesOfLayout", spec := "fnExactTilesOfLayout", inPlace := ["internal/bytealg.CountString", "internal/bytealg.IndexByteString", "internal/bytealg.IndexString", "internal/abi.NoEscape", "internal/bytealg.MakeNoZero"], named := ["unicode/utf8.first", "unicode/utf8.acceptRanges", "internal/bytealg.MaxLen"], apart := false, laid := [("unicode/utf8.acceptRanges", laid_unicode_utf8_acceptRanges), ("unicode/utf8.first", laid_unicode_utf8_first)] }
def FnExactTilesOfLayoutSaid : Prop := fnExactTilesOfLayoutRow.holds Tryd.pinned (OpenSpec.ofChange fnExactTilesOfLayoutSpec)

/-- ITS FALSE NEIGHBOUR: 'it returns false'. Refute it at one input. -/
def fnExactTilesOfLayoutWrong : ChangeSpec := { name := "fnExactTilesOfLayout", fn := fun _ => fun
  | [d1, d2] => { results := [.lit (.bool false)], args := [d1, d2] }
  | _ => none }
def FnExactTilesOfLayoutWrongFalsely : Prop := fnExactTilesOfLayoutRow.holds Tryd.pinned (OpenSpec.ofChange fnExactTilesOfLayoutWrong)

/- THE SECOND FORM. 'bulk': how many values and letters a reading holds, each counted each time it is reached (what is shared counts as often as it is met; a slice's spare places count too). A statement '..UptoSaid' is the law's where the arguments, and the package variables that the reading takes, are together of bulk at most 1048576: NARROWER than '..Said'. Prove '..Said' where nothing that the law and all that it calls make is longer than what came in: it says more and counts as full. Else prove '..UptoSaid'. A law counts once. -/
mutual
def uptoBulk {H : Type} : DataW H → Nat
  | .lit (.string bytes) => bytes.length + 1
  | .lit _ => 1
  | .nil => 1
  | .ptr d => uptoBulk d + 1
  | .slice elems spare => uptoBulkAll elems + uptoBulkAll spare + 1
  | .agg parts => uptoBulkAll parts + 1
  | .iface _ d => uptoBulk d + 1
  | .map entries => uptoBulkEntries entries + 1
  | .held _ => 1
def uptoBulkAll {H : Type} : List (DataW H) → Nat
  | [] => 0
  | d :: r => uptoBulk d + uptoBulkAll r
def uptoBulkEntries {H : Type} : List (Lit × DataW H) → Nat
  | [] => 0
  | x :: r => uptoBulkEntry x + uptoBulkEntries r
def uptoBulkEntry {H : Type} : Lit × DataW H → Nat
  | (.string bytes, d) => bytes.length + uptoBulk d + 1
  | (_, d) => uptoBulk d + 1
 end
def uptoSmall : (H : Type) → List (DataW H) → Bool := fun _ ds => decide (uptoBulkAll ds ≤ 1048576)
def OpenSpec.upto (s : _root_.Go.ChangeSpec) : _root_.Go.OpenSpec := { _root_.Go.OpenSpec.ofChange s with cond := some uptoSmall }

/-- 'laws.FnExactIsTable', WHERE WHAT IT READS IS OF BULK AT MOST 1048576: true; the input reads as it did. -/
def fnExactIsTableUptoRow : OpenClaim := { program := "ytjhbnkplpaffoaadoor", sum := "9b77d437757c7dade3260cc2eee35c924a13d73f066824e5f27e0a729df348a7", func := "loop.example/g01216/laws.FnExactIsTable", spec := "fnExactIsTable", inPlace := ["internal/bytealg.CountString", "internal/bytealg.IndexByteString", "internal/bytealg.IndexString"], named := ["unicode/utf8.first", "unicode/utf8.acceptRanges", "internal/bytealg.MaxLen"], apart := false, laid := [("unicode/utf8.acceptRanges", laid_unicode_utf8_acceptRanges), ("unicode/utf8.first", laid_unicode_utf8_first)], narrowed := true }
def FnExactIsTableUptoSaid : Prop := fnExactIsTableUptoRow.holds Tryd.pinned (OpenSpec.upto fnExactIsTableSpec)

/-- 'laws.FnExactTableSize', WHERE WHAT IT READS IS OF BULK AT MOST 1048576: true; the input reads as it did. -/
def fnExactTableSizeUptoRow : OpenClaim := { program := "ytjhbnkplpaffoaadoor", sum := "9b77d437757c7dade3260cc2eee35c924a13d73f066824e5f27e0a729df348a7", func := "loop.example/g01216/laws.FnExactTableSize", spec := "fnExactTableSize", inPlace := ["internal/bytealg.CountString", "internal/bytealg.IndexByteString", "internal/bytealg.IndexString"], named := ["unicode/utf8.first", "unicode/utf8.acceptRanges", "internal/bytealg.MaxLen"], apart := false, laid := [("unicode/utf8.acceptRanges", laid_unicode_utf8_acceptRanges), ("unicode/utf8.first", laid_unicode_utf8_first)], narrowed := true }
def FnExactTableSizeUptoSaid : Prop := fnExactTableSizeUptoRow.holds Tryd.pinned (OpenSpec.upto fnExactTableSizeSpec)

/-- 'laws.FnExactCountNumber', WHERE WHAT IT READS IS OF BULK AT MOST 1048576: true; the input reads as it did. -/
def fnExactCountNumberUptoRow : OpenClaim := { program := "ytjhbnkplpaffoaadoor", sum := "9b77d437757c7dade3260cc2eee35c924a13d73f066824e5f27e0a729df348a7", func := "loop.example/g01216/laws.FnExactCountNumber", spec := "fnExactCountNumber", inPlace := ["internal/bytealg.CountString", "internal/bytealg.IndexByteString", "internal/bytealg.IndexString"], named := ["unicode/utf8.first", "unicode/utf8.acceptRanges", "internal/bytealg.MaxLen"], apart := false, laid := [("unicode/utf8.acceptRanges", laid_unicode_utf8_acceptRanges), ("unicode/utf8.first", laid_unicode_utf8_first)], narrowed := true }
def FnExactCountNumberUptoSaid : Prop := fnExactCountNumberUptoRow.holds Tryd.pinned (OpenSpec.upto fnExactCountNumberSpec)

/-- 'laws.FnExactMirrorTable', WHERE WHAT IT READS IS OF BULK AT MOST 1048576: true; the input reads as it did. -/
def fnExactMirrorTableUptoRow : OpenClaim := { program := "ytjhbnkplpaffoaadoor", sum := "9b77d437757c7dade3260cc2eee35c924a13d73f066824e5f27e0a729df348a7", func := "loop.example/g01216/laws.FnExactMirrorTable", spec := "fnExactMirrorTable", inPlace := ["internal/bytealg.CountString", "internal/bytealg.IndexByteString", "internal/bytealg.IndexString", "internal/abi.NoEscape", "internal/bytealg.MakeNoZero"], recurses := true, named := ["unicode/utf8.first", "unicode/utf8.acceptRanges", "internal/bytealg.MaxLen"], apart := false, laid := [("unicode/utf8.acceptRanges", laid_unicode_utf8_acceptRanges), ("unicode/utf8.first", laid_unicode_utf8_first)], narrowed := true }
def FnExactMirrorTableUptoSaid : Prop := fnExactMirrorTableUptoRow.holds Tryd.pinned (OpenSpec.upto fnExactMirrorTableSpec)

/-- 'laws.FnExactTurnTable', WHERE WHAT IT READS IS OF BULK AT MOST 1048576: true; the input reads as it did. -/
def fnExactTurnTableUptoRow : OpenClaim := { program := "ytjhbnkplpaffoaadoor", sum := "9b77d437757c7dade3260cc2eee35c924a13d73f066824e5f27e0a729df348a7", func := "loop.example/g01216/laws.FnExactTurnTable", spec := "fnExactTurnTable", inPlace := ["internal/bytealg.CountString", "internal/bytealg.IndexByteString", "internal/bytealg.IndexString", "internal/abi.NoEscape", "internal/bytealg.MakeNoZero"], unfollowed := true, recurses := true, named := ["unicode/utf8.first", "unicode/utf8.acceptRanges", "internal/bytealg.MaxLen"], apart := false, laid := [("unicode/utf8.acceptRanges", laid_unicode_utf8_acceptRanges), ("unicode/utf8.first", laid_unicode_utf8_first)], narrowed := true }
def FnExactTurnTableUptoSaid : Prop := fnExactTurnTableUptoRow.holds Tryd.pinned (OpenSpec.upto fnExactTurnTableSpec)

/-- 'laws.FnExactIsLayout', WHERE WHAT IT READS IS OF BULK AT MOST 1048576: true; the input reads as it did. -/
def fnExactIsLayoutUptoRow : OpenClaim := { program := "ytjhbnkplpaffoaadoor", sum := "9b77d437757c7dade3260cc2eee35c924a13d73f066824e5f27e0a729df348a7", func := "loop.example/g01216/laws.FnExactIsLayout", spec := "fnExactIsLayout", inPlace := ["internal/bytealg.CountString", "internal/bytealg.IndexByteString", "internal/bytealg.IndexString", "internal/abi.NoEscape", "internal/bytealg.MakeNoZero"], named := ["unicode/utf8.first", "unicode/utf8.acceptRanges", "internal/bytealg.MaxLen"], apart := false, laid := [("unicode/utf8.acceptRanges", laid_unicode_utf8_acceptRanges), ("unicode/utf8.first", laid_unicode_utf8_first)], narrowed := true }
def FnExactIsLayoutUptoSaid : Prop := fnExactIsLayoutUptoRow.holds Tryd.pinned (OpenSpec.upto fnExactIsLayoutSpec)

/-- 'laws.FnExactPlacesOfTile', WHERE WHAT IT READS IS OF BULK AT MOST 1048576: true; the input reads as it did. -/
def fnExactPlacesOfTileUptoRow : OpenClaim := { program := "ytjhbnkplpaffoaadoor", sum := "9b77d437757c7dade3260cc2eee35c924a13d73f066824e5f27e0a729df348a7", func := "loop.example/g01216/laws.FnExactPlacesOfTile", spec := "fnExactPlacesOfTile", inPlace := ["internal/bytealg.CountString", "internal/bytealg.IndexByteString", "internal/bytealg.IndexString", "internal/abi.NoEscape", "internal/bytealg.MakeNoZero"], named := ["unicode/utf8.first", "unicode/utf8.acceptRanges", "internal/bytealg.MaxLen"], apart := false, laid := [("unicode/utf8.acceptRanges", laid_unicode_utf8_acceptRanges), ("unicode/utf8.first", laid_unicode_utf8_first)], narrowed := true }
def FnExactPlacesOfTileUptoSaid : Prop := fnExactPlacesOfTileUptoRow.holds Tryd.pinned (OpenSpec.upto fnExactPlacesOfTileSpec)

/-- 'laws.FnExactTilesOfLayout', WHERE WHAT IT READS IS OF BULK AT MOST 1048576: true; the input reads as it did. -/
def fnExactTilesOfLayoutUptoRow : OpenClaim := { program := "ytjhbnkplpaffoaadoor", sum := "9b77d437757c7dade3260cc2eee35c924a13d73f066824e5f27e0a729df348a7", func := "loop.example/g01216/laws.FnExactTilesOfLayout", spec := "fnExactTilesOfLayout", inPlace := ["internal/bytealg.CountString", "internal/bytealg.IndexByteString", "internal/bytealg.IndexString", "internal/abi.NoEscape", "internal/bytealg.MakeNoZero"], named := ["unicode/utf8.first", "unicode/utf8.acceptRanges", "internal/bytealg.MaxLen"], apart := false, laid := [("unicode/utf8.acceptRanges", laid_unicode_utf8_acceptRanges), ("unicode/utf8.first", laid_unicode_utf8_first)], narrowed := true }
def FnExactTilesOfLayoutUptoSaid : Prop := fnExactTilesOfLayoutUptoRow.holds Tryd.pinned (OpenSpec.upto fnExactTilesOfLayoutSpec)

end Rows
end Go.Proofs.YtjhbnkplpaffoaaDoor
