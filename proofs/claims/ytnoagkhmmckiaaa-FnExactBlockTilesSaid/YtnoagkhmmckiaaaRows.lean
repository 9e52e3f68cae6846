/-
  No cell of these rows narrows 'for every input' (looked for: loops, veiled, ifaces, maps, wideKeys, modest, calm, conditions, laid).
  DERIVED. THE GIVEN ROWS OF THIS SEAT. 12 by the template 'for every input the law returns true; each argument reads behind the call as it read before'; 0 by the template 'total and deterministic' (their statements: YtnoagkhmmckiaaaTotals.lean).
  GIVEN WITH THE SEED: the statements are not yours to turn. If you find one false, say at which input.
  Laid BY PROGRAM, IN A SANDBOX (cutbox-rows.mjs): the forced cells as the released guide's own fill.sh prints them over the translation a85dd6d27e3e4938… (all of the seat's roots in one cut). By AI agents, Wed Nov 11 2026. No macro, syntax, notation, axiom, sorry.
-/
import Derived.Test.YtnoagkhmmckiaaaChecked
import GoSem.Claim
import GoSem.ClaimJoined
import GoSem.ClaimMapViews
import Derived.JoinedTies
import Derived.KernelRfl
namespace Go.Proofs.Ytnoagkhmmckiaaa
/- THE CELL 'sum', in the pinned program and in every row, IS THE sha256 OF THE DUMP (.gsa) THAT YtnoagkhmmckiaaaProg.lean LOADS. Nothing in Lean hashes anything: it is a label: what it is worth is what the hold of that sum in a sandbox is worth. -/
noncomputable def Try.pinned : Pinned := { name := "ytnoagkhmmckiaaa", sum := "a85dd6d27e3e493885bcd422b030d17565efa9e7c9c8d1cee6d4ada827b93dff", checked := Try.checked }
namespace Rows
def none {H : Type} : Left H := { results := [], args := [] }

/-- 'laws.FnExactIsWindow': WHATEVER THE INPUT: true; the input reads as it did. -/
def fnExactIsWindowSpec : ChangeSpec := { name := "fnExactIsWindow", fn := fun _ => fun
  | [d] => { results := [.lit (.bool true)], args := [d] }
  | _ => none }
def fnExactIsWindowRow : OpenClaim := { program := "ytnoagkhmmckiaaa", sum := "a85dd6d27e3e493885bcd422b030d17565efa9e7c9c8d1cee6d4ada827b93dff", func := "loop.example/g01216/laws.FnExactIsWindow", spec := "fnExactIsWindow", unfollowed := true, recurses := true, apart := false }
def FnExactIsWindowSaid : Prop := fnExactIsWindowRow.holds Try.pinned (OpenSpec.ofChange fnExactIsWindowSpec)

/-- ITS FALSE NEIGHBOUR: 'it returns false'. Refute it at one input. -/
def fnExactIsWindowWrong : ChangeSpec := { name := "fnExactIsWindow", fn := fun _ => fun
  | [d] => { results := [.lit (.bool false)], args := [d] }
  | _ => none }
def FnExactIsWindowWrongFalsely : Prop := fnExactIsWindowRow.holds Try.pinned (OpenSpec.ofChange fnExactIsWindowWrong)

/-- 'laws.FnExactMirrorWindow': WHATEVER THE INPUT: true; the input reads as it did. -/
def fnExactMirrorWindowSpec : ChangeSpec := { name := "fnExactMirrorWindow", fn := fun _ => fun
  | [d] => { results := [.lit (.bool true)], args := [d] }
  | _ => none }
def fnExactMirrorWindowRow : OpenClaim := { program := "ytnoagkhmmckiaaa", sum := "a85dd6d27e3e493885bcd422b030d17565efa9e7c9c8d1cee6d4ada827b93dff", func := "loop.example/g01216/laws.FnExactMirrorWindow", spec := "fnExactMirrorWindow", unfollowed := true, recurses := true, apart := false }
def FnExactMirrorWindowSaid : Prop := fnExactMirrorWindowRow.holds Try.pinned (OpenSpec.ofChange fnExactMirrorWindowSpec)

/-- ITS FALSE NEIGHBOUR: 'it returns false'. Refute it at one input. -/
def fnExactMirrorWindowWrong : ChangeSpec := { name := "fnExactMirrorWindow", fn := fun _ => fun
  | [d] => { results := [.lit (.bool false)], args := [d] }
  | _ => none }
def FnExactMirrorWindowWrongFalsely : Prop := fnExactMirrorWindowRow.holds Try.pinned (OpenSpec.ofChange fnExactMirrorWindowWrong)

/-- 'laws.FnExactComplementWindow': WHATEVER THE INPUT: true; the input reads as it did. -/
def fnExactComplementWindowSpec : ChangeSpec := { name := "fnExactComplementWindow", fn := fun _ => fun
  | [d1, d2] => { results := [.lit (.bool true)], args := [d1, d2] }
  | _ => none }
def fnExactComplementWindowRow : OpenClaim := { program := "ytnoagkhmmckiaaa", sum := "a85dd6d27e3e493885bcd422b030d17565efa9e7c9c8d1cee6d4ada827b93dff", func := "loop.example/g01216/laws.FnExactComplementWindow", spec := "fnExactComplementWindow", unfollowed := true, recurses := true, apart := false }
def FnExactComplementWindowSaid : Prop := fnExactComplementWindowRow.holds Try.pinned (OpenSpec.ofChange fnExactComplementWindowSpec)

/-- ITS FALSE NEIGHBOUR: 'it returns false'. Refute it at one input. -/
def fnExactComplementWindowWrong : ChangeSpec := { name := "fnExactComplementWindow", fn := fun _ => fun
  | [d1, d2] => { results := [.lit (.bool false)], args := [d1, d2] }
  | _ => none }
def FnExactComplementWindowWrongFalsely : Prop := fnExactComplementWindowRow.holds Try.pinned (OpenSpec.ofChange fnExactComplementWindowWrong)

/-- 'laws.FnExactSidesOfWindow': WHATEVER THE INPUT: true; the input reads as it did. -/
def fnExactSidesOfWindowSpec : ChangeSpec := { name := "fnExactSidesOfWindow", fn := fun _ => fun
  | [d] => { results := [.lit (.bool true)], args := [d] }
  | _ => none }
def fnExactSidesOfWindowRow : OpenClaim := { program := "ytnoagkhmmckiaaa", sum := "a85dd6d27e3e493885bcd422b030d17565efa9e7c9c8d1cee6d4ada827b93dff", func := "loop.example/g01216/laws.FnExactSidesOfWindow", spec := "fnExactSidesOfWindow", unfollowed := true, recurses := true, apart := false }
def FnExactSidesOfWindowSaid : Prop := fnExactSidesOfWindowRow.holds Try.pinned (OpenSpec.ofChange fnExactSidesOfWindowSpec)

/-- ITS FALSE NEIGHBOUR: 'it returns false'. Refute it at one input. -/
def fnExactSidesOfWindowWrong : ChangeSpec := { name := "fnExactSidesOfWindow", fn := fun _ => fun
  | [d] => { results := [.lit (.bool false)], args := [d] }
  | _ => none }
def FnExactSidesOfWindowWrongFalsely : Prop := fnExactSidesOfWindowRow.holds Try.pinned (OpenSpec.ofChange fnExactSidesOfWindowWrong)

/-- 'laws.FnExactIsFair': WHATEVER THE INPUT: true; the input reads as it did. -/
def fnExactIsFairSpec : ChangeSpec := { name := "fnExactIsFair", fn := fun _ => fun
  | [d] => { results := [.lit (.bool true)], args := [d] }
  | _ => none }
def fnExactIsFairRow : OpenClaim := { program := "ytnoagkhmmckiaaa", sum := "a85dd6d27e3e493885bcd422b030d17565efa9e7c9c8d1cee6d4ada827b93dff", func := "loop.example/g01216/laws.FnExactIsFair", spec := "fnExactIsFair", unfollowed := true, recurses := true, apart := false }
def FnExactIsFairSaid : Prop := fnExactIsFairRow.holds Try.pinned (OpenSpec.ofChange fnExactIsFairSpec)

/-- ITS FALSE NEIGHBOUR: 'it returns false'. Refute it at one input. -/
def fnExactIsFairWrong : ChangeSpec := { name := "fnExactIsFair", fn := fun _ => fun
  | [d] => { results := [.lit (.bool false)], args := [d] }
  | _ => none }
def FnExactIsFairWrongFalsely : Prop := fnExactIsFairRow.holds Try.pinned (OpenSpec.ofChange fnExactIsFairWrong)

/-- 'laws.FnExactSpinWindow': WHATEVER THE INPUT: true; the input reads as it did. -/
def fnExactSpinWindowSpec : ChangeSpec := { name := "fnExactSpinWindow", fn := fun _ => fun
  | [d1, d2] => { results := [.lit (.bool true)], args := [d1, d2] }
  | _ => none }
def fnExactSpinWindowRow : OpenClaim := { program := "ytnoagkhmmckiaaa", sum := "a85dd6d27e3e493885bcd422b030d17565efa9e7c9c8d1cee6d4ada827b93dff", func := "loop.example/g01216/laws.FnExactSpinWindow", spec := "fnExactSpinWindow", unfollowed := true, recurses := true, apart := false }
def FnExactSpinWindowSaid : Prop := fnExactSpinWindowRow.holds Try.pinned (OpenSpec.ofChange fnExactSpinWindowSpec)

/-- ITS FALSE NEIGHBOUR: 'it returns false'. Refute it at one input. -/
def fnExactSpinWindowWrong : ChangeSpec := { name := "fnExactSpinWindow", fn := fun _ => fun
  | [d1, d2] => { results := [.lit (.bool false)], args := [d1, d2] }
  | _ => none }
def FnExactSpinWindowWrongFalsely : Prop := fnExactSpinWindowRow.holds Try.pinned (OpenSpec.ofChange fnExactSpinWindowWrong)

/-- 'laws.FnExactWindowTiles': WHATEVER THE INPUT: true; the input reads as it did. -/
def fnExactWindowTilesSpec : ChangeSpec := { name := "fnExactWindowTiles", fn := fun _ => fun
  | [d] => { results := [.lit (.bool true)], args := [d] }
  | _ => none }
def fnExactWindowTilesRow : OpenClaim := { program := "ytnoagkhmmckiaaa", sum := "a85dd6d27e3e493885bcd422b030d17565efa9e7c9c8d1cee6d4ada827b93dff", func := "loop.example/g01216/laws.FnExactWindowTiles", spec := "fnExactWindowTiles", unfollowed := true, recurses := true, apart := false }
def FnExactWindowTilesSaid : Prop := fnExactWindowTilesRow.holds Try.pinned (OpenSpec.ofChange fnExactWindowTilesSpec)

/-- ITS FALSE NEIGHBOUR: 'it returns false'. Refute it at one input. -/
def fnExactWindowTilesWrong : ChangeSpec := { name := "fnExactWindowTiles", fn := fun _ => fun
  | [d] => { results := [.lit (.bool false)], args := [d] }
  | _ => none }
def FnExactWindowTilesWrongFalsely : Prop := fnExactWindowTilesRow.holds Try.pinned (OpenSpec.ofChange fnExactWindowTilesWrong)

/-- 'laws.FnExactLeastWindow': WHATEVER THE INPUT: true; the input reads as it did. -/
def fnExactLeastWindowSpec : ChangeSpec := { name := "fnExactLeastWindow", fn := fun _ => fun
  | [d] => { results := [.lit (.bool true)], args := [d] }
  | _ => none }
def fnExactLeastWindowRow : OpenClaim := { program := "ytnoagkhmmckiaaa", sum := "a85dd6d27e3e493885bcd422b030d17565efa9e7c9c8d1cee6d4ada827b93dff", func := "loop.example/g01216/laws.FnExactLeastWindow", spec := "fnExactLeastWindow", unfollowed := true, recurses := true, apart := false }
def FnExactLeastWindowSaid : Prop := fnExactLeastWindowRow.holds Try.pinned (OpenSpec.ofChange fnExactLeastWindowSpec)

/-- ITS FALSE NEIGHBOUR: 'it returns false'. Refute it at one input. -/
def fnExactLeastWindowWrong : ChangeSpec := { name := "fnExactLeastWindow", fn := fun _ => fun
  | [d] => { results := [.lit (.bool false)], args := [d] }
  | _ => none }
def FnExactLeastWindowWrongFalsely : Prop := fnExactLeastWindowRow.holds Try.pinned (OpenSpec.ofChange fnExactLeastWindowWrong)

/-- 'laws.FnExactIsBlock': WHATEVER THE INPUT: true; the input reads as it did. -/
def fnExactIsBlockSpec : ChangeSpec := { name := "fnExactIsBlock", fn := fun _ => fun
  | [d] => { results := [.lit (.bool true)], args := [d] }
  | _ => none }
def fnExactIsBlockRow : OpenClaim := { program := "ytnoagkhmmckiaaa", sum := "a85dd6d27e3e493885bcd422b030d17565efa9e7c9c8d1cee6d4ada827b93dff", func := "loop.example/g01216/laws.FnExactIsBlock", spec := "fnExactIsBlock", unfollowed := true, recurses := true, apart := false }
def FnExactIsBlockSaid : Prop := fnExactIsBlockRow.holds Try.pinned (OpenSpec.ofChange fnExactIsBlockSpec)

/-- ITS FALSE NEIGHBOUR: 'it returns false'. Refute it at one input. -/
def fnExactIsBlockWrong : ChangeSpec := { name := "fnExactIsBlock", fn := fun _ => fun
  | [d] => { results := [.lit (.bool false)], args := [d] }
  | _ => none }
def FnExactIsBlockWrongFalsely : Prop := fnExactIsBlockRow.holds Try.pinned (OpenSpec.ofChange fnExactIsBlockWrong)

/-- 'laws.FnExactBlockTiles': WHATEVER THE INPUT: true; the input reads as it did. -/
def fnExactBlockTilesSpec : ChangeSpec := { name := "fnExactBlockTiles", fn := fun _ => fun
  | [d] => { results := [.lit (.bool true)], args := [d] }
  | _ => none }
def fnExactBlockTilesRow : OpenClaim := { program := "ytnoagkhmmckiaaa", sum := "a85dd6d27e3e493885bcd422b030d17565efa9e7c9c8d1cee6d4ada827b93dff", func := "loop.example/g01216/laws.FnExactBlockTiles", spec := "fnExactBlockTiles", unfollowed := true, recurses := true, apart := false }
def FnExactBlockTilesSaid : Prop := fnExactBlockTilesRow.holds Try.pinned (OpenSpec.ofChange fnExactBlockTilesSpec)

/-- ITS FALSE NEIGHBOUR: 'it returns false'. Refute it at one input. -/
def fnExactBlockTilesWrong : ChangeSpec := { name := "fnExactBlockTiles", fn := fun _ => fun
  | [d] => { results := [.lit (.bool false)], args := [d] }
  | _ => none }
def FnExactBlockTilesWrongFalsely : Prop := fnExactBlockTilesRow.holds Try.pinned (OpenSpec.ofChange fnExactBlockTilesWrong)

/-- 'laws.FnExactRowSums': WHATEVER THE INPUT: true; the input reads as it did. -/
def fnExactRowSumsSpec : ChangeSpec := { name := "fnExactRowSums", fn := fun _ => fun
  | [d] => { results := [.lit (.bool true)], args := [d] }
  | _ => none }
def fnExactRowSumsRow : OpenClaim := { program := "ytnoagkhmmckiaaa", sum := "a85dd6d27e3e493885bcd422b030d17565efa9e7c9c8d1cee6d4ada827b93dff", func := "loop.example/g01216/laws.FnExactRowSums", spec := "fnExactRowSums", unfollowed := true, recurses := true, apart := false }
def FnExactRowSumsSaid : Prop := fnExactRowSumsRow.holds Try.pinned (OpenSpec.ofChange fnExactRowSumsSpec)

/-- ITS FALSE NEIGHBOUR: 'it returns false'. Refute it at one input. -/
def fnExactRowSumsWrong : ChangeSpec := { name := "fnExactRowSums", fn := fun _ => fun
  | [d] => { results := [.lit (.bool false)], args := [d] }
  | _ => none }
def FnExactRowSumsWrongFalsely : Prop := fnExactRowSumsRow.holds Try.pinned (OpenSpec.ofChange fnExactRowSumsWrong)

/-- 'laws.FnExactColumnSums': WHATEVER THE INPUT: true; the input reads as it did. -/
def fnExactColumnSumsSpec : ChangeSpec := { name := "fnExactColumnSums", fn := fun _ => fun
  | [d] => { results := [.lit (.bool true)], args := [d] }
  | _ => none }
def fnExactColumnSumsRow : OpenClaim := { program := "ytnoagkhmmckiaaa", sum := "a85dd6d27e3e493885bcd422b030d17565efa9e7c9c8d1cee6d4ada827b93dff", func := "loop.example/g01216/laws.FnExactColumnSums", spec := "fnExactColumnSums", unfollowed := true, recurses := true, apart := false }
def FnExactColumnSumsSaid : Prop := fnExactColumnSumsRow.holds Try.pinned (OpenSpec.ofChange fnExactColumnSumsSpec)

/-- ITS FALSE NEIGHBOUR: 'it returns false'. Refute it at one input. -/
def fnExactColumnSumsWrong : ChangeSpec := { name := "fnExactColumnSums", fn := fun _ => fun
  | [d] => { results := [.lit (.bool false)], args := [d] }
  | _ => none }
def FnExactColumnSumsWrongFalsely : Prop := fnExactColumnSumsRow.holds Try.pinned (OpenSpec.ofChange fnExactColumnSumsWrong)

/- THE SECOND FORM. 'bulk': how many values and letters a reading holds, each counted each time it is reached (what is shared counts as often as it is met; a slice's spare places count too). A statement '..UptoSaid' is the law's where the arguments, and the package variables that the reading takes, are together of bulk at most 1048576: NARROWER than '..Said'. Prove '..Said' where nothing that the law and all that it calls make is longer than what came in: it says more and counts as full. Else prove '..UptoSaid'. A law counts once. -/
mutual
def uptoBulk {H : Type} : DataW H → Nat
  | .lit (.string bytes) => bytes.length + 1
  | .lit _ => 1
  | .nil => 1
  | .ptr d => uptoBulk d + 1
  | .slice elems spare => uptoBulkAll elems + uptoBulkAll spare + 1
  | .agg parts => uptoBulkAll parts + 1
  | .iface _ d => uptoBulk d + 1
  | .map entries => uptoBulkEntries entries + 1
  | .held _ => 1
def uptoBulkAll {H : Type} : List (DataW H) → Nat
  | [] => 0
  | d :: r => uptoBulk d + uptoBulkAll r
def uptoBulkEntries {H : Type} : List (Lit × DataW H) → Nat
  | [] => 0
  | x :: r => uptoBulkEntry x + uptoBulkEntries r
def uptoBulkEntry {H : Type} : Lit × DataW H → Nat
  | (.string bytes, d) => bytes.length + uptoBulk d + 1
  | (_, d) => uptoBulk d + 1
 end
def uptoSmall : (H : Type) → List (DataW H) → Bool := fun _ ds => decide (uptoBulkAll ds ≤ 1048576)
def OpenSpec.upto (s : _root_.Go.ChangeSpec) : _root_.Go.OpenSpec := { _root_.Go.OpenSpec.ofChange s with cond := some uptoSmall }

/-- 'laws.FnExactIsWindow', WHERE WHAT IT READS IS OF BULK AT MOST 1048576: true; the input reads as it did. -/
def fnExactIsWindowUptoRow : OpenClaim := { program := "ytnoagkhmmckiaaa", sum := "a85dd6d27e3e493885bcd422b030d17565efa9e7c9c8d1cee6d4ada827b93dff", func := "loop.example/g01216/laws.FnExactIsWindow", spec := "fnExactIsWindow", unfollowed := true, recurses := true, apart := false, narrowed := true }
def FnExactIsWindowUptoSaid : Prop := fnExactIsWindowUptoRow.holds Try.pinned (OpenSpec.upto fnExactIsWindowSpec)

/-- 'laws.FnExactMirrorWindow', WHERE WHAT IT READS IS OF BULK AT MOST 1048576: true; the input reads as it did. -/
def fnExactMirrorWindowUptoRow : OpenClaim := { program := "ytnoagkhmmckiaaa", sum := "a85dd6d27e3e493885bcd422b030d17565efa9e7c9c8d1cee6d4ada827b93dff", func := "loop.example/g01216/laws.FnExactMirrorWindow", spec := "fnExactMirrorWindow", unfollowed := true, recurses := true, apart := false, narrowed := true }
def FnExactMirrorWindowUptoSaid : Prop := fnExactMirrorWindowUptoRow.holds Try.pinned (OpenSpec.upto fnExactMirrorWindowSpec)

/-- 'laws.FnExactComplementWindow', WHERE WHAT IT READS IS OF BULK AT MOST 1048576: true; the input reads as it did. -/
def fnExactComplementWindowUptoRow : OpenClaim := { program := "ytnoagkhmmckiaaa", sum := "a85dd6d27e3e493885bcd422b030d17565efa9e7c9c8d1cee6d4ada827b93dff", func := "loop.example/g01216/laws.FnExactComplementWindow", spec := "fnExactComplementWindow", unfollowed := true, recurses := true, apart := false, narrowed := true }
def FnExactComplementWindowUptoSaid : Prop := fnExactComplementWindowUptoRow.holds Try.pinned (OpenSpec.upto fnExactComplementWindowSpec)

/-- 'laws.FnExactSidesOfWindow', WHERE WHAT IT READS IS OF BULK AT MOST 1048576: true; the input reads as it did. -/
def fnExactSidesOfWindowUptoRow : OpenClaim := { program := "ytnoagkhmmckiaaa", sum := "a85dd6d27e3e493885bcd422b030d17565efa9e7c9c8d1cee6d4ada827b93dff", func := "loop.example/g01216/laws.FnExactSidesOfWindow", spec := "fnExactSidesOfWindow", unfollowed := true, recurses := true, apart := false, narrowed := true }
def FnExactSidesOfWindowUptoSaid : Prop := fnExactSidesOfWindowUptoRow.holds Try.pinned (OpenSpec.upto fnExactSidesOfWindowSpec)

/-- 'laws.FnExactIsFair', WHERE WHAT IT READS IS OF BULK AT MOST 1048576: true; the input reads as it did. -/
def fnExactIsFairUptoRow : OpenClaim := { program := "ytnoagkhmmckiaaa", sum := "a85dd6d27e3e493885bcd422b030d17565efa9e7c9c8d1cee6d4ada827b93dff", func := "loop.example/g01216/laws.FnExactIsFair", spec := "fnExactIsFair", unfollowed := true, recurses := true, apart := false, narrowed := true }
def FnExactIsFairUptoSaid : Prop := fnExactIsFairUptoRow.holds Try.pinned (OpenSpec.upto fnExactIsFairSpec)

/-- 'laws.FnExactSpinWindow', WHERE WHAT IT READS IS OF BULK AT MOST 1048576: true; the input reads as it did. -/
def fnExactSpinWindowUptoRow : OpenClaim := { program := "ytnoagkhmmckiaaa", sum := "a85dd6d27e3e493885bcd422b030d17565efa9e7c9c8d1cee6d4ada827b93dff", func := "loop.example/g01216/laws.FnExactSpinWindow", spec := "fnExactSpinWindow", unfollowed := true, recurses := true, apart := false, narrowed := true }
def FnExactSpinWindowUptoSaid : Prop := fnExactSpinWindowUptoRow.holds Try.pinned (OpenSpec.upto fnExactSpinWindowSpec)

/-- 'laws.FnExactWindowTiles', WHERE WHAT IT READS IS OF BULK AT MOST 1048576: true; the input reads as it did. -/
def fnExactWindowTilesUptoRow : OpenClaim := { program := "ytnoagkhmmckiaaa", sum := "a85dd6d27e3e493885bcd422b030d17565efa9e7c9c8d1cee6d4ada827b93dff", func := "loop.example/g01216/laws.FnExactWindowTiles", spec := "fnExactWindowTiles", unfollowed := true, recurses := true, apart := false, narrowed := true }
def FnExactWindowTilesUptoSaid : Prop := fnExactWindowTilesUptoRow.holds Try.pinned (OpenSpec.upto fnExactWindowTilesSpec)

/-- 'laws.FnExactLeastWindow', WHERE WHAT IT READS IS OF BULK AT MOST 1048576: true; the input reads as it did. -/
def fnExactLeastWindowUptoRow : OpenClaim := { program := "ytnoagkhmmckiaaa", sum := "a85dd6d27e3e493885bcd422b030d17565efa9e7c9c8d1cee6d4ada827b93dff", func := "loop.example/g01216/laws.FnExactLeastWindow", spec := "fnExactLeastWindow", unfollowed := true, recurses := true, apart := false, narrowed := true }
def FnExactLeastWindowUptoSaid : Prop := fnExactLeastWindowUptoRow.holds Try.pinned (OpenSpec.upto fnExactLeastWindowSpec)

/-- 'laws.FnExactIsBlock', WHERE WHAT IT READS IS OF BULK AT MOST 1048576: true; the input reads as it did. -/
def fnExactIsBlockUptoRow : OpenClaim := { program := "ytnoagkhmmckiaaa", sum := "a85dd6d27e3e493885bcd422b030d17565efa9e7c9c8d1cee6d4ada827b93dff", func := "loop.example/g01216/laws.FnExactIsBlock", spec := "fnExactIsBlock", unfollowed := true, recurses := true, apart := false, narrowed := true }
def FnExactIsBlockUptoSaid : Prop := fnExactIsBlockUptoRow.holds Try.pinned (OpenSpec.upto fnExactIsBlockSpec)

/-- 'laws.FnExactBlockTiles', WHERE WHAT IT READS IS OF BULK AT MOST 1048576: true; the input reads as it did. -/
def fnExactBlockTilesUptoRow : OpenClaim := { program := "ytnoagkhmmckiaaa", sum := "a85dd6d27e3e493885bcd422b030d17565efa9e7c9c8d1cee6d4ada827b93dff", func := "loop.example/g01216/laws.FnExactBlockTiles", spec := "fnExactBlockTiles", unfollowed := true, recurses := true, apart := false, narrowed := true }
def FnExactBlockTilesUptoSaid : Prop := fnExactBlockTilesUptoRow.holds Try.pinned (OpenSpec.upto fnExactBlockTilesSpec)

/-- 'laws.FnExactRowSums', WHERE WHAT IT READS IS OF BULK AT MOST 1048576: true; the input reads as it did. -/
def fnExactRowSumsUptoRow : OpenClaim := { program := "ytnoagkhmmckiaaa", sum := "a85dd6d27e3e493885bcd422b030d17565efa9e7c9c8d1cee6d4ada827b93dff", func := "loop.example/g01216/laws.FnExactRowSums", spec := "fnExactRowSums", unfollowed := true, recurses := true, apart := false, narrowed := true }
def FnExactRowSumsUptoSaid : Prop := fnExactRowSumsUptoRow.holds Try.pinned (OpenSpec.upto fnExactRowSumsSpec)

/-- 'laws.FnExactColumnSums', WHERE WHAT IT READS IS OF BULK AT MOST 1048576: true; the input reads as it did. -/
def fnExactColumnSumsUptoRow : OpenClaim := { program := "ytnoagkhmmckiaaa", sum := "a85dd6d27e3e493885bcd422b030d17565efa9e7c9c8d1cee6d4ada827b93dff", func := "loop.example/g01216/laws.FnExactColumnSums", spec := "fnExactColumnSums", unfollowed := true, recurses := true, apart := false, narrowed := true }
def FnExactColumnSumsUptoSaid : Prop := fnExactColumnSumsUptoRow.holds Try.pinned (OpenSpec.upto fnExactColumnSumsSpec)

end Rows
end Go.Proofs.Ytnoagkhmmckiaaa
