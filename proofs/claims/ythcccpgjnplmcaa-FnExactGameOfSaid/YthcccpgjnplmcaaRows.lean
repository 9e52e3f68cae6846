/-
  No cell of these rows narrows 'for every input' (looked for: loops, veiled, ifaces, maps, wideKeys, modest, calm, conditions, laid).
  DERIVED. THE GIVEN ROWS OF THIS SEAT. 7 by the template 'for every input the law returns true; each argument reads behind the call as it read before'; 0 by the template 'total and deterministic' (their statements: YthcccpgjnplmcaaTotals.lean).
  GIVEN WITH THE SEED: the statements are not yours to turn. If you find one false, say at which input.
  Laid BY PROGRAM, IN A SANDBOX (cutbox-rows.mjs): the forced cells as the released guide's own fill.sh prints them over the translation 9c4763821e16fe7b… (all of the seat's roots in one cut). By AI agents, Wed Nov 11 2026. No macro, syntax, notation, axiom, sorry.
-/
import Derived.Test.YthcccpgjnplmcaaChecked
import GoSem.Claim
import GoSem.ClaimJoined
import GoSem.ClaimMapViews
import Derived.JoinedTies
import Derived.KernelRfl
namespace Go.Proofs.Ythcccpgjnplmcaa
/- THE CELL 'sum', in the pinned program and in every row, IS THE sha256 OF THE DUMP (.gsa) THAT YthcccpgjnplmcaaProg.lean LOADS. Nothing in Lean hashes anything: it is a label: what it is worth is what the hold of that sum in a sandbox is worth. -/
noncomputable def Try.pinned : Pinned := { name := "ythcccpgjnplmcaa", sum := "9c4763821e16fe7ba5e0dcbda2aafdb763b94f68efb8f526f162871f46ff076c", checked := Try.checked }
namespace Rows
def none {H : Type} : Left H := { results := [], args := [] }

/-- 'laws.FnExactIsGame': WHATEVER THE INPUT: true; the input reads as it did. -/
def fnExactIsGameSpec : ChangeSpec := { name := "fnExactIsGame", fn := fun _ => fun
  | [d] => { results := [.lit (.bool true)], args := [d] }
  | _ => none }
def fnExactIsGameRow : OpenClaim := { program := "ythcccpgjnplmcaa", sum := "9c4763821e16fe7ba5e0dcbda2aafdb763b94f68efb8f526f162871f46ff076c", func := "loop.example/g01216/laws.FnExactIsGame", spec := "fnExactIsGame", unfollowed := true, recurses := true, apart := false }
def FnExactIsGameSaid : Prop := fnExactIsGameRow.holds Try.pinned (OpenSpec.ofChange fnExactIsGameSpec)

/-- ITS FALSE NEIGHBOUR: 'it returns false'. Refute it at one input. -/
def fnExactIsGameWrong : ChangeSpec := { name := "fnExactIsGame", fn := fun _ => fun
  | [d] => { results := [.lit (.bool false)], args := [d] }
  | _ => none }
def FnExactIsGameWrongFalsely : Prop := fnExactIsGameRow.holds Try.pinned (OpenSpec.ofChange fnExactIsGameWrong)

/-- 'laws.FnExactIsOver': WHATEVER THE INPUT: true; the input reads as it did. -/
def fnExactIsOverSpec : ChangeSpec := { name := "fnExactIsOver", fn := fun _ => fun
  | [d] => { results := [.lit (.bool true)], args := [d] }
  | _ => none }
def fnExactIsOverRow : OpenClaim := { program := "ythcccpgjnplmcaa", sum := "9c4763821e16fe7ba5e0dcbda2aafdb763b94f68efb8f526f162871f46ff076c", func := "loop.example/g01216/laws.FnExactIsOver", spec := "fnExactIsOver", unfollowed := true, recurses := true, apart := false }
def FnExactIsOverSaid : Prop := fnExactIsOverRow.holds Try.pinned (OpenSpec.ofChange fnExactIsOverSpec)

/-- ITS FALSE NEIGHBOUR: 'it returns false'. Refute it at one input. -/
def fnExactIsOverWrong : ChangeSpec := { name := "fnExactIsOver", fn := fun _ => fun
  | [d] => { results := [.lit (.bool false)], args := [d] }
  | _ => none }
def FnExactIsOverWrongFalsely : Prop := fnExactIsOverRow.holds Try.pinned (OpenSpec.ofChange fnExactIsOverWrong)

/-- 'laws.FnExactPointsOf': WHATEVER THE INPUT: true; the input reads as it did. -/
def fnExactPointsOfSpec : ChangeSpec := { name := "fnExactPointsOf", fn := fun _ => fun
  | [d] => { results := [.lit (.bool true)], args := [d] }
  | _ => none }
def fnExactPointsOfRow : OpenClaim := { program := "ythcccpgjnplmcaa", sum := "9c4763821e16fe7ba5e0dcbda2aafdb763b94f68efb8f526f162871f46ff076c", func := "loop.example/g01216/laws.FnExactPointsOf", spec := "fnExactPointsOf", unfollowed := true, recurses := true, apart := false }
def FnExactPointsOfSaid : Prop := fnExactPointsOfRow.holds Try.pinned (OpenSpec.ofChange fnExactPointsOfSpec)

/-- ITS FALSE NEIGHBOUR: 'it returns false'. Refute it at one input. -/
def fnExactPointsOfWrong : ChangeSpec := { name := "fnExactPointsOf", fn := fun _ => fun
  | [d] => { results := [.lit (.bool false)], args := [d] }
  | _ => none }
def FnExactPointsOfWrongFalsely : Prop := fnExactPointsOfRow.holds Try.pinned (OpenSpec.ofChange fnExactPointsOfWrong)

/-- 'laws.FnExactGameOf': WHATEVER THE INPUT: true; the input reads as it did. -/
def fnExactGameOfSpec : ChangeSpec := { name := "fnExactGameOf", fn := fun _ => fun
  | [d1, d2] => { results := [.lit (.bool true)], args := [d1, d2] }
  | _ => none }
def fnExactGameOfRow : OpenClaim := { program := "ythcccpgjnplmcaa", sum := "9c4763821e16fe7ba5e0dcbda2aafdb763b94f68efb8f526f162871f46ff076c", func := "loop.example/g01216/laws.FnExactGameOf", spec := "fnExactGameOf", unfollowed := true, recurses := true, apart := false }
def FnExactGameOfSaid : Prop := fnExactGameOfRow.holds Try.pinned (OpenSpec.ofChange fnExactGameOfSpec)

/-- ITS FALSE NEIGHBOUR: 'it returns false'. Refute it at one input. -/
def fnExactGameOfWrong : ChangeSpec := { name := "fnExactGameOf", fn := fun _ => fun
  | [d1, d2] => { results := [.lit (.bool false)], args := [d1, d2] }
  | _ => none }
def FnExactGameOfWrongFalsely : Prop := fnExactGameOfRow.holds Try.pinned (OpenSpec.ofChange fnExactGameOfWrong)

/-- 'laws.FnExactSwapGame': WHATEVER THE INPUT: true; the input reads as it did. -/
def fnExactSwapGameSpec : ChangeSpec := { name := "fnExactSwapGame", fn := fun _ => fun
  | [d] => { results := [.lit (.bool true)], args := [d] }
  | _ => none }
def fnExactSwapGameRow : OpenClaim := { program := "ythcccpgjnplmcaa", sum := "9c4763821e16fe7ba5e0dcbda2aafdb763b94f68efb8f526f162871f46ff076c", func := "loop.example/g01216/laws.FnExactSwapGame", spec := "fnExactSwapGame", unfollowed := true, recurses := true, apart := false }
def FnExactSwapGameSaid : Prop := fnExactSwapGameRow.holds Try.pinned (OpenSpec.ofChange fnExactSwapGameSpec)

/-- ITS FALSE NEIGHBOUR: 'it returns false'. Refute it at one input. -/
def fnExactSwapGameWrong : ChangeSpec := { name := "fnExactSwapGame", fn := fun _ => fun
  | [d] => { results := [.lit (.bool false)], args := [d] }
  | _ => none }
def FnExactSwapGameWrongFalsely : Prop := fnExactSwapGameRow.holds Try.pinned (OpenSpec.ofChange fnExactSwapGameWrong)

/-- 'laws.FnExactMovesOn': WHATEVER THE INPUT: true; the input reads as it did. -/
def fnExactMovesOnSpec : ChangeSpec := { name := "fnExactMovesOn", fn := fun _ => fun
  | [d] => { results := [.lit (.bool true)], args := [d] }
  | _ => none }
def fnExactMovesOnRow : OpenClaim := { program := "ythcccpgjnplmcaa", sum := "9c4763821e16fe7ba5e0dcbda2aafdb763b94f68efb8f526f162871f46ff076c", func := "loop.example/g01216/laws.FnExactMovesOn", spec := "fnExactMovesOn", unfollowed := true, recurses := true, apart := false }
def FnExactMovesOnSaid : Prop := fnExactMovesOnRow.holds Try.pinned (OpenSpec.ofChange fnExactMovesOnSpec)

/-- ITS FALSE NEIGHBOUR: 'it returns false'. Refute it at one input. -/
def fnExactMovesOnWrong : ChangeSpec := { name := "fnExactMovesOn", fn := fun _ => fun
  | [d] => { results := [.lit (.bool false)], args := [d] }
  | _ => none }
def FnExactMovesOnWrongFalsely : Prop := fnExactMovesOnRow.holds Try.pinned (OpenSpec.ofChange fnExactMovesOnWrong)

/-- 'laws.FnExactCanSweep': WHATEVER THE INPUT: true; the input reads as it did. -/
def fnExactCanSweepSpec : ChangeSpec := { name := "fnExactCanSweep", fn := fun _ => fun
  | [d] => { results := [.lit (.bool true)], args := [d] }
  | _ => none }
def fnExactCanSweepRow : OpenClaim := { program := "ythcccpgjnplmcaa", sum := "9c4763821e16fe7ba5e0dcbda2aafdb763b94f68efb8f526f162871f46ff076c", func := "loop.example/g01216/laws.FnExactCanSweep", spec := "fnExactCanSweep", unfollowed := true, recurses := true, apart := false }
def FnExactCanSweepSaid : Prop := fnExactCanSweepRow.holds Try.pinned (OpenSpec.ofChange fnExactCanSweepSpec)

/-- ITS FALSE NEIGHBOUR: 'it returns false'. Refute it at one input. -/
def fnExactCanSweepWrong : ChangeSpec := { name := "fnExactCanSweep", fn := fun _ => fun
  | [d] => { results := [.lit (.bool false)], args := [d] }
  | _ => none }
def FnExactCanSweepWrongFalsely : Prop := fnExactCanSweepRow.holds Try.pinned (OpenSpec.ofChange fnExactCanSweepWrong)

/- THE SECOND FORM. 'bulk': how many values and letters a reading holds, each counted each time it is reached (what is shared counts as often as it is met; a slice's spare places count too). A statement '..UptoSaid' is the law's where the arguments, and the package variables that the reading takes, are together of bulk at most 1048576: NARROWER than '..Said'. Prove '..Said' where nothing that the law and all that it calls make is longer than what came in: it says more and counts as full. Else prove '..UptoSaid'. A law counts once. -/
mutual
def uptoBulk {H : Type} : DataW H → Nat
  | .lit (.string bytes) => bytes.length + 1
  | .lit _ => 1
  | .nil => 1
  | .ptr d => uptoBulk d + 1
  | .slice elems spare => uptoBulkAll elems + uptoBulkAll spare + 1
  | .agg parts => uptoBulkAll parts + 1
  | .iface _ d => uptoBulk d + 1
  | .map entries => uptoBulkEntries entries + 1
  | .held _ => 1
def uptoBulkAll {H : Type} : List (DataW H) → Nat
  | [] => 0
  | d :: r => uptoBulk d + uptoBulkAll r
def uptoBulkEntries {H : Type} : List (Lit × DataW H) → Nat
  | [] => 0
  | x :: r => uptoBulkEntry x + uptoBulkEntries r
def uptoBulkEntry {H : Type} : Lit × DataW H → Nat
  | (.string bytes, d) => bytes.length + uptoBulk d + 1
  | (_, d) => uptoBulk d + 1
 end
def uptoSmall : (H : Type) → List (DataW H) → Bool := fun _ ds => decide (uptoBulkAll ds ≤ 1048576)
def OpenSpec.upto (s : _root_.Go.ChangeSpec) : _root_.Go.OpenSpec := { _root_.Go.OpenSpec.ofChange s with cond := some uptoSmall }

/-- 'laws.FnExactIsGame', WHERE WHAT IT READS IS OF BULK AT MOST 1048576: true; the input reads as it did. -/
def fnExactIsGameUptoRow : OpenClaim := { program := "ythcccpgjnplmcaa", sum := "9c4763821e16fe7ba5e0dcbda2aafdb763b94f68efb8f526f162871f46ff076c", func := "loop.example/g01216/laws.FnExactIsGame", spec := "fnExactIsGame", unfollowed := true, recurses := true, apart := false, narrowed := true }
def FnExactIsGameUptoSaid : Prop := fnExactIsGameUptoRow.holds Try.pinned (OpenSpec.upto fnExactIsGameSpec)

/-- 'laws.FnExactIsOver', WHERE WHAT IT READS IS OF BULK AT MOST 1048576: true; the input reads as it did. -/
def fnExactIsOverUptoRow : OpenClaim := { program := "ythcccpgjnplmcaa", sum := "9c4763821e16fe7ba5e0dcbda2aafdb763b94f68efb8f526f162871f46ff076c", func := "loop.example/g01216/laws.FnExactIsOver", spec := "fnExactIsOver", unfollowed := true, recurses := true, apart := false, narrowed := true }
def FnExactIsOverUptoSaid : Prop := fnExactIsOverUptoRow.holds Try.pinned (OpenSpec.upto fnExactIsOverSpec)

/-- 'laws.FnExactPointsOf', WHERE WHAT IT READS IS OF BULK AT MOST 1048576: true; the input reads as it did. -/
def fnExactPointsOfUptoRow : OpenClaim := { program := "ythcccpgjnplmcaa", sum := "9c4763821e16fe7ba5e0dcbda2aafdb763b94f68efb8f526f162871f46ff076c", func := "loop.example/g01216/laws.FnExactPointsOf", spec := "fnExactPointsOf", unfollowed := true, recurses := true, apart := false, narrowed := true }
def FnExactPointsOfUptoSaid : Prop := fnExactPointsOfUptoRow.holds Try.pinned (OpenSpec.upto fnExactPointsOfSpec)

/-- 'laws.FnExactGameOf', WHERE WHAT IT READS IS OF BULK AT MOST 1048576: true; the input reads as it did. -/
def fnExactGameOfUptoRow : OpenClaim := { program := "ythcccpgjnplmcaa", sum := "9c4763821e16fe7ba5e0dcbda2aafdb763b94f68efb8f526f162871f46ff076c", func := "loop.example/g01216/laws.FnExactGameOf", spec := "fnExactGameOf", unfollowed := true, recurses := true, apart := false, narrowed := true }
def FnExactGameOfUptoSaid : Prop := fnExactGameOfUptoRow.holds Try.pinned (OpenSpec.upto fnExactGameOfSpec)

/-- 'laws.FnExactSwapGame', WHERE WHAT IT READS IS OF BULK AT MOST 1048576: true; the input reads as it did. -/
def fnExactSwapGameUptoRow : OpenClaim := { program := "ythcccpgjnplmcaa", sum := "9c4763821e16fe7ba5e0dcbda2aafdb763b94f68efb8f526f162871f46ff076c", func := "loop.example/g01216/laws.FnExactSwapGame", spec := "fnExactSwapGame", unfollowed := true, recurses := true, apart := false, narrowed := true }
def FnExactSwapGameUptoSaid : Prop := fnExactSwapGameUptoRow.holds Try.pinned (OpenSpec.upto fnExactSwapGameSpec)

/-- 'laws.FnExactMovesOn', WHERE WHAT IT READS IS OF BULK AT MOST 1048576: true; the input reads as it did. -/
def fnExactMovesOnUptoRow : OpenClaim := { program := "ythcccpgjnplmcaa", sum := "9c4763821e16fe7ba5e0dcbda2aafdb763b94f68efb8f526f162871f46ff076c", func := "loop.example/g01216/laws.FnExactMovesOn", spec := "fnExactMovesOn", unfollowed := true, recurses := true, apart := false, narrowed := true }
def FnExactMovesOnUptoSaid : Prop := fnExactMovesOnUptoRow.holds Try.pinned (OpenSpec.upto fnExactMovesOnSpec)

/-- 'laws.FnExactCanSweep', WHERE WHAT IT READS IS OF BULK AT MOST 1048576: true; the input reads as it did. -/
def fnExactCanSweepUptoRow : OpenClaim := { program := "ythcccpgjnplmcaa", sum := "9c4763821e16fe7ba5e0dcbda2aafdb763b94f68efb8f526f162871f46ff076c", func := "loop.example/g01216/laws.FnExactCanSweep", spec := "fnExactCanSweep", unfollowed := true, recurses := true, apart := false, narrowed := true }
def FnExactCanSweepUptoSaid : Prop := fnExactCanSweepUptoRow.holds Try.pinned (OpenSpec.upto fnExactCanSweepSpec)

end Rows
end Go.Proofs.Ythcccpgjnplmcaa
