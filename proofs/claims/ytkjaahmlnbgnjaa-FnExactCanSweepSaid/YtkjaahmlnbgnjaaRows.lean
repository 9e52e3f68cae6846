/-
  No cell of these rows narrows 'for every input' (looked for: loops, veiled, ifaces, maps, wideKeys, modest, calm, conditions, laid).
  DERIVED. THE GIVEN ROWS OF THIS SEAT. 5 by the template 'for every input the law returns true; each argument reads behind the call as it read before'; 0 by the template 'total and deterministic' (their statements: YtkjaahmlnbgnjaaTotals.lean).
  GIVEN WITH THE SEED: the statements are not yours to turn. If you find one false, say at which input.
  Laid BY PROGRAM, IN A SANDBOX (cutbox-rows.mjs): the forced cells as the released guide's own fill.sh prints them over the translation 28a8a4e5681e6869… (all of the seat's roots in one cut). By AI agents, Wed Nov 11 2026. No macro, syntax, notation, axiom, sorry.
-/
import Derived.Test.YtkjaahmlnbgnjaaChecked
import GoSem.Claim
import GoSem.ClaimJoined
import GoSem.ClaimMapViews
import Derived.JoinedTies
import Derived.KernelRfl
namespace Go.Proofs.Ytkjaahmlnbgnjaa
/- THE CELL 'sum', in the pinned program and in every row, IS THE sha256 OF THE DUMP (.gsa) THAT YtkjaahmlnbgnjaaProg.lean LOADS. Nothing in Lean hashes anything: it is a label: what it is worth is what the hold of that sum in a sandbox is worth. -/
noncomputable def Try.pinned : Pinned := { name := "ytkjaahmlnbgnjaa", sum := "28a8a4e5681e68691460515fad84b284b7420c6d71570e9f974d16cbd3d93d7b", checked := Try.checked }
namespace Rows
def none {H : Type} : Left H := { results := [], args := [] }

/-- 'laws.FnExactCountTilings': WHATEVER THE INPUT: true; the input reads as it did. -/
def fnExactCountTilingsSpec : ChangeSpec := { name := "fnExactCountTilings", fn := fun _ => fun
  | [d1, d2] => { results := [.lit (.bool true)], args := [d1, d2] }
  | _ => none }
def fnExactCountTilingsRow : OpenClaim := { program := "ytkjaahmlnbgnjaa", sum := "28a8a4e5681e68691460515fad84b284b7420c6d71570e9f974d16cbd3d93d7b", func := "loop.example/g01216/laws.FnExactCountTilings", spec := "fnExactCountTilings", unfollowed := true, recurses := true, apart := false }
def FnExactCountTilingsSaid : Prop := fnExactCountTilingsRow.holds Try.pinned (OpenSpec.ofChange fnExactCountTilingsSpec)

/-- ITS FALSE NEIGHBOUR: 'it returns false'. Refute it at one input. -/
def fnExactCountTilingsWrong : ChangeSpec := { name := "fnExactCountTilings", fn := fun _ => fun
  | [d1, d2] => { results := [.lit (.bool false)], args := [d1, d2] }
  | _ => none }
def FnExactCountTilingsWrongFalsely : Prop := fnExactCountTilingsRow.holds Try.pinned (OpenSpec.ofChange fnExactCountTilingsWrong)

/-- 'laws.FnExactSwapRows': WHATEVER THE INPUT: true; the input reads as it did. -/
def fnExactSwapRowsSpec : ChangeSpec := { name := "fnExactSwapRows", fn := fun _ => fun
  | [d1, d2, d3] => { results := [.lit (.bool true)], args := [d1, d2, d3] }
  | _ => none }
def fnExactSwapRowsRow : OpenClaim := { program := "ytkjaahmlnbgnjaa", sum := "28a8a4e5681e68691460515fad84b284b7420c6d71570e9f974d16cbd3d93d7b", func := "loop.example/g01216/laws.FnExactSwapRows", spec := "fnExactSwapRows", unfollowed := true, recurses := true, apart := false }
def FnExactSwapRowsSaid : Prop := fnExactSwapRowsRow.holds Try.pinned (OpenSpec.ofChange fnExactSwapRowsSpec)

/-- ITS FALSE NEIGHBOUR: 'it returns false'. Refute it at one input. -/
def fnExactSwapRowsWrong : ChangeSpec := { name := "fnExactSwapRows", fn := fun _ => fun
  | [d1, d2, d3] => { results := [.lit (.bool false)], args := [d1, d2, d3] }
  | _ => none }
def FnExactSwapRowsWrongFalsely : Prop := fnExactSwapRowsRow.holds Try.pinned (OpenSpec.ofChange fnExactSwapRowsWrong)

/-- 'laws.FnExactCanSweep': WHATEVER THE INPUT: true; the input reads as it did. -/
def fnExactCanSweepSpec : ChangeSpec := { name := "fnExactCanSweep", fn := fun _ => fun
  | [d] => { results := [.lit (.bool true)], args := [d] }
  | _ => none }
def fnExactCanSweepRow : OpenClaim := { program := "ytkjaahmlnbgnjaa", sum := "28a8a4e5681e68691460515fad84b284b7420c6d71570e9f974d16cbd3d93d7b", func := "loop.example/g01216/laws.FnExactCanSweep", spec := "fnExactCanSweep", unfollowed := true, recurses := true, apart := false }
def FnExactCanSweepSaid : Prop := fnExactCanSweepRow.holds Try.pinned (OpenSpec.ofChange fnExactCanSweepSpec)

/-- ITS FALSE NEIGHBOUR: 'it returns false'. Refute it at one input. -/
def fnExactCanSweepWrong : ChangeSpec := { name := "fnExactCanSweep", fn := fun _ => fun
  | [d] => { results := [.lit (.bool false)], args := [d] }
  | _ => none }
def FnExactCanSweepWrongFalsely : Prop := fnExactCanSweepRow.holds Try.pinned (OpenSpec.ofChange fnExactCanSweepWrong)

/-- 'laws.FnExactMovesOn': WHATEVER THE INPUT: true; the input reads as it did. -/
def fnExactMovesOnSpec : ChangeSpec := { name := "fnExactMovesOn", fn := fun _ => fun
  | [d] => { results := [.lit (.bool true)], args := [d] }
  | _ => none }
def fnExactMovesOnRow : OpenClaim := { program := "ytkjaahmlnbgnjaa", sum := "28a8a4e5681e68691460515fad84b284b7420c6d71570e9f974d16cbd3d93d7b", func := "loop.example/g01216/laws.FnExactMovesOn", spec := "fnExactMovesOn", unfollowed := true, recurses := true, apart := false }
def FnExactMovesOnSaid : Prop := fnExactMovesOnRow.holds Try.pinned (OpenSpec.ofChange fnExactMovesOnSpec)

/-- ITS FALSE NEIGHBOUR: 'it returns false'. Refute it at one input. -/
def fnExactMovesOnWrong : ChangeSpec := { name := "fnExactMovesOn", fn := fun _ => fun
  | [d] => { results := [.lit (.bool false)], args := [d] }
  | _ => none }
def FnExactMovesOnWrongFalsely : Prop := fnExactMovesOnRow.holds Try.pinned (OpenSpec.ofChange fnExactMovesOnWrong)

/-- 'laws.FnExactCountMagic': WHATEVER THE INPUT: true; the input reads as it did. -/
def fnExactCountMagicSpec : ChangeSpec := { name := "fnExactCountMagic", fn := fun _ => fun
  | [d1, d2] => { results := [.lit (.bool true)], args := [d1, d2] }
  | _ => none }
def fnExactCountMagicRow : OpenClaim := { program := "ytkjaahmlnbgnjaa", sum := "28a8a4e5681e68691460515fad84b284b7420c6d71570e9f974d16cbd3d93d7b", func := "loop.example/g01216/laws.FnExactCountMagic", spec := "fnExactCountMagic", unfollowed := true, recurses := true, apart := false }
def FnExactCountMagicSaid : Prop := fnExactCountMagicRow.holds Try.pinned (OpenSpec.ofChange fnExactCountMagicSpec)

/-- ITS FALSE NEIGHBOUR: 'it returns false'. Refute it at one input. -/
def fnExactCountMagicWrong : ChangeSpec := { name := "fnExactCountMagic", fn := fun _ => fun
  | [d1, d2] => { results := [.lit (.bool false)], args := [d1, d2] }
  | _ => none }
def FnExactCountMagicWrongFalsely : Prop := fnExactCountMagicRow.holds Try.pinned (OpenSpec.ofChange fnExactCountMagicWrong)

/- THE SECOND FORM. 'bulk': how many values and letters a reading holds, each counted each time it is reached (what is shared counts as often as it is met; a slice's spare places count too). A statement '..UptoSaid' is the law's where the arguments, and the package variables that the reading takes, are together of bulk at most 1048576: NARROWER than '..Said'. Prove '..Said' where nothing that the law and all that it calls make is longer than what came in: it says more and counts as full. Else prove '..UptoSaid'. A law counts once. -/
mutual
def uptoBulk {H : Type} : DataW H → Nat
  | .lit (.string bytes) => bytes.length + 1
  | .lit _ => 1
  | .nil => 1
  | .ptr d => uptoBulk d + 1
  | .slice elems spare => uptoBulkAll elems + uptoBulkAll spare + 1
  | .agg parts => uptoBulkAll parts + 1
  | .iface _ d => uptoBulk d + 1
  | .map entries => uptoBulkEntries entries + 1
  | .held _ => 1
def uptoBulkAll {H : Type} : List (DataW H) → Nat
  | [] => 0
  | d :: r => uptoBulk d + uptoBulkAll r
def uptoBulkEntries {H : Type} : List (Lit × DataW H) → Nat
  | [] => 0
  | x :: r => uptoBulkEntry x + uptoBulkEntries r
def uptoBulkEntry {H : Type} : Lit × DataW H → Nat
  | (.string bytes, d) => bytes.length + uptoBulk d + 1
  | (_, d) => uptoBulk d + 1
 end
def uptoSmall : (H : Type) → List (DataW H) → Bool := fun _ ds => decide (uptoBulkAll ds ≤ 1048576)
def OpenSpec.upto (s : _root_.Go.ChangeSpec) : _root_.Go.OpenSpec := { _root_.Go.OpenSpec.ofChange s with cond := some uptoSmall }

/-- 'laws.FnExactCountTilings', WHERE WHAT IT READS IS OF BULK AT MOST 1048576: true; the input reads as it did. -/
def fnExactCountTilingsUptoRow : OpenClaim := { program := "ytkjaahmlnbgnjaa", sum := "28a8a4e5681e68691460515fad84b284b7420c6d71570e9f974d16cbd3d93d7b", func := "loop.example/g01216/laws.FnExactCountTilings", spec := "fnExactCountTilings", unfollowed := true, recurses := true, apart := false, narrowed := true }
def FnExactCountTilingsUptoSaid : Prop := fnExactCountTilingsUptoRow.holds Try.pinned (OpenSpec.upto fnExactCountTilingsSpec)

/-- 'laws.FnExactSwapRows', WHERE WHAT IT READS IS OF BULK AT MOST 1048576: true; the input reads as it did. -/
def fnExactSwapRowsUptoRow : OpenClaim := { program := "ytkjaahmlnbgnjaa", sum := "28a8a4e5681e68691460515fad84b284b7420c6d71570e9f974d16cbd3d93d7b", func := "loop.example/g01216/laws.FnExactSwapRows", spec := "fnExactSwapRows", unfollowed := true, recurses := true, apart := false, narrowed := true }
def FnExactSwapRowsUptoSaid : Prop := fnExactSwapRowsUptoRow.holds Try.pinned (OpenSpec.upto fnExactSwapRowsSpec)

/-- 'laws.FnExactCanSweep', WHERE WHAT IT READS IS OF BULK AT MOST 1048576: true; the input reads as it did. -/
def fnExactCanSweepUptoRow : OpenClaim := { program := "ytkjaahmlnbgnjaa", sum := "28a8a4e5681e68691460515fad84b284b7420c6d71570e9f974d16cbd3d93d7b", func := "loop.example/g01216/laws.FnExactCanSweep", spec := "fnExactCanSweep", unfollowed := true, recurses := true, apart := false, narrowed := true }
def FnExactCanSweepUptoSaid : Prop := fnExactCanSweepUptoRow.holds Try.pinned (OpenSpec.upto fnExactCanSweepSpec)

/-- 'laws.FnExactMovesOn', WHERE WHAT IT READS IS OF BULK AT MOST 1048576: true; the input reads as it did. -/
def fnExactMovesOnUptoRow : OpenClaim := { program := "ytkjaahmlnbgnjaa", sum := "28a8a4e5681e68691460515fad84b284b7420c6d71570e9f974d16cbd3d93d7b", func := "loop.example/g01216/laws.FnExactMovesOn", spec := "fnExactMovesOn", unfollowed := true, recurses := true, apart := false, narrowed := true }
def FnExactMovesOnUptoSaid : Prop := fnExactMovesOnUptoRow.holds Try.pinned (OpenSpec.upto fnExactMovesOnSpec)

/-- 'laws.FnExactCountMagic', WHERE WHAT IT READS IS OF BULK AT MOST 1048576: true; the input reads as it did. -/
def fnExactCountMagicUptoRow : OpenClaim := { program := "ytkjaahmlnbgnjaa", sum := "28a8a4e5681e68691460515fad84b284b7420c6d71570e9f974d16cbd3d93d7b", func := "loop.example/g01216/laws.FnExactCountMagic", spec := "fnExactCountMagic", unfollowed := true, recurses := true, apart := false, narrowed := true }
def FnExactCountMagicUptoSaid : Prop := fnExactCountMagicUptoRow.holds Try.pinned (OpenSpec.upto fnExactCountMagicSpec)

end Rows
end Go.Proofs.Ytkjaahmlnbgnjaa
