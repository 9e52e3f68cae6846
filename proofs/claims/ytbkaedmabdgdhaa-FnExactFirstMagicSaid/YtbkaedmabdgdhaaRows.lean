/-
  No cell of these rows narrows 'for every input' (looked for: loops, veiled, ifaces, maps, wideKeys, modest, calm, conditions, laid).
  DERIVED. THE GIVEN ROWS OF THIS SEAT. 5 by the template 'for every input the law returns true; each argument reads behind the call as it read before'; 0 by the template 'total and deterministic' (their statements: YtbkaedmabdgdhaaTotals.lean).
  GIVEN WITH THE SEED: the statements are not yours to turn. If you find one false, say at which input.
  Laid BY PROGRAM, IN A SANDBOX (cutbox-rows.mjs): the forced cells as the released guide's own fill.sh prints them over the translation 3e0de9c984ace56d… (all of the seat's roots in one cut). By AI agents, Wed Nov 11 2026. No macro, syntax, notation, axiom, sorry.
-/
import Derived.Test.YtbkaedmabdgdhaaChecked
import GoSem.Claim
import GoSem.ClaimJoined
import GoSem.ClaimMapViews
import Derived.JoinedTies
import Derived.KernelRfl
namespace Go.Proofs.Ytbkaedmabdgdhaa
/- THE CELL 'sum', in the pinned program and in every row, IS THE sha256 OF THE DUMP (.gsa) THAT YtbkaedmabdgdhaaProg.lean LOADS. Nothing in Lean hashes anything: it is a label: what it is worth is what the hold of that sum in a sandbox is worth. -/
noncomputable def Try.pinned : Pinned := { name := "ytbkaedmabdgdhaa", sum := "3e0de9c984ace56d15e95247e46371cd4c6ff7e4432d3ba3d2d61cf5ea9fc855", checked := Try.checked }
namespace Rows
def none {H : Type} : Left H := { results := [], args := [] }

/-- 'laws.FnExactCountMagic': WHATEVER THE INPUT: true; the input reads as it did. -/
def fnExactCountMagicSpec : ChangeSpec := { name := "fnExactCountMagic", fn := fun _ => fun
  | [d1, d2] => { results := [.lit (.bool true)], args := [d1, d2] }
  | _ => none }
def fnExactCountMagicRow : OpenClaim := { program := "ytbkaedmabdgdhaa", sum := "3e0de9c984ace56d15e95247e46371cd4c6ff7e4432d3ba3d2d61cf5ea9fc855", func := "loop.example/g01216/laws.FnExactCountMagic", spec := "fnExactCountMagic", unfollowed := true, recurses := true, apart := false }
def FnExactCountMagicSaid : Prop := fnExactCountMagicRow.holds Try.pinned (OpenSpec.ofChange fnExactCountMagicSpec)

/-- ITS FALSE NEIGHBOUR: 'it returns false'. Refute it at one input. -/
def fnExactCountMagicWrong : ChangeSpec := { name := "fnExactCountMagic", fn := fun _ => fun
  | [d1, d2] => { results := [.lit (.bool false)], args := [d1, d2] }
  | _ => none }
def FnExactCountMagicWrongFalsely : Prop := fnExactCountMagicRow.holds Try.pinned (OpenSpec.ofChange fnExactCountMagicWrong)

/-- 'laws.FnExactFirstMagic': WHATEVER THE INPUT: true; the input reads as it did. -/
def fnExactFirstMagicSpec : ChangeSpec := { name := "fnExactFirstMagic", fn := fun _ => fun
  | [d1, d2] => { results := [.lit (.bool true)], args := [d1, d2] }
  | _ => none }
def fnExactFirstMagicRow : OpenClaim := { program := "ytbkaedmabdgdhaa", sum := "3e0de9c984ace56d15e95247e46371cd4c6ff7e4432d3ba3d2d61cf5ea9fc855", func := "loop.example/g01216/laws.FnExactFirstMagic", spec := "fnExactFirstMagic", unfollowed := true, recurses := true, apart := false }
def FnExactFirstMagicSaid : Prop := fnExactFirstMagicRow.holds Try.pinned (OpenSpec.ofChange fnExactFirstMagicSpec)

/-- ITS FALSE NEIGHBOUR: 'it returns false'. Refute it at one input. -/
def fnExactFirstMagicWrong : ChangeSpec := { name := "fnExactFirstMagic", fn := fun _ => fun
  | [d1, d2] => { results := [.lit (.bool false)], args := [d1, d2] }
  | _ => none }
def FnExactFirstMagicWrongFalsely : Prop := fnExactFirstMagicRow.holds Try.pinned (OpenSpec.ofChange fnExactFirstMagicWrong)

/-- 'laws.FnExactCountWindows': WHATEVER THE INPUT: true; the input reads as it did. -/
def fnExactCountWindowsSpec : ChangeSpec := { name := "fnExactCountWindows", fn := fun _ => fun
  | [d] => { results := [.lit (.bool true)], args := [d] }
  | _ => none }
def fnExactCountWindowsRow : OpenClaim := { program := "ytbkaedmabdgdhaa", sum := "3e0de9c984ace56d15e95247e46371cd4c6ff7e4432d3ba3d2d61cf5ea9fc855", func := "loop.example/g01216/laws.FnExactCountWindows", spec := "fnExactCountWindows", unfollowed := true, recurses := true, apart := false }
def FnExactCountWindowsSaid : Prop := fnExactCountWindowsRow.holds Try.pinned (OpenSpec.ofChange fnExactCountWindowsSpec)

/-- ITS FALSE NEIGHBOUR: 'it returns false'. Refute it at one input. -/
def fnExactCountWindowsWrong : ChangeSpec := { name := "fnExactCountWindows", fn := fun _ => fun
  | [d] => { results := [.lit (.bool false)], args := [d] }
  | _ => none }
def FnExactCountWindowsWrongFalsely : Prop := fnExactCountWindowsRow.holds Try.pinned (OpenSpec.ofChange fnExactCountWindowsWrong)

/-- 'laws.FnExactAllWindows': WHATEVER THE INPUT: true; the input reads as it did. -/
def fnExactAllWindowsSpec : ChangeSpec := { name := "fnExactAllWindows", fn := fun _ => fun
  | [d] => { results := [.lit (.bool true)], args := [d] }
  | _ => none }
def fnExactAllWindowsRow : OpenClaim := { program := "ytbkaedmabdgdhaa", sum := "3e0de9c984ace56d15e95247e46371cd4c6ff7e4432d3ba3d2d61cf5ea9fc855", func := "loop.example/g01216/laws.FnExactAllWindows", spec := "fnExactAllWindows", unfollowed := true, recurses := true, apart := false }
def FnExactAllWindowsSaid : Prop := fnExactAllWindowsRow.holds Try.pinned (OpenSpec.ofChange fnExactAllWindowsSpec)

/-- ITS FALSE NEIGHBOUR: 'it returns false'. Refute it at one input. -/
def fnExactAllWindowsWrong : ChangeSpec := { name := "fnExactAllWindows", fn := fun _ => fun
  | [d] => { results := [.lit (.bool false)], args := [d] }
  | _ => none }
def FnExactAllWindowsWrongFalsely : Prop := fnExactAllWindowsRow.holds Try.pinned (OpenSpec.ofChange fnExactAllWindowsWrong)

/-- 'laws.FnExactWindowSums': WHATEVER THE INPUT: true; the input reads as it did. -/
def fnExactWindowSumsSpec : ChangeSpec := { name := "fnExactWindowSums", fn := fun _ => fun
  | [d] => { results := [.lit (.bool true)], args := [d] }
  | _ => none }
def fnExactWindowSumsRow : OpenClaim := { program := "ytbkaedmabdgdhaa", sum := "3e0de9c984ace56d15e95247e46371cd4c6ff7e4432d3ba3d2d61cf5ea9fc855", func := "loop.example/g01216/laws.FnExactWindowSums", spec := "fnExactWindowSums", unfollowed := true, recurses := true, apart := false }
def FnExactWindowSumsSaid : Prop := fnExactWindowSumsRow.holds Try.pinned (OpenSpec.ofChange fnExactWindowSumsSpec)

/-- ITS FALSE NEIGHBOUR: 'it returns false'. Refute it at one input. -/
def fnExactWindowSumsWrong : ChangeSpec := { name := "fnExactWindowSums", fn := fun _ => fun
  | [d] => { results := [.lit (.bool false)], args := [d] }
  | _ => none }
def FnExactWindowSumsWrongFalsely : Prop := fnExactWindowSumsRow.holds Try.pinned (OpenSpec.ofChange fnExactWindowSumsWrong)

/- THE SECOND FORM. 'bulk': how many values and letters a reading holds, each counted each time it is reached (what is shared counts as often as it is met; a slice's spare places count too). A statement '..UptoSaid' is the law's where the arguments, and the package variables that the reading takes, are together of bulk at most 1048576: NARROWER than '..Said'. Prove '..Said' where nothing that the law and all that it calls make is longer than what came in: it says more and counts as full. Else prove '..UptoSaid'. A law counts once. -/
mutual
def uptoBulk {H : Type} : DataW H → Nat
  | .lit (.string bytes) => bytes.length + 1
  | .lit _ => 1
  | .nil => 1
  | .ptr d => uptoBulk d + 1
  | .slice elems spare => uptoBulkAll elems + uptoBulkAll spare + 1
  | .agg parts => uptoBulkAll parts + 1
  | .iface _ d => uptoBulk d + 1
  | .map entries => uptoBulkEntries entries + 1
  | .held _ => 1
def uptoBulkAll {H : Type} : List (DataW H) → Nat
  | [] => 0
  | d :: r => uptoBulk d + uptoBulkAll r
def uptoBulkEntries {H : Type} : List (Lit × DataW H) → Nat
  | [] => 0
  | x :: r => uptoBulkEntry x + uptoBulkEntries r
def uptoBulkEntry {H : Type} : Lit × DataW H → Nat
  | (.string bytes, d) => bytes.length + uptoBulk d + 1
  | (_, d) => uptoBulk d + 1
 end
def uptoSmall : (H : Type) → List (DataW H) → Bool := fun _ ds => decide (uptoBulkAll ds ≤ 1048576)
def OpenSpec.upto (s : _root_.Go.ChangeSpec) : _root_.Go.OpenSpec := { _root_.Go.OpenSpec.ofChange s with cond := some uptoSmall }

/-- 'laws.FnExactCountMagic', WHERE WHAT IT READS IS OF BULK AT MOST 1048576: true; the input reads as it did. -/
def fnExactCountMagicUptoRow : OpenClaim := { program := "ytbkaedmabdgdhaa", sum := "3e0de9c984ace56d15e95247e46371cd4c6ff7e4432d3ba3d2d61cf5ea9fc855", func := "loop.example/g01216/laws.FnExactCountMagic", spec := "fnExactCountMagic", unfollowed := true, recurses := true, apart := false, narrowed := true }
def FnExactCountMagicUptoSaid : Prop := fnExactCountMagicUptoRow.holds Try.pinned (OpenSpec.upto fnExactCountMagicSpec)

/-- 'laws.FnExactFirstMagic', WHERE WHAT IT READS IS OF BULK AT MOST 1048576: true; the input reads as it did. -/
def fnExactFirstMagicUptoRow : OpenClaim := { program := "ytbkaedmabdgdhaa", sum := "3e0de9c984ace56d15e95247e46371cd4c6ff7e4432d3ba3d2d61cf5ea9fc855", func := "loop.example/g01216/laws.FnExactFirstMagic", spec := "fnExactFirstMagic", unfollowed := true, recurses := true, apart := false, narrowed := true }
def FnExactFirstMagicUptoSaid : Prop := fnExactFirstMagicUptoRow.holds Try.pinned (OpenSpec.upto fnExactFirstMagicSpec)

/-- 'laws.FnExactCountWindows', WHERE WHAT IT READS IS OF BULK AT MOST 1048576: true; the input reads as it did. -/
def fnExactCountWindowsUptoRow : OpenClaim := { program := "ytbkaedmabdgdhaa", sum := "3e0de9c984ace56d15e95247e46371cd4c6ff7e4432d3ba3d2d61cf5ea9fc855", func := "loop.example/g01216/laws.FnExactCountWindows", spec := "fnExactCountWindows", unfollowed := true, recurses := true, apart := false, narrowed := true }
def FnExactCountWindowsUptoSaid : Prop := fnExactCountWindowsUptoRow.holds Try.pinned (OpenSpec.upto fnExactCountWindowsSpec)

/-- 'laws.FnExactAllWindows', WHERE WHAT IT READS IS OF BULK AT MOST 1048576: true; the input reads as it did. -/
def fnExactAllWindowsUptoRow : OpenClaim := { program := "ytbkaedmabdgdhaa", sum := "3e0de9c984ace56d15e95247e46371cd4c6ff7e4432d3ba3d2d61cf5ea9fc855", func := "loop.example/g01216/laws.FnExactAllWindows", spec := "fnExactAllWindows", unfollowed := true, recurses := true, apart := false, narrowed := true }
def FnExactAllWindowsUptoSaid : Prop := fnExactAllWindowsUptoRow.holds Try.pinned (OpenSpec.upto fnExactAllWindowsSpec)

/-- 'laws.FnExactWindowSums', WHERE WHAT IT READS IS OF BULK AT MOST 1048576: true; the input reads as it did. -/
def fnExactWindowSumsUptoRow : OpenClaim := { program := "ytbkaedmabdgdhaa", sum := "3e0de9c984ace56d15e95247e46371cd4c6ff7e4432d3ba3d2d61cf5ea9fc855", func := "loop.example/g01216/laws.FnExactWindowSums", spec := "fnExactWindowSums", unfollowed := true, recurses := true, apart := false, narrowed := true }
def FnExactWindowSumsUptoSaid : Prop := fnExactWindowSumsUptoRow.holds Try.pinned (OpenSpec.upto fnExactWindowSumsSpec)

end Rows
end Go.Proofs.Ytbkaedmabdgdhaa
