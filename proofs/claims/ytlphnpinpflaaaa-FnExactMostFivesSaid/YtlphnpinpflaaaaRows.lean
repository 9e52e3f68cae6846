/-
  No cell of these rows narrows 'for every input' (looked for: loops, veiled, ifaces, maps, wideKeys, modest, calm, conditions, laid).
  DERIVED. THE GIVEN ROWS OF THIS SEAT. 9 by the template 'for every input the law returns true; each argument reads behind the call as it read before'; 0 by the template 'total and deterministic' (their statements: YtlphnpinpflaaaaTotals.lean).
  GIVEN WITH THE SEED: the statements are not yours to turn. If you find one false, say at which input.
  Laid BY PROGRAM, IN A SANDBOX (cutbox-rows.mjs): the forced cells as the released guide's own fill.sh prints them over the translation d13952df71d9b5cd… (all of the seat's roots in one cut). By AI agents, Wed Nov 11 2026. No macro, syntax, notation, axiom, sorry.
-/
import Derived.Test.YtlphnpinpflaaaaChecked
import GoSem.Claim
import GoSem.ClaimJoined
import GoSem.ClaimMapViews
import Derived.JoinedTies
import Derived.KernelRfl
namespace Go.Proofs.Ytlphnpinpflaaaa
/- THE CELL 'sum', in the pinned program and in every row, IS THE sha256 OF THE DUMP (.gsa) THAT YtlphnpinpflaaaaProg.lean LOADS. Nothing in Lean hashes anything: it is a label: what it is worth is what the hold of that sum in a sandbox is worth. -/
noncomputable def Try.pinned : Pinned := { name := "ytlphnpinpflaaaa", sum := "d13952df71d9b5cd6473795842741d7749eb3e1cd1d4a56b69586e2254c15486", checked := Try.checked }
namespace Rows
def none {H : Type} : Left H := { results := [], args := [] }

/-- 'laws.FnExactSumOfEnds': WHATEVER THE INPUT: true; the input reads as it did. -/
def fnExactSumOfEndsSpec : ChangeSpec := { name := "fnExactSumOfEnds", fn := fun _ => fun
  | [d] => { results := [.lit (.bool true)], args := [d] }
  | _ => none }
def fnExactSumOfEndsRow : OpenClaim := { program := "ytlphnpinpflaaaa", sum := "d13952df71d9b5cd6473795842741d7749eb3e1cd1d4a56b69586e2254c15486", func := "loop.example/g01216/laws.FnExactSumOfEnds", spec := "fnExactSumOfEnds", apart := false }
def FnExactSumOfEndsSaid : Prop := fnExactSumOfEndsRow.holds Try.pinned (OpenSpec.ofChange fnExactSumOfEndsSpec)

/-- ITS FALSE NEIGHBOUR: 'it returns false'. Refute it at one input. -/
def fnExactSumOfEndsWrong : ChangeSpec := { name := "fnExactSumOfEnds", fn := fun _ => fun
  | [d] => { results := [.lit (.bool false)], args := [d] }
  | _ => none }
def FnExactSumOfEndsWrongFalsely : Prop := fnExactSumOfEndsRow.holds Try.pinned (OpenSpec.ofChange fnExactSumOfEndsWrong)

/-- 'laws.FnExactFivesOf': WHATEVER THE INPUT: true; the input reads as it did. -/
def fnExactFivesOfSpec : ChangeSpec := { name := "fnExactFivesOf", fn := fun _ => fun
  | [d] => { results := [.lit (.bool true)], args := [d] }
  | _ => none }
def fnExactFivesOfRow : OpenClaim := { program := "ytlphnpinpflaaaa", sum := "d13952df71d9b5cd6473795842741d7749eb3e1cd1d4a56b69586e2254c15486", func := "loop.example/g01216/laws.FnExactFivesOf", spec := "fnExactFivesOf", apart := false }
def FnExactFivesOfSaid : Prop := fnExactFivesOfRow.holds Try.pinned (OpenSpec.ofChange fnExactFivesOfSpec)

/-- ITS FALSE NEIGHBOUR: 'it returns false'. Refute it at one input. -/
def fnExactFivesOfWrong : ChangeSpec := { name := "fnExactFivesOf", fn := fun _ => fun
  | [d] => { results := [.lit (.bool false)], args := [d] }
  | _ => none }
def FnExactFivesOfWrongFalsely : Prop := fnExactFivesOfRow.holds Try.pinned (OpenSpec.ofChange fnExactFivesOfWrong)

/-- 'laws.FnExactAllFives': WHATEVER THE INPUT: true; the input reads as it did. -/
def fnExactAllFivesSpec : ChangeSpec := { name := "fnExactAllFives", fn := fun _ => fun
  | [d] => { results := [.lit (.bool true)], args := [d] }
  | _ => none }
def fnExactAllFivesRow : OpenClaim := { program := "ytlphnpinpflaaaa", sum := "d13952df71d9b5cd6473795842741d7749eb3e1cd1d4a56b69586e2254c15486", func := "loop.example/g01216/laws.FnExactAllFives", spec := "fnExactAllFives", apart := false }
def FnExactAllFivesSaid : Prop := fnExactAllFivesRow.holds Try.pinned (OpenSpec.ofChange fnExactAllFivesSpec)

/-- ITS FALSE NEIGHBOUR: 'it returns false'. Refute it at one input. -/
def fnExactAllFivesWrong : ChangeSpec := { name := "fnExactAllFives", fn := fun _ => fun
  | [d] => { results := [.lit (.bool false)], args := [d] }
  | _ => none }
def FnExactAllFivesWrongFalsely : Prop := fnExactAllFivesRow.holds Try.pinned (OpenSpec.ofChange fnExactAllFivesWrong)

/-- 'laws.FnExactRenameSpread': WHATEVER THE INPUT: true; the input reads as it did. -/
def fnExactRenameSpreadSpec : ChangeSpec := { name := "fnExactRenameSpread", fn := fun _ => fun
  | [d1, d2] => { results := [.lit (.bool true)], args := [d1, d2] }
  | _ => none }
def fnExactRenameSpreadRow : OpenClaim := { program := "ytlphnpinpflaaaa", sum := "d13952df71d9b5cd6473795842741d7749eb3e1cd1d4a56b69586e2254c15486", func := "loop.example/g01216/laws.FnExactRenameSpread", spec := "fnExactRenameSpread", unfollowed := true, recurses := true, apart := false }
def FnExactRenameSpreadSaid : Prop := fnExactRenameSpreadRow.holds Try.pinned (OpenSpec.ofChange fnExactRenameSpreadSpec)

/-- ITS FALSE NEIGHBOUR: 'it returns false'. Refute it at one input. -/
def fnExactRenameSpreadWrong : ChangeSpec := { name := "fnExactRenameSpread", fn := fun _ => fun
  | [d1, d2] => { results := [.lit (.bool false)], args := [d1, d2] }
  | _ => none }
def FnExactRenameSpreadWrongFalsely : Prop := fnExactRenameSpreadRow.holds Try.pinned (OpenSpec.ofChange fnExactRenameSpreadWrong)

/-- 'laws.FnExactOpenNumbers': WHATEVER THE INPUT: true; the input reads as it did. -/
def fnExactOpenNumbersSpec : ChangeSpec := { name := "fnExactOpenNumbers", fn := fun _ => fun
  | [d] => { results := [.lit (.bool true)], args := [d] }
  | _ => none }
def fnExactOpenNumbersRow : OpenClaim := { program := "ytlphnpinpflaaaa", sum := "d13952df71d9b5cd6473795842741d7749eb3e1cd1d4a56b69586e2254c15486", func := "loop.example/g01216/laws.FnExactOpenNumbers", spec := "fnExactOpenNumbers", recurses := true, apart := false }
def FnExactOpenNumbersSaid : Prop := fnExactOpenNumbersRow.holds Try.pinned (OpenSpec.ofChange fnExactOpenNumbersSpec)

/-- ITS FALSE NEIGHBOUR: 'it returns false'. Refute it at one input. -/
def fnExactOpenNumbersWrong : ChangeSpec := { name := "fnExactOpenNumbers", fn := fun _ => fun
  | [d] => { results := [.lit (.bool false)], args := [d] }
  | _ => none }
def FnExactOpenNumbersWrongFalsely : Prop := fnExactOpenNumbersRow.holds Try.pinned (OpenSpec.ofChange fnExactOpenNumbersWrong)

/-- 'laws.FnExactCanPlay': WHATEVER THE INPUT: true; the input reads as it did. -/
def fnExactCanPlaySpec : ChangeSpec := { name := "fnExactCanPlay", fn := fun _ => fun
  | [d1, d2] => { results := [.lit (.bool true)], args := [d1, d2] }
  | _ => none }
def fnExactCanPlayRow : OpenClaim := { program := "ytlphnpinpflaaaa", sum := "d13952df71d9b5cd6473795842741d7749eb3e1cd1d4a56b69586e2254c15486", func := "loop.example/g01216/laws.FnExactCanPlay", spec := "fnExactCanPlay", unfollowed := true, recurses := true, apart := false }
def FnExactCanPlaySaid : Prop := fnExactCanPlayRow.holds Try.pinned (OpenSpec.ofChange fnExactCanPlaySpec)

/-- ITS FALSE NEIGHBOUR: 'it returns false'. Refute it at one input. -/
def fnExactCanPlayWrong : ChangeSpec := { name := "fnExactCanPlay", fn := fun _ => fun
  | [d1, d2] => { results := [.lit (.bool false)], args := [d1, d2] }
  | _ => none }
def FnExactCanPlayWrongFalsely : Prop := fnExactCanPlayRow.holds Try.pinned (OpenSpec.ofChange fnExactCanPlayWrong)

/-- 'laws.FnExactPlaysFor': WHATEVER THE INPUT: true; the input reads as it did. -/
def fnExactPlaysForSpec : ChangeSpec := { name := "fnExactPlaysFor", fn := fun _ => fun
  | [d1, d2] => { results := [.lit (.bool true)], args := [d1, d2] }
  | _ => none }
def fnExactPlaysForRow : OpenClaim := { program := "ytlphnpinpflaaaa", sum := "d13952df71d9b5cd6473795842741d7749eb3e1cd1d4a56b69586e2254c15486", func := "loop.example/g01216/laws.FnExactPlaysFor", spec := "fnExactPlaysFor", unfollowed := true, recurses := true, apart := false }
def FnExactPlaysForSaid : Prop := fnExactPlaysForRow.holds Try.pinned (OpenSpec.ofChange fnExactPlaysForSpec)

/-- ITS FALSE NEIGHBOUR: 'it returns false'. Refute it at one input. -/
def fnExactPlaysForWrong : ChangeSpec := { name := "fnExactPlaysFor", fn := fun _ => fun
  | [d1, d2] => { results := [.lit (.bool false)], args := [d1, d2] }
  | _ => none }
def FnExactPlaysForWrongFalsely : Prop := fnExactPlaysForRow.holds Try.pinned (OpenSpec.ofChange fnExactPlaysForWrong)

/-- 'laws.FnExactBestPlay': WHATEVER THE INPUT: true; the input reads as it did. -/
def fnExactBestPlaySpec : ChangeSpec := { name := "fnExactBestPlay", fn := fun _ => fun
  | [d1, d2] => { results := [.lit (.bool true)], args := [d1, d2] }
  | _ => none }
def fnExactBestPlayRow : OpenClaim := { program := "ytlphnpinpflaaaa", sum := "d13952df71d9b5cd6473795842741d7749eb3e1cd1d4a56b69586e2254c15486", func := "loop.example/g01216/laws.FnExactBestPlay", spec := "fnExactBestPlay", unfollowed := true, recurses := true, apart := false }
def FnExactBestPlaySaid : Prop := fnExactBestPlayRow.holds Try.pinned (OpenSpec.ofChange fnExactBestPlaySpec)

/-- ITS FALSE NEIGHBOUR: 'it returns false'. Refute it at one input. -/
def fnExactBestPlayWrong : ChangeSpec := { name := "fnExactBestPlay", fn := fun _ => fun
  | [d1, d2] => { results := [.lit (.bool false)], args := [d1, d2] }
  | _ => none }
def FnExactBestPlayWrongFalsely : Prop := fnExactBestPlayRow.holds Try.pinned (OpenSpec.ofChange fnExactBestPlayWrong)

/-- 'laws.FnExactMostFives': WHATEVER THE INPUT: true; the input reads as it did. -/
def fnExactMostFivesSpec : ChangeSpec := { name := "fnExactMostFives", fn := fun _ => fun
  | [d1, d2] => { results := [.lit (.bool true)], args := [d1, d2] }
  | _ => none }
def fnExactMostFivesRow : OpenClaim := { program := "ytlphnpinpflaaaa", sum := "d13952df71d9b5cd6473795842741d7749eb3e1cd1d4a56b69586e2254c15486", func := "loop.example/g01216/laws.FnExactMostFives", spec := "fnExactMostFives", unfollowed := true, recurses := true, apart := false }
def FnExactMostFivesSaid : Prop := fnExactMostFivesRow.holds Try.pinned (OpenSpec.ofChange fnExactMostFivesSpec)

/-- ITS FALSE NEIGHBOUR: 'it returns false'. Refute it at one input. -/
def fnExactMostFivesWrong : ChangeSpec := { name := "fnExactMostFives", fn := fun _ => fun
  | [d1, d2] => { results := [.lit (.bool false)], args := [d1, d2] }
  | _ => none }
def FnExactMostFivesWrongFalsely : Prop := fnExactMostFivesRow.holds Try.pinned (OpenSpec.ofChange fnExactMostFivesWrong)

/- THE SECOND FORM. 'bulk': how many values and letters a reading holds, each counted each time it is reached (what is shared counts as often as it is met; a slice's spare places count too). A statement '..UptoSaid' is the law's where the arguments, and the package variables that the reading takes, are together of bulk at most 1048576: NARROWER than '..Said'. Prove '..Said' where nothing that the law and all that it calls make is longer than what came in: it says more and counts as full. Else prove '..UptoSaid'. A law counts once. -/
mutual
def uptoBulk {H : Type} : DataW H → Nat
  | .lit (.string bytes) => bytes.length + 1
  | .lit _ => 1
  | .nil => 1
  | .ptr d => uptoBulk d + 1
  | .slice elems spare => uptoBulkAll elems + uptoBulkAll spare + 1
  | .agg parts => uptoBulkAll parts + 1
  | .iface _ d => uptoBulk d + 1
  | .map entries => uptoBulkEntries entries + 1
  | .held _ => 1
def uptoBulkAll {H : Type} : List (DataW H) → Nat
  | [] => 0
  | d :: r => uptoBulk d + uptoBulkAll r
def uptoBulkEntries {H : Type} : List (Lit × DataW H) → Nat
  | [] => 0
  | x :: r => uptoBulkEntry x + uptoBulkEntries r
def uptoBulkEntry {H : Type} : Lit × DataW H → Nat
  | (.string bytes, d) => bytes.length + uptoBulk d + 1
  | (_, d) => uptoBulk d + 1
 end
def uptoSmall : (H : Type) → List (DataW H) → Bool := fun _ ds => decide (uptoBulkAll ds ≤ 1048576)
def OpenSpec.upto (s : _root_.Go.ChangeSpec) : _root_.Go.OpenSpec := { _root_.Go.OpenSpec.ofChange s with cond := some uptoSmall }

/-- 'laws.FnExactSumOfEnds', WHERE WHAT IT READS IS OF BULK AT MOST 1048576: true; the input reads as it did. -/
def fnExactSumOfEndsUptoRow : OpenClaim := { program := "ytlphnpinpflaaaa", sum := "d13952df71d9b5cd6473795842741d7749eb3e1cd1d4a56b69586e2254c15486", func := "loop.example/g01216/laws.FnExactSumOfEnds", spec := "fnExactSumOfEnds", apart := false, narrowed := true }
def FnExactSumOfEndsUptoSaid : Prop := fnExactSumOfEndsUptoRow.holds Try.pinned (OpenSpec.upto fnExactSumOfEndsSpec)

/-- 'laws.FnExactFivesOf', WHERE WHAT IT READS IS OF BULK AT MOST 1048576: true; the input reads as it did. -/
def fnExactFivesOfUptoRow : OpenClaim := { program := "ytlphnpinpflaaaa", sum := "d13952df71d9b5cd6473795842741d7749eb3e1cd1d4a56b69586e2254c15486", func := "loop.example/g01216/laws.FnExactFivesOf", spec := "fnExactFivesOf", apart := false, narrowed := true }
def FnExactFivesOfUptoSaid : Prop := fnExactFivesOfUptoRow.holds Try.pinned (OpenSpec.upto fnExactFivesOfSpec)

/-- 'laws.FnExactAllFives', WHERE WHAT IT READS IS OF BULK AT MOST 1048576: true; the input reads as it did. -/
def fnExactAllFivesUptoRow : OpenClaim := { program := "ytlphnpinpflaaaa", sum := "d13952df71d9b5cd6473795842741d7749eb3e1cd1d4a56b69586e2254c15486", func := "loop.example/g01216/laws.FnExactAllFives", spec := "fnExactAllFives", apart := false, narrowed := true }
def FnExactAllFivesUptoSaid : Prop := fnExactAllFivesUptoRow.holds Try.pinned (OpenSpec.upto fnExactAllFivesSpec)

/-- 'laws.FnExactRenameSpread', WHERE WHAT IT READS IS OF BULK AT MOST 1048576: true; the input reads as it did. -/
def fnExactRenameSpreadUptoRow : OpenClaim := { program := "ytlphnpinpflaaaa", sum := "d13952df71d9b5cd6473795842741d7749eb3e1cd1d4a56b69586e2254c15486", func := "loop.example/g01216/laws.FnExactRenameSpread", spec := "fnExactRenameSpread", unfollowed := true, recurses := true, apart := false, narrowed := true }
def FnExactRenameSpreadUptoSaid : Prop := fnExactRenameSpreadUptoRow.holds Try.pinned (OpenSpec.upto fnExactRenameSpreadSpec)

/-- 'laws.FnExactOpenNumbers', WHERE WHAT IT READS IS OF BULK AT MOST 1048576: true; the input reads as it did. -/
def fnExactOpenNumbersUptoRow : OpenClaim := { program := "ytlphnpinpflaaaa", sum := "d13952df71d9b5cd6473795842741d7749eb3e1cd1d4a56b69586e2254c15486", func := "loop.example/g01216/laws.FnExactOpenNumbers", spec := "fnExactOpenNumbers", recurses := true, apart := false, narrowed := true }
def FnExactOpenNumbersUptoSaid : Prop := fnExactOpenNumbersUptoRow.holds Try.pinned (OpenSpec.upto fnExactOpenNumbersSpec)

/-- 'laws.FnExactCanPlay', WHERE WHAT IT READS IS OF BULK AT MOST 1048576: true; the input reads as it did. -/
def fnExactCanPlayUptoRow : OpenClaim := { program := "ytlphnpinpflaaaa", sum := "d13952df71d9b5cd6473795842741d7749eb3e1cd1d4a56b69586e2254c15486", func := "loop.example/g01216/laws.FnExactCanPlay", spec := "fnExactCanPlay", unfollowed := true, recurses := true, apart := false, narrowed := true }
def FnExactCanPlayUptoSaid : Prop := fnExactCanPlayUptoRow.holds Try.pinned (OpenSpec.upto fnExactCanPlaySpec)

/-- 'laws.FnExactPlaysFor', WHERE WHAT IT READS IS OF BULK AT MOST 1048576: true; the input reads as it did. -/
def fnExactPlaysForUptoRow : OpenClaim := { program := "ytlphnpinpflaaaa", sum := "d13952df71d9b5cd6473795842741d7749eb3e1cd1d4a56b69586e2254c15486", func := "loop.example/g01216/laws.FnExactPlaysFor", spec := "fnExactPlaysFor", unfollowed := true, recurses := true, apart := false, narrowed := true }
def FnExactPlaysForUptoSaid : Prop := fnExactPlaysForUptoRow.holds Try.pinned (OpenSpec.upto fnExactPlaysForSpec)

/-- 'laws.FnExactBestPlay', WHERE WHAT IT READS IS OF BULK AT MOST 1048576: true; the input reads as it did. -/
def fnExactBestPlayUptoRow : OpenClaim := { program := "ytlphnpinpflaaaa", sum := "d13952df71d9b5cd6473795842741d7749eb3e1cd1d4a56b69586e2254c15486", func := "loop.example/g01216/laws.FnExactBestPlay", spec := "fnExactBestPlay", unfollowed := true, recurses := true, apart := false, narrowed := true }
def FnExactBestPlayUptoSaid : Prop := fnExactBestPlayUptoRow.holds Try.pinned (OpenSpec.upto fnExactBestPlaySpec)

/-- 'laws.FnExactMostFives', WHERE WHAT IT READS IS OF BULK AT MOST 1048576: true; the input reads as it did. -/
def fnExactMostFivesUptoRow : OpenClaim := { program := "ytlphnpinpflaaaa", sum := "d13952df71d9b5cd6473795842741d7749eb3e1cd1d4a56b69586e2254c15486", func := "loop.example/g01216/laws.FnExactMostFives", spec := "fnExactMostFives", unfollowed := true, recurses := true, apart := false, narrowed := true }
def FnExactMostFivesUptoSaid : Prop := fnExactMostFivesUptoRow.holds Try.pinned (OpenSpec.upto fnExactMostFivesSpec)

end Rows
end Go.Proofs.Ytlphnpinpflaaaa
