/-
  No cell of these rows narrows 'for every input' (looked for: loops, veiled, ifaces, maps, wideKeys, modest, calm, conditions, laid).
  DERIVED. THE GIVEN ROWS OF THIS SEAT. 3 by the template 'for every input the law returns true; each argument reads behind the call as it read before'; 0 by the template 'total and deterministic' (their statements: YtjaojemmbeddfaaGreatTotals.lean).
  GIVEN WITH THE SEED: the statements are not yours to turn. If you find one false, say at which input.
  Laid BY PROGRAM, IN A SANDBOX (cutbox-rows.mjs): the forced cells as the released guide's own fill.sh prints them over the translation fd5d2e212e107082… (all of the seat's roots in one cut). By AI agents, Wed Nov 11 2026. No macro, syntax, notation, axiom, sorry.
-/
import Derived.Test.YtjaojemmbeddfaaGreatChecked
import GoSem.Claim
import GoSem.ClaimJoined
import GoSem.ClaimMapViews
import Derived.JoinedTies
import Derived.KernelRfl
namespace Go.Proofs.YtjaojemmbeddfaaGreat
/- THE CELL 'sum', in the pinned program and in every row, IS THE sha256 OF THE DUMP (.gsa) THAT YtjaojemmbeddfaaGreatProg.lean LOADS. Nothing in Lean hashes anything: it is a label: what it is worth is what the hold of that sum in a sandbox is worth. -/
noncomputable def Tryz.pinned : Pinned := { name := "ytjaojemmbeddfaagreat", sum := "fd5d2e212e107082f35171fb36016ea0b6163bc43a0909d93e590f4e8490acc2", checked := Tryz.checked }
namespace Rows
def none {H : Type} : Left H := { results := [], args := [] }

/-- 'laws.FnExactCountGames': WHATEVER THE INPUT: true; the input reads as it did. -/
def fnExactCountGamesSpec : ChangeSpec := { name := "fnExactCountGames", fn := fun _ => fun
  | [d] => { results := [.lit (.bool true)], args := [d] }
  | _ => none }
def fnExactCountGamesRow : OpenClaim := { program := "ytjaojemmbeddfaagreat", sum := "fd5d2e212e107082f35171fb36016ea0b6163bc43a0909d93e590f4e8490acc2", func := "loop.example/g01216/laws.FnExactCountGames", spec := "fnExactCountGames", inPlace := ["internal/abi.NoEscape", "internal/bytealg.MakeNoZero"], unfollowed := true, recurses := true, apart := false }
def FnExactCountGamesSaid : Prop := fnExactCountGamesRow.holds Tryz.pinned (OpenSpec.ofChange fnExactCountGamesSpec)

/-- ITS FALSE NEIGHBOUR: 'it returns false'. Refute it at one input. -/
def fnExactCountGamesWrong : ChangeSpec := { name := "fnExactCountGames", fn := fun _ => fun
  | [d] => { results := [.lit (.bool false)], args := [d] }
  | _ => none }
def FnExactCountGamesWrongFalsely : Prop := fnExactCountGamesRow.holds Tryz.pinned (OpenSpec.ofChange fnExactCountGamesWrong)

/-- 'laws.FnExactLongestGame': WHATEVER THE INPUT: true; the input reads as it did. -/
def fnExactLongestGameSpec : ChangeSpec := { name := "fnExactLongestGame", fn := fun _ => fun
  | [d] => { results := [.lit (.bool true)], args := [d] }
  | _ => none }
def fnExactLongestGameRow : OpenClaim := { program := "ytjaojemmbeddfaagreat", sum := "fd5d2e212e107082f35171fb36016ea0b6163bc43a0909d93e590f4e8490acc2", func := "loop.example/g01216/laws.FnExactLongestGame", spec := "fnExactLongestGame", inPlace := ["internal/abi.NoEscape", "internal/bytealg.MakeNoZero"], unfollowed := true, recurses := true, apart := false }
def FnExactLongestGameSaid : Prop := fnExactLongestGameRow.holds Tryz.pinned (OpenSpec.ofChange fnExactLongestGameSpec)

/-- ITS FALSE NEIGHBOUR: 'it returns false'. Refute it at one input. -/
def fnExactLongestGameWrong : ChangeSpec := { name := "fnExactLongestGame", fn := fun _ => fun
  | [d] => { results := [.lit (.bool false)], args := [d] }
  | _ => none }
def FnExactLongestGameWrongFalsely : Prop := fnExactLongestGameRow.holds Tryz.pinned (OpenSpec.ofChange fnExactLongestGameWrong)

/-- 'laws.FnExactBestPoints': WHATEVER THE INPUT: true; the input reads as it did. -/
def fnExactBestPointsSpec : ChangeSpec := { name := "fnExactBestPoints", fn := fun _ => fun
  | [d] => { results := [.lit (.bool true)], args := [d] }
  | _ => none }
def fnExactBestPointsRow : OpenClaim := { program := "ytjaojemmbeddfaagreat", sum := "fd5d2e212e107082f35171fb36016ea0b6163bc43a0909d93e590f4e8490acc2", func := "loop.example/g01216/laws.FnExactBestPoints", spec := "fnExactBestPoints", inPlace := ["internal/abi.NoEscape", "internal/bytealg.MakeNoZero"], unfollowed := true, recurses := true, apart := false }
def FnExactBestPointsSaid : Prop := fnExactBestPointsRow.holds Tryz.pinned (OpenSpec.ofChange fnExactBestPointsSpec)

/-- ITS FALSE NEIGHBOUR: 'it returns false'. Refute it at one input. -/
def fnExactBestPointsWrong : ChangeSpec := { name := "fnExactBestPoints", fn := fun _ => fun
  | [d] => { results := [.lit (.bool false)], args := [d] }
  | _ => none }
def FnExactBestPointsWrongFalsely : Prop := fnExactBestPointsRow.holds Tryz.pinned (OpenSpec.ofChange fnExactBestPointsWrong)

/- THE SECOND FORM. 'bulk': how many values and letters a reading holds, each counted each time it is reached (what is shared counts as often as it is met; a slice's spare places count too). A statement '..UptoSaid' is the law's where the arguments, and the package variables that the reading takes, are together of bulk at most 1048576: NARROWER than '..Said'. Prove '..Said' where nothing that the law and all that it calls make is longer than what came in: it says more and counts as full. Else prove '..UptoSaid'. A law counts once. -/
mutual
def uptoBulk {H : Type} : DataW H → Nat
  | .lit (.string bytes) => bytes.length + 1
  | .lit _ => 1
  | .nil => 1
  | .ptr d => uptoBulk d + 1
  | .slice elems spare => uptoBulkAll elems + uptoBulkAll spare + 1
  | .agg parts => uptoBulkAll parts + 1
  | .iface _ d => uptoBulk d + 1
  | .map entries => uptoBulkEntries entries + 1
  | .held _ => 1
def uptoBulkAll {H : Type} : List (DataW H) → Nat
  | [] => 0
  | d :: r => uptoBulk d + uptoBulkAll r
def uptoBulkEntries {H : Type} : List (Lit × DataW H) → Nat
  | [] => 0
  | x :: r => uptoBulkEntry x + uptoBulkEntries r
def uptoBulkEntry {H : Type} : Lit × DataW H → Nat
  | (.string bytes, d) => bytes.length + uptoBulk d + 1
  | (_, d) => uptoBulk d + 1
 end
def uptoSmall : (H : Type) → List (DataW H) → Bool := fun _ ds => decide (uptoBulkAll ds ≤ 1048576)
def OpenSpec.upto (s : _root_.Go.ChangeSpec) : _root_.Go.OpenSpec := { _root_.Go.OpenSpec.ofChange s with cond := some uptoSmall }

/-- 'laws.FnExactCountGames', WHERE WHAT IT READS IS OF BULK AT MOST 1048576: true; the input reads as it did. -/
def fnExactCountGamesUptoRow : OpenClaim := { program := "ytjaojemmbeddfaagreat", sum := "fd5d2e212e107082f35171fb36016ea0b6163bc43a0909d93e590f4e8490acc2", func := "loop.example/g01216/laws.FnExactCountGames", spec := "fnExactCountGames", inPlace := ["internal/abi.NoEscape", "internal/bytealg.MakeNoZero"], unfollowed := true, recurses := true, apart := false, narrowed := true }
def FnExactCountGamesUptoSaid : Prop := fnExactCountGamesUptoRow.holds Tryz.pinned (OpenSpec.upto fnExactCountGamesSpec)

/-- 'laws.FnExactLongestGame', WHERE WHAT IT READS IS OF BULK AT MOST 1048576: true; the input reads as it did. -/
def fnExactLongestGameUptoRow : OpenClaim := { program := "ytjaojemmbeddfaagreat", sum := "fd5d2e212e107082f35171fb36016ea0b6163bc43a0909d93e590f4e8490acc2", func := "loop.example/g01216/laws.FnExactLongestGame", spec := "fnExactLongestGame", inPlace := ["internal/abi.NoEscape", "internal/bytealg.MakeNoZero"], unfollowed := true, recurses := true, apart := false, narrowed := true }
def FnExactLongestGameUptoSaid : Prop := fnExactLongestGameUptoRow.holds Tryz.pinned (OpenSpec.upto fnExactLongestGameSpec)

/-- 'laws.FnExactBestPoints', WHERE WHAT IT READS IS OF BULK AT MOST 1048576: true; the input reads as it did. -/
def fnExactBestPointsUptoRow : OpenClaim := { program := "ytjaojemmbeddfaagreat", sum := "fd5d2e212e107082f35171fb36016ea0b6163bc43a0909d93e590f4e8490acc2", func := "loop.example/g01216/laws.FnExactBestPoints", spec := "fnExactBestPoints", inPlace := ["internal/abi.NoEscape", "internal/bytealg.MakeNoZero"], unfollowed := true, recurses := true, apart := false, narrowed := true }
def FnExactBestPointsUptoSaid : Prop := fnExactBestPointsUptoRow.holds Tryz.pinned (OpenSpec.upto fnExactBestPointsSpec)

end Rows
end Go.Proofs.YtjaojemmbeddfaaGreat
