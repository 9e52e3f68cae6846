/-
  No cell of these rows narrows 'for every input' (looked for: loops, veiled, ifaces, maps, wideKeys, modest, calm, conditions, laid).
  DERIVED. THE GIVEN ROWS OF THIS SEAT. 3 by the template 'for every input the law returns true; each argument reads behind the call as it read before'; 0 by the template 'total and deterministic' (their statements: YtkjaahmlnbgnjaaGreatTotals.lean).
  GIVEN WITH THE SEED: the statements are not yours to turn. If you find one false, say at which input.
  Laid BY PROGRAM, IN A SANDBOX (cutbox-rows.mjs): the forced cells as the released guide's own fill.sh prints them over the translation e556cb994abac025… (all of the seat's roots in one cut). By AI agents, Wed Nov 11 2026. No macro, syntax, notation, axiom, sorry.
-/
import Derived.Test.YtkjaahmlnbgnjaaGreatChecked
import GoSem.Claim
import GoSem.ClaimJoined
import GoSem.ClaimMapViews
import Derived.JoinedTies
import Derived.KernelRfl
namespace Go.Proofs.YtkjaahmlnbgnjaaGreat
/- THE CELL 'sum', in the pinned program and in every row, IS THE sha256 OF THE DUMP (.gsa) THAT YtkjaahmlnbgnjaaGreatProg.lean LOADS. Nothing in Lean hashes anything: it is a label: what it is worth is what the hold of that sum in a sandbox is worth. -/
noncomputable def Tryz.pinned : Pinned := { name := "ytkjaahmlnbgnjaagreat", sum := "e556cb994abac02555c04f224f623c7849a1e9a7ce08fb4289b32c49908a4b12", checked := Tryz.checked }
namespace Rows
def none {H : Type} : Left H := { results := [], args := [] }

/-- 'laws.FnExactMakeMove': WHATEVER THE INPUT: true; the input reads as it did. -/
def fnExactMakeMoveSpec : ChangeSpec := { name := "fnExactMakeMove", fn := fun _ => fun
  | [d1, d2] => { results := [.lit (.bool true)], args := [d1, d2] }
  | _ => none }
def fnExactMakeMoveRow : OpenClaim := { program := "ytkjaahmlnbgnjaagreat", sum := "e556cb994abac02555c04f224f623c7849a1e9a7ce08fb4289b32c49908a4b12", func := "loop.example/g01216/laws.FnExactMakeMove", spec := "fnExactMakeMove", unfollowed := true, recurses := true, apart := false }
def FnExactMakeMoveSaid : Prop := fnExactMakeMoveRow.holds Tryz.pinned (OpenSpec.ofChange fnExactMakeMoveSpec)

/-- ITS FALSE NEIGHBOUR: 'it returns false'. Refute it at one input. -/
def fnExactMakeMoveWrong : ChangeSpec := { name := "fnExactMakeMove", fn := fun _ => fun
  | [d1, d2] => { results := [.lit (.bool false)], args := [d1, d2] }
  | _ => none }
def FnExactMakeMoveWrongFalsely : Prop := fnExactMakeMoveRow.holds Tryz.pinned (OpenSpec.ofChange fnExactMakeMoveWrong)

/-- 'laws.FnExactHeavyLine': WHATEVER THE INPUT: true; the input reads as it did. -/
def fnExactHeavyLineSpec : ChangeSpec := { name := "fnExactHeavyLine", fn := fun _ => fun
  | [d] => { results := [.lit (.bool true)], args := [d] }
  | _ => none }
def fnExactHeavyLineRow : OpenClaim := { program := "ytkjaahmlnbgnjaagreat", sum := "e556cb994abac02555c04f224f623c7849a1e9a7ce08fb4289b32c49908a4b12", func := "loop.example/g01216/laws.FnExactHeavyLine", spec := "fnExactHeavyLine", unfollowed := true, recurses := true, apart := false }
def FnExactHeavyLineSaid : Prop := fnExactHeavyLineRow.holds Tryz.pinned (OpenSpec.ofChange fnExactHeavyLineSpec)

/-- ITS FALSE NEIGHBOUR: 'it returns false'. Refute it at one input. -/
def fnExactHeavyLineWrong : ChangeSpec := { name := "fnExactHeavyLine", fn := fun _ => fun
  | [d] => { results := [.lit (.bool false)], args := [d] }
  | _ => none }
def FnExactHeavyLineWrongFalsely : Prop := fnExactHeavyLineRow.holds Tryz.pinned (OpenSpec.ofChange fnExactHeavyLineWrong)

/-- 'laws.FnExactPlayMoves': WHATEVER THE INPUT: true; the input reads as it did. -/
def fnExactPlayMovesSpec : ChangeSpec := { name := "fnExactPlayMoves", fn := fun _ => fun
  | [d1, d2] => { results := [.lit (.bool true)], args := [d1, d2] }
  | _ => none }
def fnExactPlayMovesRow : OpenClaim := { program := "ytkjaahmlnbgnjaagreat", sum := "e556cb994abac02555c04f224f623c7849a1e9a7ce08fb4289b32c49908a4b12", func := "loop.example/g01216/laws.FnExactPlayMoves", spec := "fnExactPlayMoves", unfollowed := true, recurses := true, apart := false }
def FnExactPlayMovesSaid : Prop := fnExactPlayMovesRow.holds Tryz.pinned (OpenSpec.ofChange fnExactPlayMovesSpec)

/-- ITS FALSE NEIGHBOUR: 'it returns false'. Refute it at one input. -/
def fnExactPlayMovesWrong : ChangeSpec := { name := "fnExactPlayMoves", fn := fun _ => fun
  | [d1, d2] => { results := [.lit (.bool false)], args := [d1, d2] }
  | _ => none }
def FnExactPlayMovesWrongFalsely : Prop := fnExactPlayMovesRow.holds Tryz.pinned (OpenSpec.ofChange fnExactPlayMovesWrong)

/- THE SECOND FORM. 'bulk': how many values and letters a reading holds, each counted each time it is reached (what is shared counts as often as it is met; a slice's spare places count too). A statement '..UptoSaid' is the law's where the arguments, and the package variables that the reading takes, are together of bulk at most 1048576: NARROWER than '..Said'. Prove '..Said' where nothing that the law and all that it calls make is longer than what came in: it says more and counts as full. Else prove '..UptoSaid'. A law counts once. -/
mutual
def uptoBulk {H : Type} : DataW H → Nat
  | .lit (.string bytes) => bytes.length + 1
  | .lit _ => 1
  | .nil => 1
  | .ptr d => uptoBulk d + 1
  | .slice elems spare => uptoBulkAll elems + uptoBulkAll spare + 1
  | .agg parts => uptoBulkAll parts + 1
  | .iface _ d => uptoBulk d + 1
  | .map entries => uptoBulkEntries entries + 1
  | .held _ => 1
def uptoBulkAll {H : Type} : List (DataW H) → Nat
  | [] => 0
  | d :: r => uptoBulk d + uptoBulkAll r
def uptoBulkEntries {H : Type} : List (Lit × DataW H) → Nat
  | [] => 0
  | x :: r => uptoBulkEntry x + uptoBulkEntries r
def uptoBulkEntry {H : Type} : Lit × DataW H → Nat
  | (.string bytes, d) => bytes.length + uptoBulk d + 1
  | (_, d) => uptoBulk d + 1
 end
def uptoSmall : (H : Type) → List (DataW H) → Bool := fun _ ds => decide (uptoBulkAll ds ≤ 1048576)
def OpenSpec.upto (s : _root_.Go.ChangeSpec) : _root_.Go.OpenSpec := { _root_.Go.OpenSpec.ofChange s with cond := some uptoSmall }

/-- 'laws.FnExactMakeMove', WHERE WHAT IT READS IS OF BULK AT MOST 1048576: true; the input reads as it did. -/
def fnExactMakeMoveUptoRow : OpenClaim := { program := "ytkjaahmlnbgnjaagreat", sum := "e556cb994abac02555c04f224f623c7849a1e9a7ce08fb4289b32c49908a4b12", func := "loop.example/g01216/laws.FnExactMakeMove", spec := "fnExactMakeMove", unfollowed := true, recurses := true, apart := false, narrowed := true }
def FnExactMakeMoveUptoSaid : Prop := fnExactMakeMoveUptoRow.holds Tryz.pinned (OpenSpec.upto fnExactMakeMoveSpec)

/-- 'laws.FnExactHeavyLine', WHERE WHAT IT READS IS OF BULK AT MOST 1048576: true; the input reads as it did. -/
def fnExactHeavyLineUptoRow : OpenClaim := { program := "ytkjaahmlnbgnjaagreat", sum := "e556cb994abac02555c04f224f623c7849a1e9a7ce08fb4289b32c49908a4b12", func := "loop.example/g01216/laws.FnExactHeavyLine", spec := "fnExactHeavyLine", unfollowed := true, recurses := true, apart := false, narrowed := true }
def FnExactHeavyLineUptoSaid : Prop := fnExactHeavyLineUptoRow.holds Tryz.pinned (OpenSpec.upto fnExactHeavyLineSpec)

/-- 'laws.FnExactPlayMoves', WHERE WHAT IT READS IS OF BULK AT MOST 1048576: true; the input reads as it did. -/
def fnExactPlayMovesUptoRow : OpenClaim := { program := "ytkjaahmlnbgnjaagreat", sum := "e556cb994abac02555c04f224f623c7849a1e9a7ce08fb4289b32c49908a4b12", func := "loop.example/g01216/laws.FnExactPlayMoves", spec := "fnExactPlayMoves", unfollowed := true, recurses := true, apart := false, narrowed := true }
def FnExactPlayMovesUptoSaid : Prop := fnExactPlayMovesUptoRow.holds Tryz.pinned (OpenSpec.upto fnExactPlayMovesSpec)

end Rows
end Go.Proofs.YtkjaahmlnbgnjaaGreat
