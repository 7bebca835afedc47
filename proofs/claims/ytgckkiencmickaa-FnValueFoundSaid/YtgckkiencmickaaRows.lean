/-
  No cell of these rows narrows 'for every input' (looked for: loops, veiled, ifaces, maps, wideKeys, modest, calm, conditions, laid).
  DERIVED. THE GIVEN ROWS OF THIS SEAT. 7 by the template 'for every input the law returns true; each argument reads behind the call as it read before'; 0 by the template 'total and deterministic' (their statements: YtgckkiencmickaaTotals.lean).
  GIVEN WITH THE SEED: the statements are not yours to turn. If you find one false, say at which input.
  Laid BY PROGRAM, IN A SANDBOX (cutbox-rows.mjs): the forced cells as the released guide's own fill.sh prints them over the translation e88d2dabd08f803a… (all of the seat's roots in one cut). By AI agents, Wed Nov 11 2026. No macro, syntax, notation, axiom, sorry.
-/
import Derived.Test.YtgckkiencmickaaChecked
import GoSem.Claim
import GoSem.ClaimJoined
import GoSem.ClaimMapViews
import Derived.JoinedTies
import Derived.KernelRfl
namespace Go.Proofs.Ytgckkiencmickaa
/- THE CELL 'sum', in the pinned program and in every row, IS THE sha256 OF THE DUMP (.gsa) THAT YtgckkiencmickaaProg.lean LOADS. Nothing in Lean hashes anything: it is a label: what it is worth is what the hold of that sum in a sandbox is worth. -/
noncomputable def Try.pinned : Pinned := { name := "ytgckkiencmickaa", sum := "e88d2dabd08f803a69c8e8ca01f938ed78de93d9dd8ee2578b04b2703f34d3c3", checked := Try.checked }
namespace Rows
def none {H : Type} : Left H := { results := [], args := [] }

/-- 'laws.FnDepthOf': WHATEVER THE INPUT: true; the input reads as it did. -/
def fnDepthOfSpec : ChangeSpec := { name := "fnDepthOf", fn := fun _ => fun
  | [d] => { results := [.lit (.bool true)], args := [d] }
  | _ => none }
def fnDepthOfRow : OpenClaim := { program := "ytgckkiencmickaa", sum := "e88d2dabd08f803a69c8e8ca01f938ed78de93d9dd8ee2578b04b2703f34d3c3", func := "loop.example/matchcompiler/laws.FnDepthOf", spec := "fnDepthOf", recurses := true, apart := false }
def FnDepthOfSaid : Prop := fnDepthOfRow.holds Try.pinned (OpenSpec.ofChange fnDepthOfSpec)

/-- ITS FALSE NEIGHBOUR: 'it returns false'. Refute it at one input. -/
def fnDepthOfWrong : ChangeSpec := { name := "fnDepthOf", fn := fun _ => fun
  | [d] => { results := [.lit (.bool false)], args := [d] }
  | _ => none }
def FnDepthOfWrongFalsely : Prop := fnDepthOfRow.holds Try.pinned (OpenSpec.ofChange fnDepthOfWrong)

/-- 'laws.FnCompareValues': WHATEVER THE INPUT: true; the input reads as it did. -/
def fnCompareValuesSpec : ChangeSpec := { name := "fnCompareValues", fn := fun _ => fun
  | [d1, d2] => { results := [.lit (.bool true)], args := [d1, d2] }
  | _ => none }
def fnCompareValuesRow : OpenClaim := { program := "ytgckkiencmickaa", sum := "e88d2dabd08f803a69c8e8ca01f938ed78de93d9dd8ee2578b04b2703f34d3c3", func := "loop.example/matchcompiler/laws.FnCompareValues", spec := "fnCompareValues", unfollowed := true, recurses := true, apart := false }
def FnCompareValuesSaid : Prop := fnCompareValuesRow.holds Try.pinned (OpenSpec.ofChange fnCompareValuesSpec)

/-- ITS FALSE NEIGHBOUR: 'it returns false'. Refute it at one input. -/
def fnCompareValuesWrong : ChangeSpec := { name := "fnCompareValues", fn := fun _ => fun
  | [d1, d2] => { results := [.lit (.bool false)], args := [d1, d2] }
  | _ => none }
def FnCompareValuesWrongFalsely : Prop := fnCompareValuesRow.holds Try.pinned (OpenSpec.ofChange fnCompareValuesWrong)

/-- 'laws.FnValueParts': WHATEVER THE INPUT: true; the input reads as it did. -/
def fnValuePartsSpec : ChangeSpec := { name := "fnValueParts", fn := fun _ => fun
  | [d] => { results := [.lit (.bool true)], args := [d] }
  | _ => none }
def fnValuePartsRow : OpenClaim := { program := "ytgckkiencmickaa", sum := "e88d2dabd08f803a69c8e8ca01f938ed78de93d9dd8ee2578b04b2703f34d3c3", func := "loop.example/matchcompiler/laws.FnValueParts", spec := "fnValueParts", unfollowed := true, recurses := true, apart := false }
def FnValuePartsSaid : Prop := fnValuePartsRow.holds Try.pinned (OpenSpec.ofChange fnValuePartsSpec)

/-- ITS FALSE NEIGHBOUR: 'it returns false'. Refute it at one input. -/
def fnValuePartsWrong : ChangeSpec := { name := "fnValueParts", fn := fun _ => fun
  | [d] => { results := [.lit (.bool false)], args := [d] }
  | _ => none }
def FnValuePartsWrongFalsely : Prop := fnValuePartsRow.holds Try.pinned (OpenSpec.ofChange fnValuePartsWrong)

/-- 'laws.FnValueFound': WHATEVER THE INPUT: true; the input reads as it did. -/
def fnValueFoundSpec : ChangeSpec := { name := "fnValueFound", fn := fun _ => fun
  | [d] => { results := [.lit (.bool true)], args := [d] }
  | _ => none }
def fnValueFoundRow : OpenClaim := { program := "ytgckkiencmickaa", sum := "e88d2dabd08f803a69c8e8ca01f938ed78de93d9dd8ee2578b04b2703f34d3c3", func := "loop.example/matchcompiler/laws.FnValueFound", spec := "fnValueFound", unfollowed := true, recurses := true, apart := false }
def FnValueFoundSaid : Prop := fnValueFoundRow.holds Try.pinned (OpenSpec.ofChange fnValueFoundSpec)

/-- ITS FALSE NEIGHBOUR: 'it returns false'. Refute it at one input. -/
def fnValueFoundWrong : ChangeSpec := { name := "fnValueFound", fn := fun _ => fun
  | [d] => { results := [.lit (.bool false)], args := [d] }
  | _ => none }
def FnValueFoundWrongFalsely : Prop := fnValueFoundRow.holds Try.pinned (OpenSpec.ofChange fnValueFoundWrong)

/-- 'laws.FnSplitParts': WHATEVER THE INPUT: true; the input reads as it did. -/
def fnSplitPartsSpec : ChangeSpec := { name := "fnSplitParts", fn := fun _ => fun
  | [d] => { results := [.lit (.bool true)], args := [d] }
  | _ => none }
def fnSplitPartsRow : OpenClaim := { program := "ytgckkiencmickaa", sum := "e88d2dabd08f803a69c8e8ca01f938ed78de93d9dd8ee2578b04b2703f34d3c3", func := "loop.example/matchcompiler/laws.FnSplitParts", spec := "fnSplitParts", unfollowed := true, recurses := true, apart := false }
def FnSplitPartsSaid : Prop := fnSplitPartsRow.holds Try.pinned (OpenSpec.ofChange fnSplitPartsSpec)

/-- ITS FALSE NEIGHBOUR: 'it returns false'. Refute it at one input. -/
def fnSplitPartsWrong : ChangeSpec := { name := "fnSplitParts", fn := fun _ => fun
  | [d] => { results := [.lit (.bool false)], args := [d] }
  | _ => none }
def FnSplitPartsWrongFalsely : Prop := fnSplitPartsRow.holds Try.pinned (OpenSpec.ofChange fnSplitPartsWrong)

/-- 'laws.FnGuardHolds': WHATEVER THE INPUT: true; the input reads as it did. -/
def fnGuardHoldsSpec : ChangeSpec := { name := "fnGuardHolds", fn := fun _ => fun
  | [d1, d2] => { results := [.lit (.bool true)], args := [d1, d2] }
  | _ => none }
def fnGuardHoldsRow : OpenClaim := { program := "ytgckkiencmickaa", sum := "e88d2dabd08f803a69c8e8ca01f938ed78de93d9dd8ee2578b04b2703f34d3c3", func := "loop.example/matchcompiler/laws.FnGuardHolds", spec := "fnGuardHolds", unfollowed := true, recurses := true, apart := false }
def FnGuardHoldsSaid : Prop := fnGuardHoldsRow.holds Try.pinned (OpenSpec.ofChange fnGuardHoldsSpec)

/-- ITS FALSE NEIGHBOUR: 'it returns false'. Refute it at one input. -/
def fnGuardHoldsWrong : ChangeSpec := { name := "fnGuardHolds", fn := fun _ => fun
  | [d1, d2] => { results := [.lit (.bool false)], args := [d1, d2] }
  | _ => none }
def FnGuardHoldsWrongFalsely : Prop := fnGuardHoldsRow.holds Try.pinned (OpenSpec.ofChange fnGuardHoldsWrong)

/-- 'laws.FnClausesSame': WHATEVER THE INPUT: true; the input reads as it did. -/
def fnClausesSameSpec : ChangeSpec := { name := "fnClausesSame", fn := fun _ => fun
  | [d1, d2] => { results := [.lit (.bool true)], args := [d1, d2] }
  | _ => none }
def fnClausesSameRow : OpenClaim := { program := "ytgckkiencmickaa", sum := "e88d2dabd08f803a69c8e8ca01f938ed78de93d9dd8ee2578b04b2703f34d3c3", func := "loop.example/matchcompiler/laws.FnClausesSame", spec := "fnClausesSame", unfollowed := true, recurses := true, apart := false }
def FnClausesSameSaid : Prop := fnClausesSameRow.holds Try.pinned (OpenSpec.ofChange fnClausesSameSpec)

/-- ITS FALSE NEIGHBOUR: 'it returns false'. Refute it at one input. -/
def fnClausesSameWrong : ChangeSpec := { name := "fnClausesSame", fn := fun _ => fun
  | [d1, d2] => { results := [.lit (.bool false)], args := [d1, d2] }
  | _ => none }
def FnClausesSameWrongFalsely : Prop := fnClausesSameRow.holds Try.pinned (OpenSpec.ofChange fnClausesSameWrong)

/- THE SECOND FORM. 'bulk': how many values and letters a reading holds, each counted each time it is reached (what is shared counts as often as it is met; a slice's spare places count too). A statement '..UptoSaid' is the law's where the arguments, and the package variables that the reading takes, are together of bulk at most 1048576: NARROWER than '..Said'. Prove '..Said' where nothing that the law and all that it calls make is longer than what came in: it says more and counts as full. Else prove '..UptoSaid'. A law counts once. -/
mutual
def uptoBulk {H : Type} : DataW H → Nat
  | .lit (.string bytes) => bytes.length + 1
  | .lit _ => 1
  | .nil => 1
  | .ptr d => uptoBulk d + 1
  | .slice elems spare => uptoBulkAll elems + uptoBulkAll spare + 1
  | .agg parts => uptoBulkAll parts + 1
  | .iface _ d => uptoBulk d + 1
  | .map entries => uptoBulkEntries entries + 1
  | .held _ => 1
def uptoBulkAll {H : Type} : List (DataW H) → Nat
  | [] => 0
  | d :: r => uptoBulk d + uptoBulkAll r
def uptoBulkEntries {H : Type} : List (Lit × DataW H) → Nat
  | [] => 0
  | x :: r => uptoBulkEntry x + uptoBulkEntries r
def uptoBulkEntry {H : Type} : Lit × DataW H → Nat
  | (.string bytes, d) => bytes.length + uptoBulk d + 1
  | (_, d) => uptoBulk d + 1
 end
def uptoSmall : (H : Type) → List (DataW H) → Bool := fun _ ds => decide (uptoBulkAll ds ≤ 1048576)
def OpenSpec.upto (s : _root_.Go.ChangeSpec) : _root_.Go.OpenSpec := { _root_.Go.OpenSpec.ofChange s with cond := some uptoSmall }

/-- 'laws.FnDepthOf', WHERE WHAT IT READS IS OF BULK AT MOST 1048576: true; the input reads as it did. -/
def fnDepthOfUptoRow : OpenClaim := { program := "ytgckkiencmickaa", sum := "e88d2dabd08f803a69c8e8ca01f938ed78de93d9dd8ee2578b04b2703f34d3c3", func := "loop.example/matchcompiler/laws.FnDepthOf", spec := "fnDepthOf", recurses := true, apart := false, narrowed := true }
def FnDepthOfUptoSaid : Prop := fnDepthOfUptoRow.holds Try.pinned (OpenSpec.upto fnDepthOfSpec)

/-- 'laws.FnCompareValues', WHERE WHAT IT READS IS OF BULK AT MOST 1048576: true; the input reads as it did. -/
def fnCompareValuesUptoRow : OpenClaim := { program := "ytgckkiencmickaa", sum := "e88d2dabd08f803a69c8e8ca01f938ed78de93d9dd8ee2578b04b2703f34d3c3", func := "loop.example/matchcompiler/laws.FnCompareValues", spec := "fnCompareValues", unfollowed := true, recurses := true, apart := false, narrowed := true }
def FnCompareValuesUptoSaid : Prop := fnCompareValuesUptoRow.holds Try.pinned (OpenSpec.upto fnCompareValuesSpec)

/-- 'laws.FnValueParts', WHERE WHAT IT READS IS OF BULK AT MOST 1048576: true; the input reads as it did. -/
def fnValuePartsUptoRow : OpenClaim := { program := "ytgckkiencmickaa", sum := "e88d2dabd08f803a69c8e8ca01f938ed78de93d9dd8ee2578b04b2703f34d3c3", func := "loop.example/matchcompiler/laws.FnValueParts", spec := "fnValueParts", unfollowed := true, recurses := true, apart := false, narrowed := true }
def FnValuePartsUptoSaid : Prop := fnValuePartsUptoRow.holds Try.pinned (OpenSpec.upto fnValuePartsSpec)

/-- 'laws.FnValueFound', WHERE WHAT IT READS IS OF BULK AT MOST 1048576: true; the input reads as it did. -/
def fnValueFoundUptoRow : OpenClaim := { program := "ytgckkiencmickaa", sum := "e88d2dabd08f803a69c8e8ca01f938ed78de93d9dd8ee2578b04b2703f34d3c3", func := "loop.example/matchcompiler/laws.FnValueFound", spec := "fnValueFound", unfollowed := true, recurses := true, apart := false, narrowed := true }
def FnValueFoundUptoSaid : Prop := fnValueFoundUptoRow.holds Try.pinned (OpenSpec.upto fnValueFoundSpec)

/-- 'laws.FnSplitParts', WHERE WHAT IT READS IS OF BULK AT MOST 1048576: true; the input reads as it did. -/
def fnSplitPartsUptoRow : OpenClaim := { program := "ytgckkiencmickaa", sum := "e88d2dabd08f803a69c8e8ca01f938ed78de93d9dd8ee2578b04b2703f34d3c3", func := "loop.example/matchcompiler/laws.FnSplitParts", spec := "fnSplitParts", unfollowed := true, recurses := true, apart := false, narrowed := true }
def FnSplitPartsUptoSaid : Prop := fnSplitPartsUptoRow.holds Try.pinned (OpenSpec.upto fnSplitPartsSpec)

/-- 'laws.FnGuardHolds', WHERE WHAT IT READS IS OF BULK AT MOST 1048576: true; the input reads as it did. -/
def fnGuardHoldsUptoRow : OpenClaim := { program := "ytgckkiencmickaa", sum := "e88d2dabd08f803a69c8e8ca01f938ed78de93d9dd8ee2578b04b2703f34d3c3", func := "loop.example/matchcompiler/laws.FnGuardHolds", spec := "fnGuardHolds", unfollowed := true, recurses := true, apart := false, narrowed := true }
def FnGuardHoldsUptoSaid : Prop := fnGuardHoldsUptoRow.holds Try.pinned (OpenSpec.upto fnGuardHoldsSpec)

/-- 'laws.FnClausesSame', WHERE WHAT IT READS IS OF BULK AT MOST 1048576: true; the input reads as it did. -/
def fnClausesSameUptoRow : OpenClaim := { program := "ytgckkiencmickaa", sum := "e88d2dabd08f803a69c8e8ca01f938ed78de93d9dd8ee2578b04b2703f34d3c3", func := "loop.example/matchcompiler/laws.FnClausesSame", spec := "fnClausesSame", unfollowed := true, recurses := true, apart := false, narrowed := true }
def FnClausesSameUptoSaid : Prop := fnClausesSameUptoRow.holds Try.pinned (OpenSpec.upto fnClausesSameSpec)

end Rows
end Go.Proofs.Ytgckkiencmickaa
