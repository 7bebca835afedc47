/-
  NARROWER THAN 'FOR EVERY INPUT', by the rows' own cells (each row's printed sentence says how): FnExactClausesSame: loops · FnExactPatternValid: loops · FnExactPatternOf: loops · FnExactClauseValid: loops · FnExactClausesValid: loops · FnExactPatternVars: loops · FnExactSplitOr: loops.
  DERIVED. THE GIVEN ROWS OF THIS SEAT. 9 by the template 'for every input the law returns true; each argument reads behind the call as it read before'; 0 by the template 'total and deterministic' (their statements: YtjejbdbfjiocoaaTotals.lean).
  GIVEN WITH THE SEED: the statements are not yours to turn. If you find one false, say at which input.
  Laid BY PROGRAM, IN A SANDBOX (cutbox-rows.mjs): the forced cells as the released guide's own fill.sh prints them over the translation 3389641df5411561… (all of the seat's roots in one cut). By AI agents, Wed Nov 11 2026. No macro, syntax, notation, axiom, sorry.
-/
import Derived.Test.YtjejbdbfjiocoaaChecked
import GoSem.Claim
import GoSem.ClaimJoined
import GoSem.ClaimMapViews
import Derived.JoinedTies
import Derived.KernelRfl
namespace Go.Proofs.Ytjejbdbfjiocoaa
/- THE CELL 'sum', in the pinned program and in every row, IS THE sha256 OF THE DUMP (.gsa) THAT YtjejbdbfjiocoaaProg.lean LOADS. Nothing in Lean hashes anything: it is a label: what it is worth is what the hold of that sum in a sandbox is worth. -/
noncomputable def Try.pinned : Pinned := { name := "ytjejbdbfjiocoaa", sum := "3389641df5411561aeff9078143488c7895569be8f1aa377b674d5df58b9aedc", checked := Try.checked }
namespace Rows
def none {H : Type} : Left H := { results := [], args := [] }

/-- 'laws.FnExactClausesSame': WHATEVER THE INPUT: true; the input reads as it did. -/
def fnExactClausesSameSpec : ChangeSpec := { name := "fnExactClausesSame", fn := fun _ => fun
  | [d1, d2] => { results := [.lit (.bool true)], args := [d1, d2] }
  | _ => none }
def fnExactClausesSameRow : OpenClaim := { program := "ytjejbdbfjiocoaa", sum := "3389641df5411561aeff9078143488c7895569be8f1aa377b674d5df58b9aedc", func := "loop.example/matchcompiler/laws.FnExactClausesSame", spec := "fnExactClausesSame", unfollowed := true, recurses := true, loops := true, apart := false }
def FnExactClausesSameSaid : Prop := fnExactClausesSameRow.holds Try.pinned (OpenSpec.ofChange fnExactClausesSameSpec)

/-- ITS FALSE NEIGHBOUR: 'it returns false'. Refute it at one input. -/
def fnExactClausesSameWrong : ChangeSpec := { name := "fnExactClausesSame", fn := fun _ => fun
  | [d1, d2] => { results := [.lit (.bool false)], args := [d1, d2] }
  | _ => none }
def FnExactClausesSameWrongFalsely : Prop := fnExactClausesSameRow.holds Try.pinned (OpenSpec.ofChange fnExactClausesSameWrong)

/-- 'laws.FnExactValuesUpTo': WHATEVER THE INPUT: true; the input reads as it did. -/
def fnExactValuesUpToSpec : ChangeSpec := { name := "fnExactValuesUpTo", fn := fun _ => fun
  | [d1, d2, d3] => { results := [.lit (.bool true)], args := [d1, d2, d3] }
  | _ => none }
def fnExactValuesUpToRow : OpenClaim := { program := "ytjejbdbfjiocoaa", sum := "3389641df5411561aeff9078143488c7895569be8f1aa377b674d5df58b9aedc", func := "loop.example/matchcompiler/laws.FnExactValuesUpTo", spec := "fnExactValuesUpTo", unfollowed := true, recurses := true, apart := false }
def FnExactValuesUpToSaid : Prop := fnExactValuesUpToRow.holds Try.pinned (OpenSpec.ofChange fnExactValuesUpToSpec)

/-- ITS FALSE NEIGHBOUR: 'it returns false'. Refute it at one input. -/
def fnExactValuesUpToWrong : ChangeSpec := { name := "fnExactValuesUpTo", fn := fun _ => fun
  | [d1, d2, d3] => { results := [.lit (.bool false)], args := [d1, d2, d3] }
  | _ => none }
def FnExactValuesUpToWrongFalsely : Prop := fnExactValuesUpToRow.holds Try.pinned (OpenSpec.ofChange fnExactValuesUpToWrong)

/-- 'laws.FnExactPatternValid': WHATEVER THE INPUT: true; the input reads as it did. -/
def fnExactPatternValidSpec : ChangeSpec := { name := "fnExactPatternValid", fn := fun _ => fun
  | [d1, d2, d3] => { results := [.lit (.bool true)], args := [d1, d2, d3] }
  | _ => none }
def fnExactPatternValidRow : OpenClaim := { program := "ytjejbdbfjiocoaa", sum := "3389641df5411561aeff9078143488c7895569be8f1aa377b674d5df58b9aedc", func := "loop.example/matchcompiler/laws.FnExactPatternValid", spec := "fnExactPatternValid", unfollowed := true, recurses := true, loops := true, apart := false }
def FnExactPatternValidSaid : Prop := fnExactPatternValidRow.holds Try.pinned (OpenSpec.ofChange fnExactPatternValidSpec)

/-- ITS FALSE NEIGHBOUR: 'it returns false'. Refute it at one input. -/
def fnExactPatternValidWrong : ChangeSpec := { name := "fnExactPatternValid", fn := fun _ => fun
  | [d1, d2, d3] => { results := [.lit (.bool false)], args := [d1, d2, d3] }
  | _ => none }
def FnExactPatternValidWrongFalsely : Prop := fnExactPatternValidRow.holds Try.pinned (OpenSpec.ofChange fnExactPatternValidWrong)

/-- 'laws.FnExactPatternOf': WHATEVER THE INPUT: true; the input reads as it did. -/
def fnExactPatternOfSpec : ChangeSpec := { name := "fnExactPatternOf", fn := fun _ => fun
  | [d1, d2, d3] => { results := [.lit (.bool true)], args := [d1, d2, d3] }
  | _ => none }
def fnExactPatternOfRow : OpenClaim := { program := "ytjejbdbfjiocoaa", sum := "3389641df5411561aeff9078143488c7895569be8f1aa377b674d5df58b9aedc", func := "loop.example/matchcompiler/laws.FnExactPatternOf", spec := "fnExactPatternOf", unfollowed := true, recurses := true, loops := true, apart := false }
def FnExactPatternOfSaid : Prop := fnExactPatternOfRow.holds Try.pinned (OpenSpec.ofChange fnExactPatternOfSpec)

/-- ITS FALSE NEIGHBOUR: 'it returns false'. Refute it at one input. -/
def fnExactPatternOfWrong : ChangeSpec := { name := "fnExactPatternOf", fn := fun _ => fun
  | [d1, d2, d3] => { results := [.lit (.bool false)], args := [d1, d2, d3] }
  | _ => none }
def FnExactPatternOfWrongFalsely : Prop := fnExactPatternOfRow.holds Try.pinned (OpenSpec.ofChange fnExactPatternOfWrong)

/-- 'laws.FnExactLeastValue': WHATEVER THE INPUT: true; the input reads as it did. -/
def fnExactLeastValueSpec : ChangeSpec := { name := "fnExactLeastValue", fn := fun _ => fun
  | [d1, d2] => { results := [.lit (.bool true)], args := [d1, d2] }
  | _ => none }
def fnExactLeastValueRow : OpenClaim := { program := "ytjejbdbfjiocoaa", sum := "3389641df5411561aeff9078143488c7895569be8f1aa377b674d5df58b9aedc", func := "loop.example/matchcompiler/laws.FnExactLeastValue", spec := "fnExactLeastValue", unfollowed := true, recurses := true, apart := false }
def FnExactLeastValueSaid : Prop := fnExactLeastValueRow.holds Try.pinned (OpenSpec.ofChange fnExactLeastValueSpec)

/-- ITS FALSE NEIGHBOUR: 'it returns false'. Refute it at one input. -/
def fnExactLeastValueWrong : ChangeSpec := { name := "fnExactLeastValue", fn := fun _ => fun
  | [d1, d2] => { results := [.lit (.bool false)], args := [d1, d2] }
  | _ => none }
def FnExactLeastValueWrongFalsely : Prop := fnExactLeastValueRow.holds Try.pinned (OpenSpec.ofChange fnExactLeastValueWrong)

/-- 'laws.FnExactClauseValid': WHATEVER THE INPUT: true; the input reads as it did. -/
def fnExactClauseValidSpec : ChangeSpec := { name := "fnExactClauseValid", fn := fun _ => fun
  | [d1, d2, d3] => { results := [.lit (.bool true)], args := [d1, d2, d3] }
  | _ => none }
def fnExactClauseValidRow : OpenClaim := { program := "ytjejbdbfjiocoaa", sum := "3389641df5411561aeff9078143488c7895569be8f1aa377b674d5df58b9aedc", func := "loop.example/matchcompiler/laws.FnExactClauseValid", spec := "fnExactClauseValid", unfollowed := true, recurses := true, loops := true, apart := false }
def FnExactClauseValidSaid : Prop := fnExactClauseValidRow.holds Try.pinned (OpenSpec.ofChange fnExactClauseValidSpec)

/-- ITS FALSE NEIGHBOUR: 'it returns false'. Refute it at one input. -/
def fnExactClauseValidWrong : ChangeSpec := { name := "fnExactClauseValid", fn := fun _ => fun
  | [d1, d2, d3] => { results := [.lit (.bool false)], args := [d1, d2, d3] }
  | _ => none }
def FnExactClauseValidWrongFalsely : Prop := fnExactClauseValidRow.holds Try.pinned (OpenSpec.ofChange fnExactClauseValidWrong)

/-- 'laws.FnExactClausesValid': WHATEVER THE INPUT: true; the input reads as it did. -/
def fnExactClausesValidSpec : ChangeSpec := { name := "fnExactClausesValid", fn := fun _ => fun
  | [d1, d2, d3] => { results := [.lit (.bool true)], args := [d1, d2, d3] }
  | _ => none }
def fnExactClausesValidRow : OpenClaim := { program := "ytjejbdbfjiocoaa", sum := "3389641df5411561aeff9078143488c7895569be8f1aa377b674d5df58b9aedc", func := "loop.example/matchcompiler/laws.FnExactClausesValid", spec := "fnExactClausesValid", unfollowed := true, recurses := true, loops := true, apart := false }
def FnExactClausesValidSaid : Prop := fnExactClausesValidRow.holds Try.pinned (OpenSpec.ofChange fnExactClausesValidSpec)

/-- ITS FALSE NEIGHBOUR: 'it returns false'. Refute it at one input. -/
def fnExactClausesValidWrong : ChangeSpec := { name := "fnExactClausesValid", fn := fun _ => fun
  | [d1, d2, d3] => { results := [.lit (.bool false)], args := [d1, d2, d3] }
  | _ => none }
def FnExactClausesValidWrongFalsely : Prop := fnExactClausesValidRow.holds Try.pinned (OpenSpec.ofChange fnExactClausesValidWrong)

/-- 'laws.FnExactPatternVars': WHATEVER THE INPUT: true; the input reads as it did. -/
def fnExactPatternVarsSpec : ChangeSpec := { name := "fnExactPatternVars", fn := fun _ => fun
  | [d1, d2, d3] => { results := [.lit (.bool true)], args := [d1, d2, d3] }
  | _ => none }
def fnExactPatternVarsRow : OpenClaim := { program := "ytjejbdbfjiocoaa", sum := "3389641df5411561aeff9078143488c7895569be8f1aa377b674d5df58b9aedc", func := "loop.example/matchcompiler/laws.FnExactPatternVars", spec := "fnExactPatternVars", unfollowed := true, recurses := true, loops := true, apart := false }
def FnExactPatternVarsSaid : Prop := fnExactPatternVarsRow.holds Try.pinned (OpenSpec.ofChange fnExactPatternVarsSpec)

/-- ITS FALSE NEIGHBOUR: 'it returns false'. Refute it at one input. -/
def fnExactPatternVarsWrong : ChangeSpec := { name := "fnExactPatternVars", fn := fun _ => fun
  | [d1, d2, d3] => { results := [.lit (.bool false)], args := [d1, d2, d3] }
  | _ => none }
def FnExactPatternVarsWrongFalsely : Prop := fnExactPatternVarsRow.holds Try.pinned (OpenSpec.ofChange fnExactPatternVarsWrong)

/-- 'laws.FnExactSplitOr': WHATEVER THE INPUT: true; the input reads as it did. -/
def fnExactSplitOrSpec : ChangeSpec := { name := "fnExactSplitOr", fn := fun _ => fun
  | [d1, d2, d3] => { results := [.lit (.bool true)], args := [d1, d2, d3] }
  | _ => none }
def fnExactSplitOrRow : OpenClaim := { program := "ytjejbdbfjiocoaa", sum := "3389641df5411561aeff9078143488c7895569be8f1aa377b674d5df58b9aedc", func := "loop.example/matchcompiler/laws.FnExactSplitOr", spec := "fnExactSplitOr", unfollowed := true, recurses := true, loops := true, apart := false }
def FnExactSplitOrSaid : Prop := fnExactSplitOrRow.holds Try.pinned (OpenSpec.ofChange fnExactSplitOrSpec)

/-- ITS FALSE NEIGHBOUR: 'it returns false'. Refute it at one input. -/
def fnExactSplitOrWrong : ChangeSpec := { name := "fnExactSplitOr", fn := fun _ => fun
  | [d1, d2, d3] => { results := [.lit (.bool false)], args := [d1, d2, d3] }
  | _ => none }
def FnExactSplitOrWrongFalsely : Prop := fnExactSplitOrRow.holds Try.pinned (OpenSpec.ofChange fnExactSplitOrWrong)

/- THE SECOND FORM. 'bulk': how many values and letters a reading holds, each counted each time it is reached (what is shared counts as often as it is met; a slice's spare places count too). A statement '..UptoSaid' is the law's where the arguments, and the package variables that the reading takes, are together of bulk at most 1048576: NARROWER than '..Said'. Prove '..Said' where nothing that the law and all that it calls make is longer than what came in: it says more and counts as full. Else prove '..UptoSaid'. A law counts once. -/
mutual
def uptoBulk {H : Type} : DataW H → Nat
  | .lit (.string bytes) => bytes.length + 1
  | .lit _ => 1
  | .nil => 1
  | .ptr d => uptoBulk d + 1
  | .slice elems spare => uptoBulkAll elems + uptoBulkAll spare + 1
  | .agg parts => uptoBulkAll parts + 1
  | .iface _ d => uptoBulk d + 1
  | .map entries => uptoBulkEntries entries + 1
  | .held _ => 1
def uptoBulkAll {H : Type} : List (DataW H) → Nat
  | [] => 0
  | d :: r => uptoBulk d + uptoBulkAll r
def uptoBulkEntries {H : Type} : List (Lit × DataW H) → Nat
  | [] => 0
  | x :: r => uptoBulkEntry x + uptoBulkEntries r
def uptoBulkEntry {H : Type} : Lit × DataW H → Nat
  | (.string bytes, d) => bytes.length + uptoBulk d + 1
  | (_, d) => uptoBulk d + 1
 end
def uptoSmall : (H : Type) → List (DataW H) → Bool := fun _ ds => decide (uptoBulkAll ds ≤ 1048576)
def OpenSpec.upto (s : _root_.Go.ChangeSpec) : _root_.Go.OpenSpec := { _root_.Go.OpenSpec.ofChange s with cond := some uptoSmall }

/-- 'laws.FnExactClausesSame', WHERE WHAT IT READS IS OF BULK AT MOST 1048576: true; the input reads as it did. -/
def fnExactClausesSameUptoRow : OpenClaim := { program := "ytjejbdbfjiocoaa", sum := "3389641df5411561aeff9078143488c7895569be8f1aa377b674d5df58b9aedc", func := "loop.example/matchcompiler/laws.FnExactClausesSame", spec := "fnExactClausesSame", unfollowed := true, recurses := true, loops := true, apart := false, narrowed := true }
def FnExactClausesSameUptoSaid : Prop := fnExactClausesSameUptoRow.holds Try.pinned (OpenSpec.upto fnExactClausesSameSpec)

/-- 'laws.FnExactValuesUpTo', WHERE WHAT IT READS IS OF BULK AT MOST 1048576: true; the input reads as it did. -/
def fnExactValuesUpToUptoRow : OpenClaim := { program := "ytjejbdbfjiocoaa", sum := "3389641df5411561aeff9078143488c7895569be8f1aa377b674d5df58b9aedc", func := "loop.example/matchcompiler/laws.FnExactValuesUpTo", spec := "fnExactValuesUpTo", unfollowed := true, recurses := true, apart := false, narrowed := true }
def FnExactValuesUpToUptoSaid : Prop := fnExactValuesUpToUptoRow.holds Try.pinned (OpenSpec.upto fnExactValuesUpToSpec)

/-- 'laws.FnExactPatternValid', WHERE WHAT IT READS IS OF BULK AT MOST 1048576: true; the input reads as it did. -/
def fnExactPatternValidUptoRow : OpenClaim := { program := "ytjejbdbfjiocoaa", sum := "3389641df5411561aeff9078143488c7895569be8f1aa377b674d5df58b9aedc", func := "loop.example/matchcompiler/laws.FnExactPatternValid", spec := "fnExactPatternValid", unfollowed := true, recurses := true, loops := true, apart := false, narrowed := true }
def FnExactPatternValidUptoSaid : Prop := fnExactPatternValidUptoRow.holds Try.pinned (OpenSpec.upto fnExactPatternValidSpec)

/-- 'laws.FnExactPatternOf', WHERE WHAT IT READS IS OF BULK AT MOST 1048576: true; the input reads as it did. -/
def fnExactPatternOfUptoRow : OpenClaim := { program := "ytjejbdbfjiocoaa", sum := "3389641df5411561aeff9078143488c7895569be8f1aa377b674d5df58b9aedc", func := "loop.example/matchcompiler/laws.FnExactPatternOf", spec := "fnExactPatternOf", unfollowed := true, recurses := true, loops := true, apart := false, narrowed := true }
def FnExactPatternOfUptoSaid : Prop := fnExactPatternOfUptoRow.holds Try.pinned (OpenSpec.upto fnExactPatternOfSpec)

/-- 'laws.FnExactLeastValue', WHERE WHAT IT READS IS OF BULK AT MOST 1048576: true; the input reads as it did. -/
def fnExactLeastValueUptoRow : OpenClaim := { program := "ytjejbdbfjiocoaa", sum := "3389641df5411561aeff9078143488c7895569be8f1aa377b674d5df58b9aedc", func := "loop.example/matchcompiler/laws.FnExactLeastValue", spec := "fnExactLeastValue", unfollowed := true, recurses := true, apart := false, narrowed := true }
def FnExactLeastValueUptoSaid : Prop := fnExactLeastValueUptoRow.holds Try.pinned (OpenSpec.upto fnExactLeastValueSpec)

/-- 'laws.FnExactClauseValid', WHERE WHAT IT READS IS OF BULK AT MOST 1048576: true; the input reads as it did. -/
def fnExactClauseValidUptoRow : OpenClaim := { program := "ytjejbdbfjiocoaa", sum := "3389641df5411561aeff9078143488c7895569be8f1aa377b674d5df58b9aedc", func := "loop.example/matchcompiler/laws.FnExactClauseValid", spec := "fnExactClauseValid", unfollowed := true, recurses := true, loops := true, apart := false, narrowed := true }
def FnExactClauseValidUptoSaid : Prop := fnExactClauseValidUptoRow.holds Try.pinned (OpenSpec.upto fnExactClauseValidSpec)

/-- 'laws.FnExactClausesValid', WHERE WHAT IT READS IS OF BULK AT MOST 1048576: true; the input reads as it did. -/
def fnExactClausesValidUptoRow : OpenClaim := { program := "ytjejbdbfjiocoaa", sum := "3389641df5411561aeff9078143488c7895569be8f1aa377b674d5df58b9aedc", func := "loop.example/matchcompiler/laws.FnExactClausesValid", spec := "fnExactClausesValid", unfollowed := true, recurses := true, loops := true, apart := false, narrowed := true }
def FnExactClausesValidUptoSaid : Prop := fnExactClausesValidUptoRow.holds Try.pinned (OpenSpec.upto fnExactClausesValidSpec)

/-- 'laws.FnExactPatternVars', WHERE WHAT IT READS IS OF BULK AT MOST 1048576: true; the input reads as it did. -/
def fnExactPatternVarsUptoRow : OpenClaim := { program := "ytjejbdbfjiocoaa", sum := "3389641df5411561aeff9078143488c7895569be8f1aa377b674d5df58b9aedc", func := "loop.example/matchcompiler/laws.FnExactPatternVars", spec := "fnExactPatternVars", unfollowed := true, recurses := true, loops := true, apart := false, narrowed := true }
def FnExactPatternVarsUptoSaid : Prop := fnExactPatternVarsUptoRow.holds Try.pinned (OpenSpec.upto fnExactPatternVarsSpec)

/-- 'laws.FnExactSplitOr', WHERE WHAT IT READS IS OF BULK AT MOST 1048576: true; the input reads as it did. -/
def fnExactSplitOrUptoRow : OpenClaim := { program := "ytjejbdbfjiocoaa", sum := "3389641df5411561aeff9078143488c7895569be8f1aa377b674d5df58b9aedc", func := "loop.example/matchcompiler/laws.FnExactSplitOr", spec := "fnExactSplitOr", unfollowed := true, recurses := true, loops := true, apart := false, narrowed := true }
def FnExactSplitOrUptoSaid : Prop := fnExactSplitOrUptoRow.holds Try.pinned (OpenSpec.upto fnExactSplitOrSpec)

end Rows
end Go.Proofs.Ytjejbdbfjiocoaa
