/-
  No cell of these rows narrows 'for every input' (looked for: loops, veiled, ifaces, maps, wideKeys, modest, calm, conditions, laid).
  DERIVED. THE GIVEN ROWS OF THIS SEAT. 7 by the template 'for every input the law returns true; each argument reads behind the call as it read before'; 0 by the template 'total and deterministic' (their statements: YtbejcgknjnhdpaaTotals.lean).
  GIVEN WITH THE SEED: the statements are not yours to turn. If you find one false, say at which input.
  Laid BY PROGRAM, IN A SANDBOX (cutbox-rows.mjs): the forced cells as the released guide's own fill.sh prints them over the translation 1917ba56a4a3032c… (all of the seat's roots in one cut). By AI agents, Wed Nov 11 2026. No macro, syntax, notation, axiom, sorry.
-/
import Derived.Test.YtbejcgknjnhdpaaChecked
import GoSem.Claim
import GoSem.ClaimJoined
import GoSem.ClaimMapViews
import Derived.JoinedTies
import Derived.KernelRfl
namespace Go.Proofs.Ytbejcgknjnhdpaa
/- THE CELL 'sum', in the pinned program and in every row, IS THE sha256 OF THE DUMP (.gsa) THAT YtbejcgknjnhdpaaProg.lean LOADS. Nothing in Lean hashes anything: it is a label: what it is worth is what the hold of that sum in a sandbox is worth. -/
noncomputable def Try.pinned : Pinned := { name := "ytbejcgknjnhdpaa", sum := "1917ba56a4a3032ccb0b29870b86b29989045f4c99f1f6c8e86dd39ac2e62119", checked := Try.checked }
namespace Rows
def none {H : Type} : Left H := { results := [], args := [] }

/-- 'laws.FnWorldPrefix': WHATEVER THE INPUT: true; the input reads as it did. -/
def fnWorldPrefixSpec : ChangeSpec := { name := "fnWorldPrefix", fn := fun _ => fun
  | [d] => { results := [.lit (.bool true)], args := [d] }
  | _ => none }
def fnWorldPrefixRow : OpenClaim := { program := "ytbejcgknjnhdpaa", sum := "1917ba56a4a3032ccb0b29870b86b29989045f4c99f1f6c8e86dd39ac2e62119", func := "loop.example/matchcompiler/laws.FnWorldPrefix", spec := "fnWorldPrefix", unfollowed := true, recurses := true, apart := false }
def FnWorldPrefixSaid : Prop := fnWorldPrefixRow.holds Try.pinned (OpenSpec.ofChange fnWorldPrefixSpec)

/-- ITS FALSE NEIGHBOUR: 'it returns false'. Refute it at one input. -/
def fnWorldPrefixWrong : ChangeSpec := { name := "fnWorldPrefix", fn := fun _ => fun
  | [d] => { results := [.lit (.bool false)], args := [d] }
  | _ => none }
def FnWorldPrefixWrongFalsely : Prop := fnWorldPrefixRow.holds Try.pinned (OpenSpec.ofChange fnWorldPrefixWrong)

/-- 'laws.FnCtorIndex': WHATEVER THE INPUT: true; the input reads as it did. -/
def fnCtorIndexSpec : ChangeSpec := { name := "fnCtorIndex", fn := fun _ => fun
  | [d] => { results := [.lit (.bool true)], args := [d] }
  | _ => none }
def fnCtorIndexRow : OpenClaim := { program := "ytbejcgknjnhdpaa", sum := "1917ba56a4a3032ccb0b29870b86b29989045f4c99f1f6c8e86dd39ac2e62119", func := "loop.example/matchcompiler/laws.FnCtorIndex", spec := "fnCtorIndex", unfollowed := true, recurses := true, apart := false }
def FnCtorIndexSaid : Prop := fnCtorIndexRow.holds Try.pinned (OpenSpec.ofChange fnCtorIndexSpec)

/-- ITS FALSE NEIGHBOUR: 'it returns false'. Refute it at one input. -/
def fnCtorIndexWrong : ChangeSpec := { name := "fnCtorIndex", fn := fun _ => fun
  | [d] => { results := [.lit (.bool false)], args := [d] }
  | _ => none }
def FnCtorIndexWrongFalsely : Prop := fnCtorIndexRow.holds Try.pinned (OpenSpec.ofChange fnCtorIndexWrong)

/-- 'laws.FnCtorsOf': WHATEVER THE INPUT: true; the input reads as it did. -/
def fnCtorsOfSpec : ChangeSpec := { name := "fnCtorsOf", fn := fun _ => fun
  | [d] => { results := [.lit (.bool true)], args := [d] }
  | _ => none }
def fnCtorsOfRow : OpenClaim := { program := "ytbejcgknjnhdpaa", sum := "1917ba56a4a3032ccb0b29870b86b29989045f4c99f1f6c8e86dd39ac2e62119", func := "loop.example/matchcompiler/laws.FnCtorsOf", spec := "fnCtorsOf", unfollowed := true, recurses := true, apart := false }
def FnCtorsOfSaid : Prop := fnCtorsOfRow.holds Try.pinned (OpenSpec.ofChange fnCtorsOfSpec)

/-- ITS FALSE NEIGHBOUR: 'it returns false'. Refute it at one input. -/
def fnCtorsOfWrong : ChangeSpec := { name := "fnCtorsOf", fn := fun _ => fun
  | [d] => { results := [.lit (.bool false)], args := [d] }
  | _ => none }
def FnCtorsOfWrongFalsely : Prop := fnCtorsOfRow.holds Try.pinned (OpenSpec.ofChange fnCtorsOfWrong)

/-- 'laws.FnArgCount': WHATEVER THE INPUT: true; the input reads as it did. -/
def fnArgCountSpec : ChangeSpec := { name := "fnArgCount", fn := fun _ => fun
  | [d] => { results := [.lit (.bool true)], args := [d] }
  | _ => none }
def fnArgCountRow : OpenClaim := { program := "ytbejcgknjnhdpaa", sum := "1917ba56a4a3032ccb0b29870b86b29989045f4c99f1f6c8e86dd39ac2e62119", func := "loop.example/matchcompiler/laws.FnArgCount", spec := "fnArgCount", unfollowed := true, recurses := true, apart := false }
def FnArgCountSaid : Prop := fnArgCountRow.holds Try.pinned (OpenSpec.ofChange fnArgCountSpec)

/-- ITS FALSE NEIGHBOUR: 'it returns false'. Refute it at one input. -/
def fnArgCountWrong : ChangeSpec := { name := "fnArgCount", fn := fun _ => fun
  | [d] => { results := [.lit (.bool false)], args := [d] }
  | _ => none }
def FnArgCountWrongFalsely : Prop := fnArgCountRow.holds Try.pinned (OpenSpec.ofChange fnArgCountWrong)

/-- 'laws.FnArgTypes': WHATEVER THE INPUT: true; the input reads as it did. -/
def fnArgTypesSpec : ChangeSpec := { name := "fnArgTypes", fn := fun _ => fun
  | [d] => { results := [.lit (.bool true)], args := [d] }
  | _ => none }
def fnArgTypesRow : OpenClaim := { program := "ytbejcgknjnhdpaa", sum := "1917ba56a4a3032ccb0b29870b86b29989045f4c99f1f6c8e86dd39ac2e62119", func := "loop.example/matchcompiler/laws.FnArgTypes", spec := "fnArgTypes", unfollowed := true, recurses := true, apart := false }
def FnArgTypesSaid : Prop := fnArgTypesRow.holds Try.pinned (OpenSpec.ofChange fnArgTypesSpec)

/-- ITS FALSE NEIGHBOUR: 'it returns false'. Refute it at one input. -/
def fnArgTypesWrong : ChangeSpec := { name := "fnArgTypes", fn := fun _ => fun
  | [d] => { results := [.lit (.bool false)], args := [d] }
  | _ => none }
def FnArgTypesWrongFalsely : Prop := fnArgTypesRow.holds Try.pinned (OpenSpec.ofChange fnArgTypesWrong)

/-- 'laws.FnWideIndex': WHATEVER THE INPUT: true; the input reads as it did. -/
def fnWideIndexSpec : ChangeSpec := { name := "fnWideIndex", fn := fun _ => fun
  | [d] => { results := [.lit (.bool true)], args := [d] }
  | _ => none }
def fnWideIndexRow : OpenClaim := { program := "ytbejcgknjnhdpaa", sum := "1917ba56a4a3032ccb0b29870b86b29989045f4c99f1f6c8e86dd39ac2e62119", func := "loop.example/matchcompiler/laws.FnWideIndex", spec := "fnWideIndex", unfollowed := true, recurses := true, apart := false }
def FnWideIndexSaid : Prop := fnWideIndexRow.holds Try.pinned (OpenSpec.ofChange fnWideIndexSpec)

/-- ITS FALSE NEIGHBOUR: 'it returns false'. Refute it at one input. -/
def fnWideIndexWrong : ChangeSpec := { name := "fnWideIndex", fn := fun _ => fun
  | [d] => { results := [.lit (.bool false)], args := [d] }
  | _ => none }
def FnWideIndexWrongFalsely : Prop := fnWideIndexRow.holds Try.pinned (OpenSpec.ofChange fnWideIndexWrong)

/-- 'laws.FnLeastDepth': WHATEVER THE INPUT: true; the input reads as it did. -/
def fnLeastDepthSpec : ChangeSpec := { name := "fnLeastDepth", fn := fun _ => fun
  | [d] => { results := [.lit (.bool true)], args := [d] }
  | _ => none }
def fnLeastDepthRow : OpenClaim := { program := "ytbejcgknjnhdpaa", sum := "1917ba56a4a3032ccb0b29870b86b29989045f4c99f1f6c8e86dd39ac2e62119", func := "loop.example/matchcompiler/laws.FnLeastDepth", spec := "fnLeastDepth", unfollowed := true, recurses := true, apart := false }
def FnLeastDepthSaid : Prop := fnLeastDepthRow.holds Try.pinned (OpenSpec.ofChange fnLeastDepthSpec)

/-- ITS FALSE NEIGHBOUR: 'it returns false'. Refute it at one input. -/
def fnLeastDepthWrong : ChangeSpec := { name := "fnLeastDepth", fn := fun _ => fun
  | [d] => { results := [.lit (.bool false)], args := [d] }
  | _ => none }
def FnLeastDepthWrongFalsely : Prop := fnLeastDepthRow.holds Try.pinned (OpenSpec.ofChange fnLeastDepthWrong)

/- THE SECOND FORM. 'bulk': how many values and letters a reading holds, each counted each time it is reached (what is shared counts as often as it is met; a slice's spare places count too). A statement '..UptoSaid' is the law's where the arguments, and the package variables that the reading takes, are together of bulk at most 1048576: NARROWER than '..Said'. Prove '..Said' where nothing that the law and all that it calls make is longer than what came in: it says more and counts as full. Else prove '..UptoSaid'. A law counts once. -/
mutual
def uptoBulk {H : Type} : DataW H → Nat
  | .lit (.string bytes) => bytes.length + 1
  | .lit _ => 1
  | .nil => 1
  | .ptr d => uptoBulk d + 1
  | .slice elems spare => uptoBulkAll elems + uptoBulkAll spare + 1
  | .agg parts => uptoBulkAll parts + 1
  | .iface _ d => uptoBulk d + 1
  | .map entries => uptoBulkEntries entries + 1
  | .held _ => 1
def uptoBulkAll {H : Type} : List (DataW H) → Nat
  | [] => 0
  | d :: r => uptoBulk d + uptoBulkAll r
def uptoBulkEntries {H : Type} : List (Lit × DataW H) → Nat
  | [] => 0
  | x :: r => uptoBulkEntry x + uptoBulkEntries r
def uptoBulkEntry {H : Type} : Lit × DataW H → Nat
  | (.string bytes, d) => bytes.length + uptoBulk d + 1
  | (_, d) => uptoBulk d + 1
 end
def uptoSmall : (H : Type) → List (DataW H) → Bool := fun _ ds => decide (uptoBulkAll ds ≤ 1048576)
def OpenSpec.upto (s : _root_.Go.ChangeSpec) : _root_.Go.OpenSpec := { _root_.Go.OpenSpec.ofChange s with cond := some uptoSmall }

/-- 'laws.FnWorldPrefix', WHERE WHAT IT READS IS OF BULK AT MOST 1048576: true; the input reads as it did. -/
def fnWorldPrefixUptoRow : OpenClaim := { program := "ytbejcgknjnhdpaa", sum := "1917ba56a4a3032ccb0b29870b86b29989045f4c99f1f6c8e86dd39ac2e62119", func := "loop.example/matchcompiler/laws.FnWorldPrefix", spec := "fnWorldPrefix", unfollowed := true, recurses := true, apart := false, narrowed := true }
def FnWorldPrefixUptoSaid : Prop := fnWorldPrefixUptoRow.holds Try.pinned (OpenSpec.upto fnWorldPrefixSpec)

/-- 'laws.FnCtorIndex', WHERE WHAT IT READS IS OF BULK AT MOST 1048576: true; the input reads as it did. -/
def fnCtorIndexUptoRow : OpenClaim := { program := "ytbejcgknjnhdpaa", sum := "1917ba56a4a3032ccb0b29870b86b29989045f4c99f1f6c8e86dd39ac2e62119", func := "loop.example/matchcompiler/laws.FnCtorIndex", spec := "fnCtorIndex", unfollowed := true, recurses := true, apart := false, narrowed := true }
def FnCtorIndexUptoSaid : Prop := fnCtorIndexUptoRow.holds Try.pinned (OpenSpec.upto fnCtorIndexSpec)

/-- 'laws.FnCtorsOf', WHERE WHAT IT READS IS OF BULK AT MOST 1048576: true; the input reads as it did. -/
def fnCtorsOfUptoRow : OpenClaim := { program := "ytbejcgknjnhdpaa", sum := "1917ba56a4a3032ccb0b29870b86b29989045f4c99f1f6c8e86dd39ac2e62119", func := "loop.example/matchcompiler/laws.FnCtorsOf", spec := "fnCtorsOf", unfollowed := true, recurses := true, apart := false, narrowed := true }
def FnCtorsOfUptoSaid : Prop := fnCtorsOfUptoRow.holds Try.pinned (OpenSpec.upto fnCtorsOfSpec)

/-- 'laws.FnArgCount', WHERE WHAT IT READS IS OF BULK AT MOST 1048576: true; the input reads as it did. -/
def fnArgCountUptoRow : OpenClaim := { program := "ytbejcgknjnhdpaa", sum := "1917ba56a4a3032ccb0b29870b86b29989045f4c99f1f6c8e86dd39ac2e62119", func := "loop.example/matchcompiler/laws.FnArgCount", spec := "fnArgCount", unfollowed := true, recurses := true, apart := false, narrowed := true }
def FnArgCountUptoSaid : Prop := fnArgCountUptoRow.holds Try.pinned (OpenSpec.upto fnArgCountSpec)

/-- 'laws.FnArgTypes', WHERE WHAT IT READS IS OF BULK AT MOST 1048576: true; the input reads as it did. -/
def fnArgTypesUptoRow : OpenClaim := { program := "ytbejcgknjnhdpaa", sum := "1917ba56a4a3032ccb0b29870b86b29989045f4c99f1f6c8e86dd39ac2e62119", func := "loop.example/matchcompiler/laws.FnArgTypes", spec := "fnArgTypes", unfollowed := true, recurses := true, apart := false, narrowed := true }
def FnArgTypesUptoSaid : Prop := fnArgTypesUptoRow.holds Try.pinned (OpenSpec.upto fnArgTypesSpec)

/-- 'laws.FnWideIndex', WHERE WHAT IT READS IS OF BULK AT MOST 1048576: true; the input reads as it did. -/
def fnWideIndexUptoRow : OpenClaim := { program := "ytbejcgknjnhdpaa", sum := "1917ba56a4a3032ccb0b29870b86b29989045f4c99f1f6c8e86dd39ac2e62119", func := "loop.example/matchcompiler/laws.FnWideIndex", spec := "fnWideIndex", unfollowed := true, recurses := true, apart := false, narrowed := true }
def FnWideIndexUptoSaid : Prop := fnWideIndexUptoRow.holds Try.pinned (OpenSpec.upto fnWideIndexSpec)

/-- 'laws.FnLeastDepth', WHERE WHAT IT READS IS OF BULK AT MOST 1048576: true; the input reads as it did. -/
def fnLeastDepthUptoRow : OpenClaim := { program := "ytbejcgknjnhdpaa", sum := "1917ba56a4a3032ccb0b29870b86b29989045f4c99f1f6c8e86dd39ac2e62119", func := "loop.example/matchcompiler/laws.FnLeastDepth", spec := "fnLeastDepth", unfollowed := true, recurses := true, apart := false, narrowed := true }
def FnLeastDepthUptoSaid : Prop := fnLeastDepthUptoRow.holds Try.pinned (OpenSpec.upto fnLeastDepthSpec)

end Rows
end Go.Proofs.Ytbejcgknjnhdpaa
