/-
  NARROWER THAN 'FOR EVERY INPUT', by the rows' own cells (each row's printed sentence says how): FnExactPatternOf: loops · FnExactPatternValid: loops · FnExactClauseValid: loops · FnExactClausesValid: loops · FnExactPatternVars: loops.
  DERIVED. THE GIVEN ROWS OF THIS SEAT. 12 by the template 'for every input the law returns true; each argument reads behind the call as it read before'; 0 by the template 'total and deterministic' (their statements: YtbffkgfhcmigaaaTotals.lean).
  GIVEN WITH THE SEED: the statements are not yours to turn. If you find one false, say at which input.
  Laid BY PROGRAM, IN A SANDBOX (cutbox-rows.mjs): the forced cells as the released guide's own fill.sh prints them over the translation 0f813558a5f6ccf9… (all of the seat's roots in one cut). By AI agents, Wed Nov 11 2026. No macro, syntax, notation, axiom, sorry.
-/
import Derived.Test.YtbffkgfhcmigaaaChecked
import GoSem.Claim
import GoSem.ClaimJoined
import GoSem.ClaimMapViews
import Derived.JoinedTies
import Derived.KernelRfl
namespace Go.Proofs.Ytbffkgfhcmigaaa
/- THE CELL 'sum', in the pinned program and in every row, IS THE sha256 OF THE DUMP (.gsa) THAT YtbffkgfhcmigaaaProg.lean LOADS. Nothing in Lean hashes anything: it is a label: what it is worth is what the hold of that sum in a sandbox is worth. -/
noncomputable def Try.pinned : Pinned := { name := "ytbffkgfhcmigaaa", sum := "0f813558a5f6ccf9e258fd57bb59c90a6f4e096ba3500c82f4baebd81be389b3", checked := Try.checked }
namespace Rows
def none {H : Type} : Left H := { results := [], args := [] }

/-- 'laws.FnExactPatternOf': WHATEVER THE INPUT: true; the input reads as it did. -/
def fnExactPatternOfSpec : ChangeSpec := { name := "fnExactPatternOf", fn := fun _ => fun
  | [d1, d2, d3] => { results := [.lit (.bool true)], args := [d1, d2, d3] }
  | _ => none }
def fnExactPatternOfRow : OpenClaim := { program := "ytbffkgfhcmigaaa", sum := "0f813558a5f6ccf9e258fd57bb59c90a6f4e096ba3500c82f4baebd81be389b3", func := "loop.example/matchcompiler/laws.FnExactPatternOf", spec := "fnExactPatternOf", unfollowed := true, recurses := true, loops := true, apart := false }
def FnExactPatternOfSaid : Prop := fnExactPatternOfRow.holds Try.pinned (OpenSpec.ofChange fnExactPatternOfSpec)

/-- ITS FALSE NEIGHBOUR: 'it returns false'. Refute it at one input. -/
def fnExactPatternOfWrong : ChangeSpec := { name := "fnExactPatternOf", fn := fun _ => fun
  | [d1, d2, d3] => { results := [.lit (.bool false)], args := [d1, d2, d3] }
  | _ => none }
def FnExactPatternOfWrongFalsely : Prop := fnExactPatternOfRow.holds Try.pinned (OpenSpec.ofChange fnExactPatternOfWrong)

/-- 'laws.FnExactLeastValue': WHATEVER THE INPUT: true; the input reads as it did. -/
def fnExactLeastValueSpec : ChangeSpec := { name := "fnExactLeastValue", fn := fun _ => fun
  | [d1, d2] => { results := [.lit (.bool true)], args := [d1, d2] }
  | _ => none }
def fnExactLeastValueRow : OpenClaim := { program := "ytbffkgfhcmigaaa", sum := "0f813558a5f6ccf9e258fd57bb59c90a6f4e096ba3500c82f4baebd81be389b3", func := "loop.example/matchcompiler/laws.FnExactLeastValue", spec := "fnExactLeastValue", unfollowed := true, recurses := true, apart := false }
def FnExactLeastValueSaid : Prop := fnExactLeastValueRow.holds Try.pinned (OpenSpec.ofChange fnExactLeastValueSpec)

/-- ITS FALSE NEIGHBOUR: 'it returns false'. Refute it at one input. -/
def fnExactLeastValueWrong : ChangeSpec := { name := "fnExactLeastValue", fn := fun _ => fun
  | [d1, d2] => { results := [.lit (.bool false)], args := [d1, d2] }
  | _ => none }
def FnExactLeastValueWrongFalsely : Prop := fnExactLeastValueRow.holds Try.pinned (OpenSpec.ofChange fnExactLeastValueWrong)

/-- 'laws.FnExactPatternValid': WHATEVER THE INPUT: true; the input reads as it did. -/
def fnExactPatternValidSpec : ChangeSpec := { name := "fnExactPatternValid", fn := fun _ => fun
  | [d1, d2, d3] => { results := [.lit (.bool true)], args := [d1, d2, d3] }
  | _ => none }
def fnExactPatternValidRow : OpenClaim := { program := "ytbffkgfhcmigaaa", sum := "0f813558a5f6ccf9e258fd57bb59c90a6f4e096ba3500c82f4baebd81be389b3", func := "loop.example/matchcompiler/laws.FnExactPatternValid", spec := "fnExactPatternValid", unfollowed := true, recurses := true, loops := true, apart := false }
def FnExactPatternValidSaid : Prop := fnExactPatternValidRow.holds Try.pinned (OpenSpec.ofChange fnExactPatternValidSpec)

/-- ITS FALSE NEIGHBOUR: 'it returns false'. Refute it at one input. -/
def fnExactPatternValidWrong : ChangeSpec := { name := "fnExactPatternValid", fn := fun _ => fun
  | [d1, d2, d3] => { results := [.lit (.bool false)], args := [d1, d2, d3] }
  | _ => none }
def FnExactPatternValidWrongFalsely : Prop := fnExactPatternValidRow.holds Try.pinned (OpenSpec.ofChange fnExactPatternValidWrong)

/-- 'laws.FnExactClauseValid': WHATEVER THE INPUT: true; the input reads as it did. -/
def fnExactClauseValidSpec : ChangeSpec := { name := "fnExactClauseValid", fn := fun _ => fun
  | [d1, d2, d3] => { results := [.lit (.bool true)], args := [d1, d2, d3] }
  | _ => none }
def fnExactClauseValidRow : OpenClaim := { program := "ytbffkgfhcmigaaa", sum := "0f813558a5f6ccf9e258fd57bb59c90a6f4e096ba3500c82f4baebd81be389b3", func := "loop.example/matchcompiler/laws.FnExactClauseValid", spec := "fnExactClauseValid", unfollowed := true, recurses := true, loops := true, apart := false }
def FnExactClauseValidSaid : Prop := fnExactClauseValidRow.holds Try.pinned (OpenSpec.ofChange fnExactClauseValidSpec)

/-- ITS FALSE NEIGHBOUR: 'it returns false'. Refute it at one input. -/
def fnExactClauseValidWrong : ChangeSpec := { name := "fnExactClauseValid", fn := fun _ => fun
  | [d1, d2, d3] => { results := [.lit (.bool false)], args := [d1, d2, d3] }
  | _ => none }
def FnExactClauseValidWrongFalsely : Prop := fnExactClauseValidRow.holds Try.pinned (OpenSpec.ofChange fnExactClauseValidWrong)

/-- 'laws.FnExactClausesValid': WHATEVER THE INPUT: true; the input reads as it did. -/
def fnExactClausesValidSpec : ChangeSpec := { name := "fnExactClausesValid", fn := fun _ => fun
  | [d1, d2, d3] => { results := [.lit (.bool true)], args := [d1, d2, d3] }
  | _ => none }
def fnExactClausesValidRow : OpenClaim := { program := "ytbffkgfhcmigaaa", sum := "0f813558a5f6ccf9e258fd57bb59c90a6f4e096ba3500c82f4baebd81be389b3", func := "loop.example/matchcompiler/laws.FnExactClausesValid", spec := "fnExactClausesValid", unfollowed := true, recurses := true, loops := true, apart := false }
def FnExactClausesValidSaid : Prop := fnExactClausesValidRow.holds Try.pinned (OpenSpec.ofChange fnExactClausesValidSpec)

/-- ITS FALSE NEIGHBOUR: 'it returns false'. Refute it at one input. -/
def fnExactClausesValidWrong : ChangeSpec := { name := "fnExactClausesValid", fn := fun _ => fun
  | [d1, d2, d3] => { results := [.lit (.bool false)], args := [d1, d2, d3] }
  | _ => none }
def FnExactClausesValidWrongFalsely : Prop := fnExactClausesValidRow.holds Try.pinned (OpenSpec.ofChange fnExactClausesValidWrong)

/-- 'laws.FnExactPatternVars': WHATEVER THE INPUT: true; the input reads as it did. -/
def fnExactPatternVarsSpec : ChangeSpec := { name := "fnExactPatternVars", fn := fun _ => fun
  | [d1, d2, d3] => { results := [.lit (.bool true)], args := [d1, d2, d3] }
  | _ => none }
def fnExactPatternVarsRow : OpenClaim := { program := "ytbffkgfhcmigaaa", sum := "0f813558a5f6ccf9e258fd57bb59c90a6f4e096ba3500c82f4baebd81be389b3", func := "loop.example/matchcompiler/laws.FnExactPatternVars", spec := "fnExactPatternVars", unfollowed := true, recurses := true, loops := true, apart := false }
def FnExactPatternVarsSaid : Prop := fnExactPatternVarsRow.holds Try.pinned (OpenSpec.ofChange fnExactPatternVarsSpec)

/-- ITS FALSE NEIGHBOUR: 'it returns false'. Refute it at one input. -/
def fnExactPatternVarsWrong : ChangeSpec := { name := "fnExactPatternVars", fn := fun _ => fun
  | [d1, d2, d3] => { results := [.lit (.bool false)], args := [d1, d2, d3] }
  | _ => none }
def FnExactPatternVarsWrongFalsely : Prop := fnExactPatternVarsRow.holds Try.pinned (OpenSpec.ofChange fnExactPatternVarsWrong)

/-- 'laws.FnDepthOf': WHATEVER THE INPUT: true; the input reads as it did. -/
def fnDepthOfSpec : ChangeSpec := { name := "fnDepthOf", fn := fun _ => fun
  | [d] => { results := [.lit (.bool true)], args := [d] }
  | _ => none }
def fnDepthOfRow : OpenClaim := { program := "ytbffkgfhcmigaaa", sum := "0f813558a5f6ccf9e258fd57bb59c90a6f4e096ba3500c82f4baebd81be389b3", func := "loop.example/matchcompiler/laws.FnDepthOf", spec := "fnDepthOf", recurses := true, apart := false }
def FnDepthOfSaid : Prop := fnDepthOfRow.holds Try.pinned (OpenSpec.ofChange fnDepthOfSpec)

/-- ITS FALSE NEIGHBOUR: 'it returns false'. Refute it at one input. -/
def fnDepthOfWrong : ChangeSpec := { name := "fnDepthOf", fn := fun _ => fun
  | [d] => { results := [.lit (.bool false)], args := [d] }
  | _ => none }
def FnDepthOfWrongFalsely : Prop := fnDepthOfRow.holds Try.pinned (OpenSpec.ofChange fnDepthOfWrong)

/-- 'laws.FnCompareValues': WHATEVER THE INPUT: true; the input reads as it did. -/
def fnCompareValuesSpec : ChangeSpec := { name := "fnCompareValues", fn := fun _ => fun
  | [d1, d2] => { results := [.lit (.bool true)], args := [d1, d2] }
  | _ => none }
def fnCompareValuesRow : OpenClaim := { program := "ytbffkgfhcmigaaa", sum := "0f813558a5f6ccf9e258fd57bb59c90a6f4e096ba3500c82f4baebd81be389b3", func := "loop.example/matchcompiler/laws.FnCompareValues", spec := "fnCompareValues", unfollowed := true, recurses := true, apart := false }
def FnCompareValuesSaid : Prop := fnCompareValuesRow.holds Try.pinned (OpenSpec.ofChange fnCompareValuesSpec)

/-- ITS FALSE NEIGHBOUR: 'it returns false'. Refute it at one input. -/
def fnCompareValuesWrong : ChangeSpec := { name := "fnCompareValues", fn := fun _ => fun
  | [d1, d2] => { results := [.lit (.bool false)], args := [d1, d2] }
  | _ => none }
def FnCompareValuesWrongFalsely : Prop := fnCompareValuesRow.holds Try.pinned (OpenSpec.ofChange fnCompareValuesWrong)

/-- 'laws.FnValueParts': WHATEVER THE INPUT: true; the input reads as it did. -/
def fnValuePartsSpec : ChangeSpec := { name := "fnValueParts", fn := fun _ => fun
  | [d] => { results := [.lit (.bool true)], args := [d] }
  | _ => none }
def fnValuePartsRow : OpenClaim := { program := "ytbffkgfhcmigaaa", sum := "0f813558a5f6ccf9e258fd57bb59c90a6f4e096ba3500c82f4baebd81be389b3", func := "loop.example/matchcompiler/laws.FnValueParts", spec := "fnValueParts", unfollowed := true, recurses := true, apart := false }
def FnValuePartsSaid : Prop := fnValuePartsRow.holds Try.pinned (OpenSpec.ofChange fnValuePartsSpec)

/-- ITS FALSE NEIGHBOUR: 'it returns false'. Refute it at one input. -/
def fnValuePartsWrong : ChangeSpec := { name := "fnValueParts", fn := fun _ => fun
  | [d] => { results := [.lit (.bool false)], args := [d] }
  | _ => none }
def FnValuePartsWrongFalsely : Prop := fnValuePartsRow.holds Try.pinned (OpenSpec.ofChange fnValuePartsWrong)

/-- 'laws.FnLeastValue': WHATEVER THE INPUT: true; the input reads as it did. -/
def fnLeastValueSpec : ChangeSpec := { name := "fnLeastValue", fn := fun _ => fun
  | [d] => { results := [.lit (.bool true)], args := [d] }
  | _ => none }
def fnLeastValueRow : OpenClaim := { program := "ytbffkgfhcmigaaa", sum := "0f813558a5f6ccf9e258fd57bb59c90a6f4e096ba3500c82f4baebd81be389b3", func := "loop.example/matchcompiler/laws.FnLeastValue", spec := "fnLeastValue", unfollowed := true, recurses := true, apart := false }
def FnLeastValueSaid : Prop := fnLeastValueRow.holds Try.pinned (OpenSpec.ofChange fnLeastValueSpec)

/-- ITS FALSE NEIGHBOUR: 'it returns false'. Refute it at one input. -/
def fnLeastValueWrong : ChangeSpec := { name := "fnLeastValue", fn := fun _ => fun
  | [d] => { results := [.lit (.bool false)], args := [d] }
  | _ => none }
def FnLeastValueWrongFalsely : Prop := fnLeastValueRow.holds Try.pinned (OpenSpec.ofChange fnLeastValueWrong)

/-- 'laws.FnPatternSame': WHATEVER THE INPUT: true; the input reads as it did. -/
def fnPatternSameSpec : ChangeSpec := { name := "fnPatternSame", fn := fun _ => fun
  | [d] => { results := [.lit (.bool true)], args := [d] }
  | _ => none }
def fnPatternSameRow : OpenClaim := { program := "ytbffkgfhcmigaaa", sum := "0f813558a5f6ccf9e258fd57bb59c90a6f4e096ba3500c82f4baebd81be389b3", func := "loop.example/matchcompiler/laws.FnPatternSame", spec := "fnPatternSame", unfollowed := true, recurses := true, apart := false }
def FnPatternSameSaid : Prop := fnPatternSameRow.holds Try.pinned (OpenSpec.ofChange fnPatternSameSpec)

/-- ITS FALSE NEIGHBOUR: 'it returns false'. Refute it at one input. -/
def fnPatternSameWrong : ChangeSpec := { name := "fnPatternSame", fn := fun _ => fun
  | [d] => { results := [.lit (.bool false)], args := [d] }
  | _ => none }
def FnPatternSameWrongFalsely : Prop := fnPatternSameRow.holds Try.pinned (OpenSpec.ofChange fnPatternSameWrong)

/-- 'laws.FnPatternWide': WHATEVER THE INPUT: true; the input reads as it did. -/
def fnPatternWideSpec : ChangeSpec := { name := "fnPatternWide", fn := fun _ => fun
  | [d] => { results := [.lit (.bool true)], args := [d] }
  | _ => none }
def fnPatternWideRow : OpenClaim := { program := "ytbffkgfhcmigaaa", sum := "0f813558a5f6ccf9e258fd57bb59c90a6f4e096ba3500c82f4baebd81be389b3", func := "loop.example/matchcompiler/laws.FnPatternWide", spec := "fnPatternWide", unfollowed := true, recurses := true, apart := false }
def FnPatternWideSaid : Prop := fnPatternWideRow.holds Try.pinned (OpenSpec.ofChange fnPatternWideSpec)

/-- ITS FALSE NEIGHBOUR: 'it returns false'. Refute it at one input. -/
def fnPatternWideWrong : ChangeSpec := { name := "fnPatternWide", fn := fun _ => fun
  | [d] => { results := [.lit (.bool false)], args := [d] }
  | _ => none }
def FnPatternWideWrongFalsely : Prop := fnPatternWideRow.holds Try.pinned (OpenSpec.ofChange fnPatternWideWrong)

/- THE SECOND FORM. 'bulk': how many values and letters a reading holds, each counted each time it is reached (what is shared counts as often as it is met; a slice's spare places count too). A statement '..UptoSaid' is the law's where the arguments, and the package variables that the reading takes, are together of bulk at most 1048576: NARROWER than '..Said'. Prove '..Said' where nothing that the law and all that it calls make is longer than what came in: it says more and counts as full. Else prove '..UptoSaid'. A law counts once. -/
mutual
def uptoBulk {H : Type} : DataW H → Nat
  | .lit (.string bytes) => bytes.length + 1
  | .lit _ => 1
  | .nil => 1
  | .ptr d => uptoBulk d + 1
  | .slice elems spare => uptoBulkAll elems + uptoBulkAll spare + 1
  | .agg parts => uptoBulkAll parts + 1
  | .iface _ d => uptoBulk d + 1
  | .map entries => uptoBulkEntries entries + 1
  | .held _ => 1
def uptoBulkAll {H : Type} : List (DataW H) → Nat
  | [] => 0
  | d :: r => uptoBulk d + uptoBulkAll r
def uptoBulkEntries {H : Type} : List (Lit × DataW H) → Nat
  | [] => 0
  | x :: r => uptoBulkEntry x + uptoBulkEntries r
def uptoBulkEntry {H : Type} : Lit × DataW H → Nat
  | (.string bytes, d) => bytes.length + uptoBulk d + 1
  | (_, d) => uptoBulk d + 1
 end
def uptoSmall : (H : Type) → List (DataW H) → Bool := fun _ ds => decide (uptoBulkAll ds ≤ 1048576)
def OpenSpec.upto (s : _root_.Go.ChangeSpec) : _root_.Go.OpenSpec := { _root_.Go.OpenSpec.ofChange s with cond := some uptoSmall }

/-- 'laws.FnExactPatternOf', WHERE WHAT IT READS IS OF BULK AT MOST 1048576: true; the input reads as it did. -/
def fnExactPatternOfUptoRow : OpenClaim := { program := "ytbffkgfhcmigaaa", sum := "0f813558a5f6ccf9e258fd57bb59c90a6f4e096ba3500c82f4baebd81be389b3", func := "loop.example/matchcompiler/laws.FnExactPatternOf", spec := "fnExactPatternOf", unfollowed := true, recurses := true, loops := true, apart := false, narrowed := true }
def FnExactPatternOfUptoSaid : Prop := fnExactPatternOfUptoRow.holds Try.pinned (OpenSpec.upto fnExactPatternOfSpec)

/-- 'laws.FnExactLeastValue', WHERE WHAT IT READS IS OF BULK AT MOST 1048576: true; the input reads as it did. -/
def fnExactLeastValueUptoRow : OpenClaim := { program := "ytbffkgfhcmigaaa", sum := "0f813558a5f6ccf9e258fd57bb59c90a6f4e096ba3500c82f4baebd81be389b3", func := "loop.example/matchcompiler/laws.FnExactLeastValue", spec := "fnExactLeastValue", unfollowed := true, recurses := true, apart := false, narrowed := true }
def FnExactLeastValueUptoSaid : Prop := fnExactLeastValueUptoRow.holds Try.pinned (OpenSpec.upto fnExactLeastValueSpec)

/-- 'laws.FnExactPatternValid', WHERE WHAT IT READS IS OF BULK AT MOST 1048576: true; the input reads as it did. -/
def fnExactPatternValidUptoRow : OpenClaim := { program := "ytbffkgfhcmigaaa", sum := "0f813558a5f6ccf9e258fd57bb59c90a6f4e096ba3500c82f4baebd81be389b3", func := "loop.example/matchcompiler/laws.FnExactPatternValid", spec := "fnExactPatternValid", unfollowed := true, recurses := true, loops := true, apart := false, narrowed := true }
def FnExactPatternValidUptoSaid : Prop := fnExactPatternValidUptoRow.holds Try.pinned (OpenSpec.upto fnExactPatternValidSpec)

/-- 'laws.FnExactClauseValid', WHERE WHAT IT READS IS OF BULK AT MOST 1048576: true; the input reads as it did. -/
def fnExactClauseValidUptoRow : OpenClaim := { program := "ytbffkgfhcmigaaa", sum := "0f813558a5f6ccf9e258fd57bb59c90a6f4e096ba3500c82f4baebd81be389b3", func := "loop.example/matchcompiler/laws.FnExactClauseValid", spec := "fnExactClauseValid", unfollowed := true, recurses := true, loops := true, apart := false, narrowed := true }
def FnExactClauseValidUptoSaid : Prop := fnExactClauseValidUptoRow.holds Try.pinned (OpenSpec.upto fnExactClauseValidSpec)

/-- 'laws.FnExactClausesValid', WHERE WHAT IT READS IS OF BULK AT MOST 1048576: true; the input reads as it did. -/
def fnExactClausesValidUptoRow : OpenClaim := { program := "ytbffkgfhcmigaaa", sum := "0f813558a5f6ccf9e258fd57bb59c90a6f4e096ba3500c82f4baebd81be389b3", func := "loop.example/matchcompiler/laws.FnExactClausesValid", spec := "fnExactClausesValid", unfollowed := true, recurses := true, loops := true, apart := false, narrowed := true }
def FnExactClausesValidUptoSaid : Prop := fnExactClausesValidUptoRow.holds Try.pinned (OpenSpec.upto fnExactClausesValidSpec)

/-- 'laws.FnExactPatternVars', WHERE WHAT IT READS IS OF BULK AT MOST 1048576: true; the input reads as it did. -/
def fnExactPatternVarsUptoRow : OpenClaim := { program := "ytbffkgfhcmigaaa", sum := "0f813558a5f6ccf9e258fd57bb59c90a6f4e096ba3500c82f4baebd81be389b3", func := "loop.example/matchcompiler/laws.FnExactPatternVars", spec := "fnExactPatternVars", unfollowed := true, recurses := true, loops := true, apart := false, narrowed := true }
def FnExactPatternVarsUptoSaid : Prop := fnExactPatternVarsUptoRow.holds Try.pinned (OpenSpec.upto fnExactPatternVarsSpec)

/-- 'laws.FnDepthOf', WHERE WHAT IT READS IS OF BULK AT MOST 1048576: true; the input reads as it did. -/
def fnDepthOfUptoRow : OpenClaim := { program := "ytbffkgfhcmigaaa", sum := "0f813558a5f6ccf9e258fd57bb59c90a6f4e096ba3500c82f4baebd81be389b3", func := "loop.example/matchcompiler/laws.FnDepthOf", spec := "fnDepthOf", recurses := true, apart := false, narrowed := true }
def FnDepthOfUptoSaid : Prop := fnDepthOfUptoRow.holds Try.pinned (OpenSpec.upto fnDepthOfSpec)

/-- 'laws.FnCompareValues', WHERE WHAT IT READS IS OF BULK AT MOST 1048576: true; the input reads as it did. -/
def fnCompareValuesUptoRow : OpenClaim := { program := "ytbffkgfhcmigaaa", sum := "0f813558a5f6ccf9e258fd57bb59c90a6f4e096ba3500c82f4baebd81be389b3", func := "loop.example/matchcompiler/laws.FnCompareValues", spec := "fnCompareValues", unfollowed := true, recurses := true, apart := false, narrowed := true }
def FnCompareValuesUptoSaid : Prop := fnCompareValuesUptoRow.holds Try.pinned (OpenSpec.upto fnCompareValuesSpec)

/-- 'laws.FnValueParts', WHERE WHAT IT READS IS OF BULK AT MOST 1048576: true; the input reads as it did. -/
def fnValuePartsUptoRow : OpenClaim := { program := "ytbffkgfhcmigaaa", sum := "0f813558a5f6ccf9e258fd57bb59c90a6f4e096ba3500c82f4baebd81be389b3", func := "loop.example/matchcompiler/laws.FnValueParts", spec := "fnValueParts", unfollowed := true, recurses := true, apart := false, narrowed := true }
def FnValuePartsUptoSaid : Prop := fnValuePartsUptoRow.holds Try.pinned (OpenSpec.upto fnValuePartsSpec)

/-- 'laws.FnLeastValue', WHERE WHAT IT READS IS OF BULK AT MOST 1048576: true; the input reads as it did. -/
def fnLeastValueUptoRow : OpenClaim := { program := "ytbffkgfhcmigaaa", sum := "0f813558a5f6ccf9e258fd57bb59c90a6f4e096ba3500c82f4baebd81be389b3", func := "loop.example/matchcompiler/laws.FnLeastValue", spec := "fnLeastValue", unfollowed := true, recurses := true, apart := false, narrowed := true }
def FnLeastValueUptoSaid : Prop := fnLeastValueUptoRow.holds Try.pinned (OpenSpec.upto fnLeastValueSpec)

/-- 'laws.FnPatternSame', WHERE WHAT IT READS IS OF BULK AT MOST 1048576: true; the input reads as it did. -/
def fnPatternSameUptoRow : OpenClaim := { program := "ytbffkgfhcmigaaa", sum := "0f813558a5f6ccf9e258fd57bb59c90a6f4e096ba3500c82f4baebd81be389b3", func := "loop.example/matchcompiler/laws.FnPatternSame", spec := "fnPatternSame", unfollowed := true, recurses := true, apart := false, narrowed := true }
def FnPatternSameUptoSaid : Prop := fnPatternSameUptoRow.holds Try.pinned (OpenSpec.upto fnPatternSameSpec)

/-- 'laws.FnPatternWide', WHERE WHAT IT READS IS OF BULK AT MOST 1048576: true; the input reads as it did. -/
def fnPatternWideUptoRow : OpenClaim := { program := "ytbffkgfhcmigaaa", sum := "0f813558a5f6ccf9e258fd57bb59c90a6f4e096ba3500c82f4baebd81be389b3", func := "loop.example/matchcompiler/laws.FnPatternWide", spec := "fnPatternWide", unfollowed := true, recurses := true, apart := false, narrowed := true }
def FnPatternWideUptoSaid : Prop := fnPatternWideUptoRow.holds Try.pinned (OpenSpec.upto fnPatternWideSpec)

end Rows
end Go.Proofs.Ytbffkgfhcmigaaa
