/-
  NARROWER THAN 'FOR EVERY INPUT', by the rows' own cells (each row's printed sentence says how): FnExactDepthOf: loops · FnExactValueSame: loops · FnExactPatternSame: loops · FnExactCompareValues: loops · FnExactGuardHolds: loops.
  DERIVED. THE GIVEN ROWS OF THIS SEAT. 7 by the template 'for every input the law returns true; each argument reads behind the call as it read before'; 0 by the template 'total and deterministic' (their statements: YtjkpionncbmcaaaTotals.lean).
  GIVEN WITH THE SEED: the statements are not yours to turn. If you find one false, say at which input.
  Laid BY PROGRAM, IN A SANDBOX (cutbox-rows.mjs): the forced cells as the released guide's own fill.sh prints them over the translation b3fea2b24c4251ca… (all of the seat's roots in one cut). By AI agents, Wed Nov 11 2026. No macro, syntax, notation, axiom, sorry.
-/
import Derived.Test.YtjkpionncbmcaaaChecked
import GoSem.Claim
import GoSem.ClaimJoined
import GoSem.ClaimMapViews
import Derived.JoinedTies
import Derived.KernelRfl
namespace Go.Proofs.Ytjkpionncbmcaaa
/- THE CELL 'sum', in the pinned program and in every row, IS THE sha256 OF THE DUMP (.gsa) THAT YtjkpionncbmcaaaProg.lean LOADS. Nothing in Lean hashes anything: it is a label: what it is worth is what the hold of that sum in a sandbox is worth. -/
noncomputable def Try.pinned : Pinned := { name := "ytjkpionncbmcaaa", sum := "b3fea2b24c4251ca7503cb0b193857f77307e2d9739314821af46d8bcb44adf0", checked := Try.checked }
namespace Rows
def none {H : Type} : Left H := { results := [], args := [] }

/-- 'laws.FnExactConstants': WHATEVER THE INPUT: true; the input reads as it did. -/
def fnExactConstantsSpec : ChangeSpec := { name := "fnExactConstants", fn := fun _ => fun
  | [] => { results := [.lit (.bool true)], args := [] }
  | _ => none }
def fnExactConstantsRow : OpenClaim := { program := "ytjkpionncbmcaaa", sum := "b3fea2b24c4251ca7503cb0b193857f77307e2d9739314821af46d8bcb44adf0", func := "loop.example/matchcompiler/laws.FnExactConstants", spec := "fnExactConstants", apart := false }
def FnExactConstantsSaid : Prop := fnExactConstantsRow.holds Try.pinned (OpenSpec.ofChange fnExactConstantsSpec)

/-- ITS FALSE NEIGHBOUR: 'it returns false'. Refute it at one input. -/
def fnExactConstantsWrong : ChangeSpec := { name := "fnExactConstants", fn := fun _ => fun
  | [] => { results := [.lit (.bool false)], args := [] }
  | _ => none }
def FnExactConstantsWrongFalsely : Prop := fnExactConstantsRow.holds Try.pinned (OpenSpec.ofChange fnExactConstantsWrong)

/-- 'laws.FnExactNameValid': WHATEVER THE INPUT: true; the input reads as it did. -/
def fnExactNameValidSpec : ChangeSpec := { name := "fnExactNameValid", fn := fun _ => fun
  | [d] => { results := [.lit (.bool true)], args := [d] }
  | _ => none }
def fnExactNameValidRow : OpenClaim := { program := "ytjkpionncbmcaaa", sum := "b3fea2b24c4251ca7503cb0b193857f77307e2d9739314821af46d8bcb44adf0", func := "loop.example/matchcompiler/laws.FnExactNameValid", spec := "fnExactNameValid", apart := false }
def FnExactNameValidSaid : Prop := fnExactNameValidRow.holds Try.pinned (OpenSpec.ofChange fnExactNameValidSpec)

/-- ITS FALSE NEIGHBOUR: 'it returns false'. Refute it at one input. -/
def fnExactNameValidWrong : ChangeSpec := { name := "fnExactNameValid", fn := fun _ => fun
  | [d] => { results := [.lit (.bool false)], args := [d] }
  | _ => none }
def FnExactNameValidWrongFalsely : Prop := fnExactNameValidRow.holds Try.pinned (OpenSpec.ofChange fnExactNameValidWrong)

/-- 'laws.FnExactDepthOf': WHATEVER THE INPUT: true; the input reads as it did. -/
def fnExactDepthOfSpec : ChangeSpec := { name := "fnExactDepthOf", fn := fun _ => fun
  | [d] => { results := [.lit (.bool true)], args := [d] }
  | _ => none }
def fnExactDepthOfRow : OpenClaim := { program := "ytjkpionncbmcaaa", sum := "b3fea2b24c4251ca7503cb0b193857f77307e2d9739314821af46d8bcb44adf0", func := "loop.example/matchcompiler/laws.FnExactDepthOf", spec := "fnExactDepthOf", recurses := true, loops := true, apart := false }
def FnExactDepthOfSaid : Prop := fnExactDepthOfRow.holds Try.pinned (OpenSpec.ofChange fnExactDepthOfSpec)

/-- ITS FALSE NEIGHBOUR: 'it returns false'. Refute it at one input. -/
def fnExactDepthOfWrong : ChangeSpec := { name := "fnExactDepthOf", fn := fun _ => fun
  | [d] => { results := [.lit (.bool false)], args := [d] }
  | _ => none }
def FnExactDepthOfWrongFalsely : Prop := fnExactDepthOfRow.holds Try.pinned (OpenSpec.ofChange fnExactDepthOfWrong)

/-- 'laws.FnExactValueSame': WHATEVER THE INPUT: true; the input reads as it did. -/
def fnExactValueSameSpec : ChangeSpec := { name := "fnExactValueSame", fn := fun _ => fun
  | [d1, d2] => { results := [.lit (.bool true)], args := [d1, d2] }
  | _ => none }
def fnExactValueSameRow : OpenClaim := { program := "ytjkpionncbmcaaa", sum := "b3fea2b24c4251ca7503cb0b193857f77307e2d9739314821af46d8bcb44adf0", func := "loop.example/matchcompiler/laws.FnExactValueSame", spec := "fnExactValueSame", unfollowed := true, recurses := true, loops := true, apart := false }
def FnExactValueSameSaid : Prop := fnExactValueSameRow.holds Try.pinned (OpenSpec.ofChange fnExactValueSameSpec)

/-- ITS FALSE NEIGHBOUR: 'it returns false'. Refute it at one input. -/
def fnExactValueSameWrong : ChangeSpec := { name := "fnExactValueSame", fn := fun _ => fun
  | [d1, d2] => { results := [.lit (.bool false)], args := [d1, d2] }
  | _ => none }
def FnExactValueSameWrongFalsely : Prop := fnExactValueSameRow.holds Try.pinned (OpenSpec.ofChange fnExactValueSameWrong)

/-- 'laws.FnExactPatternSame': WHATEVER THE INPUT: true; the input reads as it did. -/
def fnExactPatternSameSpec : ChangeSpec := { name := "fnExactPatternSame", fn := fun _ => fun
  | [d1, d2] => { results := [.lit (.bool true)], args := [d1, d2] }
  | _ => none }
def fnExactPatternSameRow : OpenClaim := { program := "ytjkpionncbmcaaa", sum := "b3fea2b24c4251ca7503cb0b193857f77307e2d9739314821af46d8bcb44adf0", func := "loop.example/matchcompiler/laws.FnExactPatternSame", spec := "fnExactPatternSame", unfollowed := true, recurses := true, loops := true, apart := false }
def FnExactPatternSameSaid : Prop := fnExactPatternSameRow.holds Try.pinned (OpenSpec.ofChange fnExactPatternSameSpec)

/-- ITS FALSE NEIGHBOUR: 'it returns false'. Refute it at one input. -/
def fnExactPatternSameWrong : ChangeSpec := { name := "fnExactPatternSame", fn := fun _ => fun
  | [d1, d2] => { results := [.lit (.bool false)], args := [d1, d2] }
  | _ => none }
def FnExactPatternSameWrongFalsely : Prop := fnExactPatternSameRow.holds Try.pinned (OpenSpec.ofChange fnExactPatternSameWrong)

/-- 'laws.FnExactCompareValues': WHATEVER THE INPUT: true; the input reads as it did. -/
def fnExactCompareValuesSpec : ChangeSpec := { name := "fnExactCompareValues", fn := fun _ => fun
  | [d1, d2] => { results := [.lit (.bool true)], args := [d1, d2] }
  | _ => none }
def fnExactCompareValuesRow : OpenClaim := { program := "ytjkpionncbmcaaa", sum := "b3fea2b24c4251ca7503cb0b193857f77307e2d9739314821af46d8bcb44adf0", func := "loop.example/matchcompiler/laws.FnExactCompareValues", spec := "fnExactCompareValues", unfollowed := true, recurses := true, loops := true, apart := false }
def FnExactCompareValuesSaid : Prop := fnExactCompareValuesRow.holds Try.pinned (OpenSpec.ofChange fnExactCompareValuesSpec)

/-- ITS FALSE NEIGHBOUR: 'it returns false'. Refute it at one input. -/
def fnExactCompareValuesWrong : ChangeSpec := { name := "fnExactCompareValues", fn := fun _ => fun
  | [d1, d2] => { results := [.lit (.bool false)], args := [d1, d2] }
  | _ => none }
def FnExactCompareValuesWrongFalsely : Prop := fnExactCompareValuesRow.holds Try.pinned (OpenSpec.ofChange fnExactCompareValuesWrong)

/-- 'laws.FnExactGuardHolds': WHATEVER THE INPUT: true; the input reads as it did. -/
def fnExactGuardHoldsSpec : ChangeSpec := { name := "fnExactGuardHolds", fn := fun _ => fun
  | [d1, d2] => { results := [.lit (.bool true)], args := [d1, d2] }
  | _ => none }
def fnExactGuardHoldsRow : OpenClaim := { program := "ytjkpionncbmcaaa", sum := "b3fea2b24c4251ca7503cb0b193857f77307e2d9739314821af46d8bcb44adf0", func := "loop.example/matchcompiler/laws.FnExactGuardHolds", spec := "fnExactGuardHolds", unfollowed := true, recurses := true, loops := true, apart := false }
def FnExactGuardHoldsSaid : Prop := fnExactGuardHoldsRow.holds Try.pinned (OpenSpec.ofChange fnExactGuardHoldsSpec)

/-- ITS FALSE NEIGHBOUR: 'it returns false'. Refute it at one input. -/
def fnExactGuardHoldsWrong : ChangeSpec := { name := "fnExactGuardHolds", fn := fun _ => fun
  | [d1, d2] => { results := [.lit (.bool false)], args := [d1, d2] }
  | _ => none }
def FnExactGuardHoldsWrongFalsely : Prop := fnExactGuardHoldsRow.holds Try.pinned (OpenSpec.ofChange fnExactGuardHoldsWrong)

/- THE SECOND FORM. 'bulk': how many values and letters a reading holds, each counted each time it is reached (what is shared counts as often as it is met; a slice's spare places count too). A statement '..UptoSaid' is the law's where the arguments, and the package variables that the reading takes, are together of bulk at most 1048576: NARROWER than '..Said'. Prove '..Said' where nothing that the law and all that it calls make is longer than what came in: it says more and counts as full. Else prove '..UptoSaid'. A law counts once. -/
mutual
def uptoBulk {H : Type} : DataW H → Nat
  | .lit (.string bytes) => bytes.length + 1
  | .lit _ => 1
  | .nil => 1
  | .ptr d => uptoBulk d + 1
  | .slice elems spare => uptoBulkAll elems + uptoBulkAll spare + 1
  | .agg parts => uptoBulkAll parts + 1
  | .iface _ d => uptoBulk d + 1
  | .map entries => uptoBulkEntries entries + 1
  | .held _ => 1
def uptoBulkAll {H : Type} : List (DataW H) → Nat
  | [] => 0
  | d :: r => uptoBulk d + uptoBulkAll r
def uptoBulkEntries {H : Type} : List (Lit × DataW H) → Nat
  | [] => 0
  | x :: r => uptoBulkEntry x + uptoBulkEntries r
def uptoBulkEntry {H : Type} : Lit × DataW H → Nat
  | (.string bytes, d) => bytes.length + uptoBulk d + 1
  | (_, d) => uptoBulk d + 1
 end
def uptoSmall : (H : Type) → List (DataW H) → Bool := fun _ ds => decide (uptoBulkAll ds ≤ 1048576)
def OpenSpec.upto (s : _root_.Go.ChangeSpec) : _root_.Go.OpenSpec := { _root_.Go.OpenSpec.ofChange s with cond := some uptoSmall }

/-- 'laws.FnExactConstants', WHERE WHAT IT READS IS OF BULK AT MOST 1048576: true; the input reads as it did. -/
def fnExactConstantsUptoRow : OpenClaim := { program := "ytjkpionncbmcaaa", sum := "b3fea2b24c4251ca7503cb0b193857f77307e2d9739314821af46d8bcb44adf0", func := "loop.example/matchcompiler/laws.FnExactConstants", spec := "fnExactConstants", apart := false, narrowed := true }
def FnExactConstantsUptoSaid : Prop := fnExactConstantsUptoRow.holds Try.pinned (OpenSpec.upto fnExactConstantsSpec)

/-- 'laws.FnExactNameValid', WHERE WHAT IT READS IS OF BULK AT MOST 1048576: true; the input reads as it did. -/
def fnExactNameValidUptoRow : OpenClaim := { program := "ytjkpionncbmcaaa", sum := "b3fea2b24c4251ca7503cb0b193857f77307e2d9739314821af46d8bcb44adf0", func := "loop.example/matchcompiler/laws.FnExactNameValid", spec := "fnExactNameValid", apart := false, narrowed := true }
def FnExactNameValidUptoSaid : Prop := fnExactNameValidUptoRow.holds Try.pinned (OpenSpec.upto fnExactNameValidSpec)

/-- 'laws.FnExactDepthOf', WHERE WHAT IT READS IS OF BULK AT MOST 1048576: true; the input reads as it did. -/
def fnExactDepthOfUptoRow : OpenClaim := { program := "ytjkpionncbmcaaa", sum := "b3fea2b24c4251ca7503cb0b193857f77307e2d9739314821af46d8bcb44adf0", func := "loop.example/matchcompiler/laws.FnExactDepthOf", spec := "fnExactDepthOf", recurses := true, loops := true, apart := false, narrowed := true }
def FnExactDepthOfUptoSaid : Prop := fnExactDepthOfUptoRow.holds Try.pinned (OpenSpec.upto fnExactDepthOfSpec)

/-- 'laws.FnExactValueSame', WHERE WHAT IT READS IS OF BULK AT MOST 1048576: true; the input reads as it did. -/
def fnExactValueSameUptoRow : OpenClaim := { program := "ytjkpionncbmcaaa", sum := "b3fea2b24c4251ca7503cb0b193857f77307e2d9739314821af46d8bcb44adf0", func := "loop.example/matchcompiler/laws.FnExactValueSame", spec := "fnExactValueSame", unfollowed := true, recurses := true, loops := true, apart := false, narrowed := true }
def FnExactValueSameUptoSaid : Prop := fnExactValueSameUptoRow.holds Try.pinned (OpenSpec.upto fnExactValueSameSpec)

/-- 'laws.FnExactPatternSame', WHERE WHAT IT READS IS OF BULK AT MOST 1048576: true; the input reads as it did. -/
def fnExactPatternSameUptoRow : OpenClaim := { program := "ytjkpionncbmcaaa", sum := "b3fea2b24c4251ca7503cb0b193857f77307e2d9739314821af46d8bcb44adf0", func := "loop.example/matchcompiler/laws.FnExactPatternSame", spec := "fnExactPatternSame", unfollowed := true, recurses := true, loops := true, apart := false, narrowed := true }
def FnExactPatternSameUptoSaid : Prop := fnExactPatternSameUptoRow.holds Try.pinned (OpenSpec.upto fnExactPatternSameSpec)

/-- 'laws.FnExactCompareValues', WHERE WHAT IT READS IS OF BULK AT MOST 1048576: true; the input reads as it did. -/
def fnExactCompareValuesUptoRow : OpenClaim := { program := "ytjkpionncbmcaaa", sum := "b3fea2b24c4251ca7503cb0b193857f77307e2d9739314821af46d8bcb44adf0", func := "loop.example/matchcompiler/laws.FnExactCompareValues", spec := "fnExactCompareValues", unfollowed := true, recurses := true, loops := true, apart := false, narrowed := true }
def FnExactCompareValuesUptoSaid : Prop := fnExactCompareValuesUptoRow.holds Try.pinned (OpenSpec.upto fnExactCompareValuesSpec)

/-- 'laws.FnExactGuardHolds', WHERE WHAT IT READS IS OF BULK AT MOST 1048576: true; the input reads as it did. -/
def fnExactGuardHoldsUptoRow : OpenClaim := { program := "ytjkpionncbmcaaa", sum := "b3fea2b24c4251ca7503cb0b193857f77307e2d9739314821af46d8bcb44adf0", func := "loop.example/matchcompiler/laws.FnExactGuardHolds", spec := "fnExactGuardHolds", unfollowed := true, recurses := true, loops := true, apart := false, narrowed := true }
def FnExactGuardHoldsUptoSaid : Prop := fnExactGuardHoldsUptoRow.holds Try.pinned (OpenSpec.upto fnExactGuardHoldsSpec)

end Rows
end Go.Proofs.Ytjkpionncbmcaaa
