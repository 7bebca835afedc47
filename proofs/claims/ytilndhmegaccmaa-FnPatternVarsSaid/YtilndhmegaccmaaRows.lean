/-
  NARROWER THAN 'FOR EVERY INPUT', by the rows' own cells (each row's printed sentence says how): FnExactSplitOr: loops.
  DERIVED. THE GIVEN ROWS OF THIS SEAT. 8 by the template 'for every input the law returns true; each argument reads behind the call as it read before'; 0 by the template 'total and deterministic' (their statements: YtilndhmegaccmaaTotals.lean).
  GIVEN WITH THE SEED: the statements are not yours to turn. If you find one false, say at which input.
  Laid BY PROGRAM, IN A SANDBOX (cutbox-rows.mjs): the forced cells as the released guide's own fill.sh prints them over the translation a3bd72ed45f00de0… (all of the seat's roots in one cut). By AI agents, Wed Nov 11 2026. No macro, syntax, notation, axiom, sorry.
-/
import Derived.Test.YtilndhmegaccmaaChecked
import GoSem.Claim
import GoSem.ClaimJoined
import GoSem.ClaimMapViews
import Derived.JoinedTies
import Derived.KernelRfl
namespace Go.Proofs.Ytilndhmegaccmaa
/- THE CELL 'sum', in the pinned program and in every row, IS THE sha256 OF THE DUMP (.gsa) THAT YtilndhmegaccmaaProg.lean LOADS. Nothing in Lean hashes anything: it is a label: what it is worth is what the hold of that sum in a sandbox is worth. -/
noncomputable def Try.pinned : Pinned := { name := "ytilndhmegaccmaa", sum := "a3bd72ed45f00de01df332a14684ba2cc614c5d7a6b1395f6c67b8cad4e5890d", checked := Try.checked }
namespace Rows
def none {H : Type} : Left H := { results := [], args := [] }

/-- 'laws.FnPatternSame': WHATEVER THE INPUT: true; the input reads as it did. -/
def fnPatternSameSpec : ChangeSpec := { name := "fnPatternSame", fn := fun _ => fun
  | [d] => { results := [.lit (.bool true)], args := [d] }
  | _ => none }
def fnPatternSameRow : OpenClaim := { program := "ytilndhmegaccmaa", sum := "a3bd72ed45f00de01df332a14684ba2cc614c5d7a6b1395f6c67b8cad4e5890d", func := "loop.example/matchcompiler/laws.FnPatternSame", spec := "fnPatternSame", unfollowed := true, recurses := true, apart := false }
def FnPatternSameSaid : Prop := fnPatternSameRow.holds Try.pinned (OpenSpec.ofChange fnPatternSameSpec)

/-- ITS FALSE NEIGHBOUR: 'it returns false'. Refute it at one input. -/
def fnPatternSameWrong : ChangeSpec := { name := "fnPatternSame", fn := fun _ => fun
  | [d] => { results := [.lit (.bool false)], args := [d] }
  | _ => none }
def FnPatternSameWrongFalsely : Prop := fnPatternSameRow.holds Try.pinned (OpenSpec.ofChange fnPatternSameWrong)

/-- 'laws.FnPatternWide': WHATEVER THE INPUT: true; the input reads as it did. -/
def fnPatternWideSpec : ChangeSpec := { name := "fnPatternWide", fn := fun _ => fun
  | [d] => { results := [.lit (.bool true)], args := [d] }
  | _ => none }
def fnPatternWideRow : OpenClaim := { program := "ytilndhmegaccmaa", sum := "a3bd72ed45f00de01df332a14684ba2cc614c5d7a6b1395f6c67b8cad4e5890d", func := "loop.example/matchcompiler/laws.FnPatternWide", spec := "fnPatternWide", unfollowed := true, recurses := true, apart := false }
def FnPatternWideSaid : Prop := fnPatternWideRow.holds Try.pinned (OpenSpec.ofChange fnPatternWideSpec)

/-- ITS FALSE NEIGHBOUR: 'it returns false'. Refute it at one input. -/
def fnPatternWideWrong : ChangeSpec := { name := "fnPatternWide", fn := fun _ => fun
  | [d] => { results := [.lit (.bool false)], args := [d] }
  | _ => none }
def FnPatternWideWrongFalsely : Prop := fnPatternWideRow.holds Try.pinned (OpenSpec.ofChange fnPatternWideWrong)

/-- 'laws.FnExactValuesUpTo': WHATEVER THE INPUT: true; the input reads as it did. -/
def fnExactValuesUpToSpec : ChangeSpec := { name := "fnExactValuesUpTo", fn := fun _ => fun
  | [d1, d2, d3] => { results := [.lit (.bool true)], args := [d1, d2, d3] }
  | _ => none }
def fnExactValuesUpToRow : OpenClaim := { program := "ytilndhmegaccmaa", sum := "a3bd72ed45f00de01df332a14684ba2cc614c5d7a6b1395f6c67b8cad4e5890d", func := "loop.example/matchcompiler/laws.FnExactValuesUpTo", spec := "fnExactValuesUpTo", unfollowed := true, recurses := true, apart := false }
def FnExactValuesUpToSaid : Prop := fnExactValuesUpToRow.holds Try.pinned (OpenSpec.ofChange fnExactValuesUpToSpec)

/-- ITS FALSE NEIGHBOUR: 'it returns false'. Refute it at one input. -/
def fnExactValuesUpToWrong : ChangeSpec := { name := "fnExactValuesUpTo", fn := fun _ => fun
  | [d1, d2, d3] => { results := [.lit (.bool false)], args := [d1, d2, d3] }
  | _ => none }
def FnExactValuesUpToWrongFalsely : Prop := fnExactValuesUpToRow.holds Try.pinned (OpenSpec.ofChange fnExactValuesUpToWrong)

/-- 'laws.FnValuesUpTo': WHATEVER THE INPUT: true; the input reads as it did. -/
def fnValuesUpToSpec : ChangeSpec := { name := "fnValuesUpTo", fn := fun _ => fun
  | [d] => { results := [.lit (.bool true)], args := [d] }
  | _ => none }
def fnValuesUpToRow : OpenClaim := { program := "ytilndhmegaccmaa", sum := "a3bd72ed45f00de01df332a14684ba2cc614c5d7a6b1395f6c67b8cad4e5890d", func := "loop.example/matchcompiler/laws.FnValuesUpTo", spec := "fnValuesUpTo", unfollowed := true, recurses := true, apart := false }
def FnValuesUpToSaid : Prop := fnValuesUpToRow.holds Try.pinned (OpenSpec.ofChange fnValuesUpToSpec)

/-- ITS FALSE NEIGHBOUR: 'it returns false'. Refute it at one input. -/
def fnValuesUpToWrong : ChangeSpec := { name := "fnValuesUpTo", fn := fun _ => fun
  | [d] => { results := [.lit (.bool false)], args := [d] }
  | _ => none }
def FnValuesUpToWrongFalsely : Prop := fnValuesUpToRow.holds Try.pinned (OpenSpec.ofChange fnValuesUpToWrong)

/-- 'laws.FnValuesGrow': WHATEVER THE INPUT: true; the input reads as it did. -/
def fnValuesGrowSpec : ChangeSpec := { name := "fnValuesGrow", fn := fun _ => fun
  | [d] => { results := [.lit (.bool true)], args := [d] }
  | _ => none }
def fnValuesGrowRow : OpenClaim := { program := "ytilndhmegaccmaa", sum := "a3bd72ed45f00de01df332a14684ba2cc614c5d7a6b1395f6c67b8cad4e5890d", func := "loop.example/matchcompiler/laws.FnValuesGrow", spec := "fnValuesGrow", unfollowed := true, recurses := true, apart := false }
def FnValuesGrowSaid : Prop := fnValuesGrowRow.holds Try.pinned (OpenSpec.ofChange fnValuesGrowSpec)

/-- ITS FALSE NEIGHBOUR: 'it returns false'. Refute it at one input. -/
def fnValuesGrowWrong : ChangeSpec := { name := "fnValuesGrow", fn := fun _ => fun
  | [d] => { results := [.lit (.bool false)], args := [d] }
  | _ => none }
def FnValuesGrowWrongFalsely : Prop := fnValuesGrowRow.holds Try.pinned (OpenSpec.ofChange fnValuesGrowWrong)

/-- 'laws.FnLeastFirst': WHATEVER THE INPUT: true; the input reads as it did. -/
def fnLeastFirstSpec : ChangeSpec := { name := "fnLeastFirst", fn := fun _ => fun
  | [d] => { results := [.lit (.bool true)], args := [d] }
  | _ => none }
def fnLeastFirstRow : OpenClaim := { program := "ytilndhmegaccmaa", sum := "a3bd72ed45f00de01df332a14684ba2cc614c5d7a6b1395f6c67b8cad4e5890d", func := "loop.example/matchcompiler/laws.FnLeastFirst", spec := "fnLeastFirst", unfollowed := true, recurses := true, apart := false }
def FnLeastFirstSaid : Prop := fnLeastFirstRow.holds Try.pinned (OpenSpec.ofChange fnLeastFirstSpec)

/-- ITS FALSE NEIGHBOUR: 'it returns false'. Refute it at one input. -/
def fnLeastFirstWrong : ChangeSpec := { name := "fnLeastFirst", fn := fun _ => fun
  | [d] => { results := [.lit (.bool false)], args := [d] }
  | _ => none }
def FnLeastFirstWrongFalsely : Prop := fnLeastFirstRow.holds Try.pinned (OpenSpec.ofChange fnLeastFirstWrong)

/-- 'laws.FnPatternVars': WHATEVER THE INPUT: true; the input reads as it did. -/
def fnPatternVarsSpec : ChangeSpec := { name := "fnPatternVars", fn := fun _ => fun
  | [d] => { results := [.lit (.bool true)], args := [d] }
  | _ => none }
def fnPatternVarsRow : OpenClaim := { program := "ytilndhmegaccmaa", sum := "a3bd72ed45f00de01df332a14684ba2cc614c5d7a6b1395f6c67b8cad4e5890d", func := "loop.example/matchcompiler/laws.FnPatternVars", spec := "fnPatternVars", unfollowed := true, recurses := true, apart := false }
def FnPatternVarsSaid : Prop := fnPatternVarsRow.holds Try.pinned (OpenSpec.ofChange fnPatternVarsSpec)

/-- ITS FALSE NEIGHBOUR: 'it returns false'. Refute it at one input. -/
def fnPatternVarsWrong : ChangeSpec := { name := "fnPatternVars", fn := fun _ => fun
  | [d] => { results := [.lit (.bool false)], args := [d] }
  | _ => none }
def FnPatternVarsWrongFalsely : Prop := fnPatternVarsRow.holds Try.pinned (OpenSpec.ofChange fnPatternVarsWrong)

/-- 'laws.FnExactSplitOr': WHATEVER THE INPUT: true; the input reads as it did. -/
def fnExactSplitOrSpec : ChangeSpec := { name := "fnExactSplitOr", fn := fun _ => fun
  | [d1, d2, d3] => { results := [.lit (.bool true)], args := [d1, d2, d3] }
  | _ => none }
def fnExactSplitOrRow : OpenClaim := { program := "ytilndhmegaccmaa", sum := "a3bd72ed45f00de01df332a14684ba2cc614c5d7a6b1395f6c67b8cad4e5890d", func := "loop.example/matchcompiler/laws.FnExactSplitOr", spec := "fnExactSplitOr", unfollowed := true, recurses := true, loops := true, apart := false }
def FnExactSplitOrSaid : Prop := fnExactSplitOrRow.holds Try.pinned (OpenSpec.ofChange fnExactSplitOrSpec)

/-- ITS FALSE NEIGHBOUR: 'it returns false'. Refute it at one input. -/
def fnExactSplitOrWrong : ChangeSpec := { name := "fnExactSplitOr", fn := fun _ => fun
  | [d1, d2, d3] => { results := [.lit (.bool false)], args := [d1, d2, d3] }
  | _ => none }
def FnExactSplitOrWrongFalsely : Prop := fnExactSplitOrRow.holds Try.pinned (OpenSpec.ofChange fnExactSplitOrWrong)

/- THE SECOND FORM. 'bulk': how many values and letters a reading holds, each counted each time it is reached (what is shared counts as often as it is met; a slice's spare places count too). A statement '..UptoSaid' is the law's where the arguments, and the package variables that the reading takes, are together of bulk at most 1048576: NARROWER than '..Said'. Prove '..Said' where nothing that the law and all that it calls make is longer than what came in: it says more and counts as full. Else prove '..UptoSaid'. A law counts once. -/
mutual
def uptoBulk {H : Type} : DataW H → Nat
  | .lit (.string bytes) => bytes.length + 1
  | .lit _ => 1
  | .nil => 1
  | .ptr d => uptoBulk d + 1
  | .slice elems spare => uptoBulkAll elems + uptoBulkAll spare + 1
  | .agg parts => uptoBulkAll parts + 1
  | .iface _ d => uptoBulk d + 1
  | .map entries => uptoBulkEntries entries + 1
  | .held _ => 1
def uptoBulkAll {H : Type} : List (DataW H) → Nat
  | [] => 0
  | d :: r => uptoBulk d + uptoBulkAll r
def uptoBulkEntries {H : Type} : List (Lit × DataW H) → Nat
  | [] => 0
  | x :: r => uptoBulkEntry x + uptoBulkEntries r
def uptoBulkEntry {H : Type} : Lit × DataW H → Nat
  | (.string bytes, d) => bytes.length + uptoBulk d + 1
  | (_, d) => uptoBulk d + 1
 end
def uptoSmall : (H : Type) → List (DataW H) → Bool := fun _ ds => decide (uptoBulkAll ds ≤ 1048576)
def OpenSpec.upto (s : _root_.Go.ChangeSpec) : _root_.Go.OpenSpec := { _root_.Go.OpenSpec.ofChange s with cond := some uptoSmall }

/-- 'laws.FnPatternSame', WHERE WHAT IT READS IS OF BULK AT MOST 1048576: true; the input reads as it did. -/
def fnPatternSameUptoRow : OpenClaim := { program := "ytilndhmegaccmaa", sum := "a3bd72ed45f00de01df332a14684ba2cc614c5d7a6b1395f6c67b8cad4e5890d", func := "loop.example/matchcompiler/laws.FnPatternSame", spec := "fnPatternSame", unfollowed := true, recurses := true, apart := false, narrowed := true }
def FnPatternSameUptoSaid : Prop := fnPatternSameUptoRow.holds Try.pinned (OpenSpec.upto fnPatternSameSpec)

/-- 'laws.FnPatternWide', WHERE WHAT IT READS IS OF BULK AT MOST 1048576: true; the input reads as it did. -/
def fnPatternWideUptoRow : OpenClaim := { program := "ytilndhmegaccmaa", sum := "a3bd72ed45f00de01df332a14684ba2cc614c5d7a6b1395f6c67b8cad4e5890d", func := "loop.example/matchcompiler/laws.FnPatternWide", spec := "fnPatternWide", unfollowed := true, recurses := true, apart := false, narrowed := true }
def FnPatternWideUptoSaid : Prop := fnPatternWideUptoRow.holds Try.pinned (OpenSpec.upto fnPatternWideSpec)

/-- 'laws.FnExactValuesUpTo', WHERE WHAT IT READS IS OF BULK AT MOST 1048576: true; the input reads as it did. -/
def fnExactValuesUpToUptoRow : OpenClaim := { program := "ytilndhmegaccmaa", sum := "a3bd72ed45f00de01df332a14684ba2cc614c5d7a6b1395f6c67b8cad4e5890d", func := "loop.example/matchcompiler/laws.FnExactValuesUpTo", spec := "fnExactValuesUpTo", unfollowed := true, recurses := true, apart := false, narrowed := true }
def FnExactValuesUpToUptoSaid : Prop := fnExactValuesUpToUptoRow.holds Try.pinned (OpenSpec.upto fnExactValuesUpToSpec)

/-- 'laws.FnValuesUpTo', WHERE WHAT IT READS IS OF BULK AT MOST 1048576: true; the input reads as it did. -/
def fnValuesUpToUptoRow : OpenClaim := { program := "ytilndhmegaccmaa", sum := "a3bd72ed45f00de01df332a14684ba2cc614c5d7a6b1395f6c67b8cad4e5890d", func := "loop.example/matchcompiler/laws.FnValuesUpTo", spec := "fnValuesUpTo", unfollowed := true, recurses := true, apart := false, narrowed := true }
def FnValuesUpToUptoSaid : Prop := fnValuesUpToUptoRow.holds Try.pinned (OpenSpec.upto fnValuesUpToSpec)

/-- 'laws.FnValuesGrow', WHERE WHAT IT READS IS OF BULK AT MOST 1048576: true; the input reads as it did. -/
def fnValuesGrowUptoRow : OpenClaim := { program := "ytilndhmegaccmaa", sum := "a3bd72ed45f00de01df332a14684ba2cc614c5d7a6b1395f6c67b8cad4e5890d", func := "loop.example/matchcompiler/laws.FnValuesGrow", spec := "fnValuesGrow", unfollowed := true, recurses := true, apart := false, narrowed := true }
def FnValuesGrowUptoSaid : Prop := fnValuesGrowUptoRow.holds Try.pinned (OpenSpec.upto fnValuesGrowSpec)

/-- 'laws.FnLeastFirst', WHERE WHAT IT READS IS OF BULK AT MOST 1048576: true; the input reads as it did. -/
def fnLeastFirstUptoRow : OpenClaim := { program := "ytilndhmegaccmaa", sum := "a3bd72ed45f00de01df332a14684ba2cc614c5d7a6b1395f6c67b8cad4e5890d", func := "loop.example/matchcompiler/laws.FnLeastFirst", spec := "fnLeastFirst", unfollowed := true, recurses := true, apart := false, narrowed := true }
def FnLeastFirstUptoSaid : Prop := fnLeastFirstUptoRow.holds Try.pinned (OpenSpec.upto fnLeastFirstSpec)

/-- 'laws.FnPatternVars', WHERE WHAT IT READS IS OF BULK AT MOST 1048576: true; the input reads as it did. -/
def fnPatternVarsUptoRow : OpenClaim := { program := "ytilndhmegaccmaa", sum := "a3bd72ed45f00de01df332a14684ba2cc614c5d7a6b1395f6c67b8cad4e5890d", func := "loop.example/matchcompiler/laws.FnPatternVars", spec := "fnPatternVars", unfollowed := true, recurses := true, apart := false, narrowed := true }
def FnPatternVarsUptoSaid : Prop := fnPatternVarsUptoRow.holds Try.pinned (OpenSpec.upto fnPatternVarsSpec)

/-- 'laws.FnExactSplitOr', WHERE WHAT IT READS IS OF BULK AT MOST 1048576: true; the input reads as it did. -/
def fnExactSplitOrUptoRow : OpenClaim := { program := "ytilndhmegaccmaa", sum := "a3bd72ed45f00de01df332a14684ba2cc614c5d7a6b1395f6c67b8cad4e5890d", func := "loop.example/matchcompiler/laws.FnExactSplitOr", spec := "fnExactSplitOr", unfollowed := true, recurses := true, loops := true, apart := false, narrowed := true }
def FnExactSplitOrUptoSaid : Prop := fnExactSplitOrUptoRow.holds Try.pinned (OpenSpec.upto fnExactSplitOrSpec)

end Rows
end Go.Proofs.Ytilndhmegaccmaa
