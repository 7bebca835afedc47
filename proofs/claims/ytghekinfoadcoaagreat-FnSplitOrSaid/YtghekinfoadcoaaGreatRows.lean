/-
  NARROWER THAN 'FOR EVERY INPUT', by the rows' own cells (each row's printed sentence says how): FnExactMatchPattern: loops.
  DERIVED. THE GIVEN ROWS OF THIS SEAT. 5 by the template 'for every input the law returns true; each argument reads behind the call as it read before'; 0 by the template 'total and deterministic' (their statements: YtghekinfoadcoaaGreatTotals.lean).
  GIVEN WITH THE SEED: the statements are not yours to turn. If you find one false, say at which input.
  Laid BY PROGRAM, IN A SANDBOX (cutbox-rows.mjs): the forced cells as the released guide's own fill.sh prints them over the translation 21bd5f35ebdc78b9… (all of the seat's roots in one cut). By AI agents, Wed Nov 11 2026. No macro, syntax, notation, axiom, sorry.
-/
import Derived.Test.YtghekinfoadcoaaGreatChecked
import GoSem.Claim
import GoSem.ClaimJoined
import GoSem.ClaimMapViews
import Derived.JoinedTies
import Derived.KernelRfl
namespace Go.Proofs.YtghekinfoadcoaaGreat
/- THE CELL 'sum', in the pinned program and in every row, IS THE sha256 OF THE DUMP (.gsa) THAT YtghekinfoadcoaaGreatProg.lean LOADS. Nothing in Lean hashes anything: it is a label: what it is worth is what the hold of that sum in a sandbox is worth. -/
noncomputable def Tryz.pinned : Pinned := { name := "ytghekinfoadcoaagreat", sum := "21bd5f35ebdc78b99ad120e13bf1fd2981a5142b8c7b685915386fb32e1c7c10", checked := Tryz.checked }
namespace Rows
def none {H : Type} : Left H := { results := [], args := [] }

/-- 'laws.FnExactMatchPattern': WHATEVER THE INPUT: true; the input reads as it did. -/
def fnExactMatchPatternSpec : ChangeSpec := { name := "fnExactMatchPattern", fn := fun _ => fun
  | [d1, d2, d3, d4] => { results := [.lit (.bool true)], args := [d1, d2, d3, d4] }
  | _ => none }
def fnExactMatchPatternRow : OpenClaim := { program := "ytghekinfoadcoaagreat", sum := "21bd5f35ebdc78b99ad120e13bf1fd2981a5142b8c7b685915386fb32e1c7c10", func := "loop.example/matchcompiler/laws.FnExactMatchPattern", spec := "fnExactMatchPattern", unfollowed := true, recurses := true, loops := true, apart := false }
def FnExactMatchPatternSaid : Prop := fnExactMatchPatternRow.holds Tryz.pinned (OpenSpec.ofChange fnExactMatchPatternSpec)

/-- ITS FALSE NEIGHBOUR: 'it returns false'. Refute it at one input. -/
def fnExactMatchPatternWrong : ChangeSpec := { name := "fnExactMatchPattern", fn := fun _ => fun
  | [d1, d2, d3, d4] => { results := [.lit (.bool false)], args := [d1, d2, d3, d4] }
  | _ => none }
def FnExactMatchPatternWrongFalsely : Prop := fnExactMatchPatternRow.holds Tryz.pinned (OpenSpec.ofChange fnExactMatchPatternWrong)

/-- 'laws.FnMatchParts': WHATEVER THE INPUT: true; the input reads as it did. -/
def fnMatchPartsSpec : ChangeSpec := { name := "fnMatchParts", fn := fun _ => fun
  | [d] => { results := [.lit (.bool true)], args := [d] }
  | _ => none }
def fnMatchPartsRow : OpenClaim := { program := "ytghekinfoadcoaagreat", sum := "21bd5f35ebdc78b99ad120e13bf1fd2981a5142b8c7b685915386fb32e1c7c10", func := "loop.example/matchcompiler/laws.FnMatchParts", spec := "fnMatchParts", unfollowed := true, recurses := true, apart := false }
def FnMatchPartsSaid : Prop := fnMatchPartsRow.holds Tryz.pinned (OpenSpec.ofChange fnMatchPartsSpec)

/-- ITS FALSE NEIGHBOUR: 'it returns false'. Refute it at one input. -/
def fnMatchPartsWrong : ChangeSpec := { name := "fnMatchParts", fn := fun _ => fun
  | [d] => { results := [.lit (.bool false)], args := [d] }
  | _ => none }
def FnMatchPartsWrongFalsely : Prop := fnMatchPartsRow.holds Tryz.pinned (OpenSpec.ofChange fnMatchPartsWrong)

/-- 'laws.FnMatchOr': WHATEVER THE INPUT: true; the input reads as it did. -/
def fnMatchOrSpec : ChangeSpec := { name := "fnMatchOr", fn := fun _ => fun
  | [d] => { results := [.lit (.bool true)], args := [d] }
  | _ => none }
def fnMatchOrRow : OpenClaim := { program := "ytghekinfoadcoaagreat", sum := "21bd5f35ebdc78b99ad120e13bf1fd2981a5142b8c7b685915386fb32e1c7c10", func := "loop.example/matchcompiler/laws.FnMatchOr", spec := "fnMatchOr", unfollowed := true, recurses := true, apart := false }
def FnMatchOrSaid : Prop := fnMatchOrRow.holds Tryz.pinned (OpenSpec.ofChange fnMatchOrSpec)

/-- ITS FALSE NEIGHBOUR: 'it returns false'. Refute it at one input. -/
def fnMatchOrWrong : ChangeSpec := { name := "fnMatchOr", fn := fun _ => fun
  | [d] => { results := [.lit (.bool false)], args := [d] }
  | _ => none }
def FnMatchOrWrongFalsely : Prop := fnMatchOrRow.holds Tryz.pinned (OpenSpec.ofChange fnMatchOrWrong)

/-- 'laws.FnMatchVars': WHATEVER THE INPUT: true; the input reads as it did. -/
def fnMatchVarsSpec : ChangeSpec := { name := "fnMatchVars", fn := fun _ => fun
  | [d] => { results := [.lit (.bool true)], args := [d] }
  | _ => none }
def fnMatchVarsRow : OpenClaim := { program := "ytghekinfoadcoaagreat", sum := "21bd5f35ebdc78b99ad120e13bf1fd2981a5142b8c7b685915386fb32e1c7c10", func := "loop.example/matchcompiler/laws.FnMatchVars", spec := "fnMatchVars", unfollowed := true, recurses := true, apart := false }
def FnMatchVarsSaid : Prop := fnMatchVarsRow.holds Tryz.pinned (OpenSpec.ofChange fnMatchVarsSpec)

/-- ITS FALSE NEIGHBOUR: 'it returns false'. Refute it at one input. -/
def fnMatchVarsWrong : ChangeSpec := { name := "fnMatchVars", fn := fun _ => fun
  | [d] => { results := [.lit (.bool false)], args := [d] }
  | _ => none }
def FnMatchVarsWrongFalsely : Prop := fnMatchVarsRow.holds Tryz.pinned (OpenSpec.ofChange fnMatchVarsWrong)

/-- 'laws.FnSplitOr': WHATEVER THE INPUT: true; the input reads as it did. -/
def fnSplitOrSpec : ChangeSpec := { name := "fnSplitOr", fn := fun _ => fun
  | [d] => { results := [.lit (.bool true)], args := [d] }
  | _ => none }
def fnSplitOrRow : OpenClaim := { program := "ytghekinfoadcoaagreat", sum := "21bd5f35ebdc78b99ad120e13bf1fd2981a5142b8c7b685915386fb32e1c7c10", func := "loop.example/matchcompiler/laws.FnSplitOr", spec := "fnSplitOr", unfollowed := true, recurses := true, apart := false }
def FnSplitOrSaid : Prop := fnSplitOrRow.holds Tryz.pinned (OpenSpec.ofChange fnSplitOrSpec)

/-- ITS FALSE NEIGHBOUR: 'it returns false'. Refute it at one input. -/
def fnSplitOrWrong : ChangeSpec := { name := "fnSplitOr", fn := fun _ => fun
  | [d] => { results := [.lit (.bool false)], args := [d] }
  | _ => none }
def FnSplitOrWrongFalsely : Prop := fnSplitOrRow.holds Tryz.pinned (OpenSpec.ofChange fnSplitOrWrong)

/- THE SECOND FORM. 'bulk': how many values and letters a reading holds, each counted each time it is reached (what is shared counts as often as it is met; a slice's spare places count too). A statement '..UptoSaid' is the law's where the arguments, and the package variables that the reading takes, are together of bulk at most 1048576: NARROWER than '..Said'. Prove '..Said' where nothing that the law and all that it calls make is longer than what came in: it says more and counts as full. Else prove '..UptoSaid'. A law counts once. -/
mutual
def uptoBulk {H : Type} : DataW H → Nat
  | .lit (.string bytes) => bytes.length + 1
  | .lit _ => 1
  | .nil => 1
  | .ptr d => uptoBulk d + 1
  | .slice elems spare => uptoBulkAll elems + uptoBulkAll spare + 1
  | .agg parts => uptoBulkAll parts + 1
  | .iface _ d => uptoBulk d + 1
  | .map entries => uptoBulkEntries entries + 1
  | .held _ => 1
def uptoBulkAll {H : Type} : List (DataW H) → Nat
  | [] => 0
  | d :: r => uptoBulk d + uptoBulkAll r
def uptoBulkEntries {H : Type} : List (Lit × DataW H) → Nat
  | [] => 0
  | x :: r => uptoBulkEntry x + uptoBulkEntries r
def uptoBulkEntry {H : Type} : Lit × DataW H → Nat
  | (.string bytes, d) => bytes.length + uptoBulk d + 1
  | (_, d) => uptoBulk d + 1
 end
def uptoSmall : (H : Type) → List (DataW H) → Bool := fun _ ds => decide (uptoBulkAll ds ≤ 1048576)
def OpenSpec.upto (s : _root_.Go.ChangeSpec) : _root_.Go.OpenSpec := { _root_.Go.OpenSpec.ofChange s with cond := some uptoSmall }

/-- 'laws.FnExactMatchPattern', WHERE WHAT IT READS IS OF BULK AT MOST 1048576: true; the input reads as it did. -/
def fnExactMatchPatternUptoRow : OpenClaim := { program := "ytghekinfoadcoaagreat", sum := "21bd5f35ebdc78b99ad120e13bf1fd2981a5142b8c7b685915386fb32e1c7c10", func := "loop.example/matchcompiler/laws.FnExactMatchPattern", spec := "fnExactMatchPattern", unfollowed := true, recurses := true, loops := true, apart := false, narrowed := true }
def FnExactMatchPatternUptoSaid : Prop := fnExactMatchPatternUptoRow.holds Tryz.pinned (OpenSpec.upto fnExactMatchPatternSpec)

/-- 'laws.FnMatchParts', WHERE WHAT IT READS IS OF BULK AT MOST 1048576: true; the input reads as it did. -/
def fnMatchPartsUptoRow : OpenClaim := { program := "ytghekinfoadcoaagreat", sum := "21bd5f35ebdc78b99ad120e13bf1fd2981a5142b8c7b685915386fb32e1c7c10", func := "loop.example/matchcompiler/laws.FnMatchParts", spec := "fnMatchParts", unfollowed := true, recurses := true, apart := false, narrowed := true }
def FnMatchPartsUptoSaid : Prop := fnMatchPartsUptoRow.holds Tryz.pinned (OpenSpec.upto fnMatchPartsSpec)

/-- 'laws.FnMatchOr', WHERE WHAT IT READS IS OF BULK AT MOST 1048576: true; the input reads as it did. -/
def fnMatchOrUptoRow : OpenClaim := { program := "ytghekinfoadcoaagreat", sum := "21bd5f35ebdc78b99ad120e13bf1fd2981a5142b8c7b685915386fb32e1c7c10", func := "loop.example/matchcompiler/laws.FnMatchOr", spec := "fnMatchOr", unfollowed := true, recurses := true, apart := false, narrowed := true }
def FnMatchOrUptoSaid : Prop := fnMatchOrUptoRow.holds Tryz.pinned (OpenSpec.upto fnMatchOrSpec)

/-- 'laws.FnMatchVars', WHERE WHAT IT READS IS OF BULK AT MOST 1048576: true; the input reads as it did. -/
def fnMatchVarsUptoRow : OpenClaim := { program := "ytghekinfoadcoaagreat", sum := "21bd5f35ebdc78b99ad120e13bf1fd2981a5142b8c7b685915386fb32e1c7c10", func := "loop.example/matchcompiler/laws.FnMatchVars", spec := "fnMatchVars", unfollowed := true, recurses := true, apart := false, narrowed := true }
def FnMatchVarsUptoSaid : Prop := fnMatchVarsUptoRow.holds Tryz.pinned (OpenSpec.upto fnMatchVarsSpec)

/-- 'laws.FnSplitOr', WHERE WHAT IT READS IS OF BULK AT MOST 1048576: true; the input reads as it did. -/
def fnSplitOrUptoRow : OpenClaim := { program := "ytghekinfoadcoaagreat", sum := "21bd5f35ebdc78b99ad120e13bf1fd2981a5142b8c7b685915386fb32e1c7c10", func := "loop.example/matchcompiler/laws.FnSplitOr", spec := "fnSplitOr", unfollowed := true, recurses := true, apart := false, narrowed := true }
def FnSplitOrUptoSaid : Prop := fnSplitOrUptoRow.holds Tryz.pinned (OpenSpec.upto fnSplitOrSpec)

end Rows
end Go.Proofs.YtghekinfoadcoaaGreat
