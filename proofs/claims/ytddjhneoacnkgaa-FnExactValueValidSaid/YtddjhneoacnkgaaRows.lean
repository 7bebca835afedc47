/-
  NARROWER THAN 'FOR EVERY INPUT', by the rows' own cells (each row's printed sentence says how): FnExactValueValid: loops.
  DERIVED. THE GIVEN ROWS OF THIS SEAT. 8 by the template 'for every input the law returns true; each argument reads behind the call as it read before'; 0 by the template 'total and deterministic' (their statements: YtddjhneoacnkgaaTotals.lean).
  GIVEN WITH THE SEED: the statements are not yours to turn. If you find one false, say at which input.
  Laid BY PROGRAM, IN A SANDBOX (cutbox-rows.mjs): the forced cells as the released guide's own fill.sh prints them over the translation b3a3309c65e3a32d… (all of the seat's roots in one cut). By AI agents, Wed Nov 11 2026. No macro, syntax, notation, axiom, sorry.
-/
import Derived.Test.YtddjhneoacnkgaaChecked
import GoSem.Claim
import GoSem.ClaimJoined
import GoSem.ClaimMapViews
import Derived.JoinedTies
import Derived.KernelRfl
namespace Go.Proofs.Ytddjhneoacnkgaa
/- THE CELL 'sum', in the pinned program and in every row, IS THE sha256 OF THE DUMP (.gsa) THAT YtddjhneoacnkgaaProg.lean LOADS. Nothing in Lean hashes anything: it is a label: what it is worth is what the hold of that sum in a sandbox is worth. -/
noncomputable def Try.pinned : Pinned := { name := "ytddjhneoacnkgaa", sum := "b3a3309c65e3a32d88a498a4a91bc54e5ec4c7f89cf93709d5402caa247a9aec", checked := Try.checked }
namespace Rows
def none {H : Type} : Left H := { results := [], args := [] }

/-- 'laws.FnExactWorldSame': WHATEVER THE INPUT: true; the input reads as it did. -/
def fnExactWorldSameSpec : ChangeSpec := { name := "fnExactWorldSame", fn := fun _ => fun
  | [d1, d2] => { results := [.lit (.bool true)], args := [d1, d2] }
  | _ => none }
def fnExactWorldSameRow : OpenClaim := { program := "ytddjhneoacnkgaa", sum := "b3a3309c65e3a32d88a498a4a91bc54e5ec4c7f89cf93709d5402caa247a9aec", func := "loop.example/matchcompiler/laws.FnExactWorldSame", spec := "fnExactWorldSame", unfollowed := true, recurses := true, apart := false }
def FnExactWorldSameSaid : Prop := fnExactWorldSameRow.holds Try.pinned (OpenSpec.ofChange fnExactWorldSameSpec)

/-- ITS FALSE NEIGHBOUR: 'it returns false'. Refute it at one input. -/
def fnExactWorldSameWrong : ChangeSpec := { name := "fnExactWorldSame", fn := fun _ => fun
  | [d1, d2] => { results := [.lit (.bool false)], args := [d1, d2] }
  | _ => none }
def FnExactWorldSameWrongFalsely : Prop := fnExactWorldSameRow.holds Try.pinned (OpenSpec.ofChange fnExactWorldSameWrong)

/-- 'laws.FnExactWorldValid': WHATEVER THE INPUT: true; the input reads as it did. -/
def fnExactWorldValidSpec : ChangeSpec := { name := "fnExactWorldValid", fn := fun _ => fun
  | [d] => { results := [.lit (.bool true)], args := [d] }
  | _ => none }
def fnExactWorldValidRow : OpenClaim := { program := "ytddjhneoacnkgaa", sum := "b3a3309c65e3a32d88a498a4a91bc54e5ec4c7f89cf93709d5402caa247a9aec", func := "loop.example/matchcompiler/laws.FnExactWorldValid", spec := "fnExactWorldValid", unfollowed := true, recurses := true, apart := false }
def FnExactWorldValidSaid : Prop := fnExactWorldValidRow.holds Try.pinned (OpenSpec.ofChange fnExactWorldValidSpec)

/-- ITS FALSE NEIGHBOUR: 'it returns false'. Refute it at one input. -/
def fnExactWorldValidWrong : ChangeSpec := { name := "fnExactWorldValid", fn := fun _ => fun
  | [d] => { results := [.lit (.bool false)], args := [d] }
  | _ => none }
def FnExactWorldValidWrongFalsely : Prop := fnExactWorldValidRow.holds Try.pinned (OpenSpec.ofChange fnExactWorldValidWrong)

/-- 'laws.FnExactTypeValid': WHATEVER THE INPUT: true; the input reads as it did. -/
def fnExactTypeValidSpec : ChangeSpec := { name := "fnExactTypeValid", fn := fun _ => fun
  | [d1, d2] => { results := [.lit (.bool true)], args := [d1, d2] }
  | _ => none }
def fnExactTypeValidRow : OpenClaim := { program := "ytddjhneoacnkgaa", sum := "b3a3309c65e3a32d88a498a4a91bc54e5ec4c7f89cf93709d5402caa247a9aec", func := "loop.example/matchcompiler/laws.FnExactTypeValid", spec := "fnExactTypeValid", unfollowed := true, recurses := true, apart := false }
def FnExactTypeValidSaid : Prop := fnExactTypeValidRow.holds Try.pinned (OpenSpec.ofChange fnExactTypeValidSpec)

/-- ITS FALSE NEIGHBOUR: 'it returns false'. Refute it at one input. -/
def fnExactTypeValidWrong : ChangeSpec := { name := "fnExactTypeValid", fn := fun _ => fun
  | [d1, d2] => { results := [.lit (.bool false)], args := [d1, d2] }
  | _ => none }
def FnExactTypeValidWrongFalsely : Prop := fnExactTypeValidRow.holds Try.pinned (OpenSpec.ofChange fnExactTypeValidWrong)

/-- 'laws.FnExactCtorsOf': WHATEVER THE INPUT: true; the input reads as it did. -/
def fnExactCtorsOfSpec : ChangeSpec := { name := "fnExactCtorsOf", fn := fun _ => fun
  | [d1, d2] => { results := [.lit (.bool true)], args := [d1, d2] }
  | _ => none }
def fnExactCtorsOfRow : OpenClaim := { program := "ytddjhneoacnkgaa", sum := "b3a3309c65e3a32d88a498a4a91bc54e5ec4c7f89cf93709d5402caa247a9aec", func := "loop.example/matchcompiler/laws.FnExactCtorsOf", spec := "fnExactCtorsOf", unfollowed := true, recurses := true, apart := false }
def FnExactCtorsOfSaid : Prop := fnExactCtorsOfRow.holds Try.pinned (OpenSpec.ofChange fnExactCtorsOfSpec)

/-- ITS FALSE NEIGHBOUR: 'it returns false'. Refute it at one input. -/
def fnExactCtorsOfWrong : ChangeSpec := { name := "fnExactCtorsOf", fn := fun _ => fun
  | [d1, d2] => { results := [.lit (.bool false)], args := [d1, d2] }
  | _ => none }
def FnExactCtorsOfWrongFalsely : Prop := fnExactCtorsOfRow.holds Try.pinned (OpenSpec.ofChange fnExactCtorsOfWrong)

/-- 'laws.FnExactLeastDepth': WHATEVER THE INPUT: true; the input reads as it did. -/
def fnExactLeastDepthSpec : ChangeSpec := { name := "fnExactLeastDepth", fn := fun _ => fun
  | [d1, d2] => { results := [.lit (.bool true)], args := [d1, d2] }
  | _ => none }
def fnExactLeastDepthRow : OpenClaim := { program := "ytddjhneoacnkgaa", sum := "b3a3309c65e3a32d88a498a4a91bc54e5ec4c7f89cf93709d5402caa247a9aec", func := "loop.example/matchcompiler/laws.FnExactLeastDepth", spec := "fnExactLeastDepth", unfollowed := true, recurses := true, apart := false }
def FnExactLeastDepthSaid : Prop := fnExactLeastDepthRow.holds Try.pinned (OpenSpec.ofChange fnExactLeastDepthSpec)

/-- ITS FALSE NEIGHBOUR: 'it returns false'. Refute it at one input. -/
def fnExactLeastDepthWrong : ChangeSpec := { name := "fnExactLeastDepth", fn := fun _ => fun
  | [d1, d2] => { results := [.lit (.bool false)], args := [d1, d2] }
  | _ => none }
def FnExactLeastDepthWrongFalsely : Prop := fnExactLeastDepthRow.holds Try.pinned (OpenSpec.ofChange fnExactLeastDepthWrong)

/-- 'laws.FnExactInhabited': WHATEVER THE INPUT: true; the input reads as it did. -/
def fnExactInhabitedSpec : ChangeSpec := { name := "fnExactInhabited", fn := fun _ => fun
  | [d1, d2] => { results := [.lit (.bool true)], args := [d1, d2] }
  | _ => none }
def fnExactInhabitedRow : OpenClaim := { program := "ytddjhneoacnkgaa", sum := "b3a3309c65e3a32d88a498a4a91bc54e5ec4c7f89cf93709d5402caa247a9aec", func := "loop.example/matchcompiler/laws.FnExactInhabited", spec := "fnExactInhabited", unfollowed := true, recurses := true, apart := false }
def FnExactInhabitedSaid : Prop := fnExactInhabitedRow.holds Try.pinned (OpenSpec.ofChange fnExactInhabitedSpec)

/-- ITS FALSE NEIGHBOUR: 'it returns false'. Refute it at one input. -/
def fnExactInhabitedWrong : ChangeSpec := { name := "fnExactInhabited", fn := fun _ => fun
  | [d1, d2] => { results := [.lit (.bool false)], args := [d1, d2] }
  | _ => none }
def FnExactInhabitedWrongFalsely : Prop := fnExactInhabitedRow.holds Try.pinned (OpenSpec.ofChange fnExactInhabitedWrong)

/-- 'laws.FnExactArgTypes': WHATEVER THE INPUT: true; the input reads as it did. -/
def fnExactArgTypesSpec : ChangeSpec := { name := "fnExactArgTypes", fn := fun _ => fun
  | [d1, d2, d3] => { results := [.lit (.bool true)], args := [d1, d2, d3] }
  | _ => none }
def fnExactArgTypesRow : OpenClaim := { program := "ytddjhneoacnkgaa", sum := "b3a3309c65e3a32d88a498a4a91bc54e5ec4c7f89cf93709d5402caa247a9aec", func := "loop.example/matchcompiler/laws.FnExactArgTypes", spec := "fnExactArgTypes", unfollowed := true, recurses := true, apart := false }
def FnExactArgTypesSaid : Prop := fnExactArgTypesRow.holds Try.pinned (OpenSpec.ofChange fnExactArgTypesSpec)

/-- ITS FALSE NEIGHBOUR: 'it returns false'. Refute it at one input. -/
def fnExactArgTypesWrong : ChangeSpec := { name := "fnExactArgTypes", fn := fun _ => fun
  | [d1, d2, d3] => { results := [.lit (.bool false)], args := [d1, d2, d3] }
  | _ => none }
def FnExactArgTypesWrongFalsely : Prop := fnExactArgTypesRow.holds Try.pinned (OpenSpec.ofChange fnExactArgTypesWrong)

/-- 'laws.FnExactValueValid': WHATEVER THE INPUT: true; the input reads as it did. -/
def fnExactValueValidSpec : ChangeSpec := { name := "fnExactValueValid", fn := fun _ => fun
  | [d1, d2, d3] => { results := [.lit (.bool true)], args := [d1, d2, d3] }
  | _ => none }
def fnExactValueValidRow : OpenClaim := { program := "ytddjhneoacnkgaa", sum := "b3a3309c65e3a32d88a498a4a91bc54e5ec4c7f89cf93709d5402caa247a9aec", func := "loop.example/matchcompiler/laws.FnExactValueValid", spec := "fnExactValueValid", unfollowed := true, recurses := true, loops := true, apart := false }
def FnExactValueValidSaid : Prop := fnExactValueValidRow.holds Try.pinned (OpenSpec.ofChange fnExactValueValidSpec)

/-- ITS FALSE NEIGHBOUR: 'it returns false'. Refute it at one input. -/
def fnExactValueValidWrong : ChangeSpec := { name := "fnExactValueValid", fn := fun _ => fun
  | [d1, d2, d3] => { results := [.lit (.bool false)], args := [d1, d2, d3] }
  | _ => none }
def FnExactValueValidWrongFalsely : Prop := fnExactValueValidRow.holds Try.pinned (OpenSpec.ofChange fnExactValueValidWrong)

/- THE SECOND FORM. 'bulk': how many values and letters a reading holds, each counted each time it is reached (what is shared counts as often as it is met; a slice's spare places count too). A statement '..UptoSaid' is the law's where the arguments, and the package variables that the reading takes, are together of bulk at most 1048576: NARROWER than '..Said'. Prove '..Said' where nothing that the law and all that it calls make is longer than what came in: it says more and counts as full. Else prove '..UptoSaid'. A law counts once. -/
mutual
def uptoBulk {H : Type} : DataW H → Nat
  | .lit (.string bytes) => bytes.length + 1
  | .lit _ => 1
  | .nil => 1
  | .ptr d => uptoBulk d + 1
  | .slice elems spare => uptoBulkAll elems + uptoBulkAll spare + 1
  | .agg parts => uptoBulkAll parts + 1
  | .iface _ d => uptoBulk d + 1
  | .map entries => uptoBulkEntries entries + 1
  | .held _ => 1
def uptoBulkAll {H : Type} : List (DataW H) → Nat
  | [] => 0
  | d :: r => uptoBulk d + uptoBulkAll r
def uptoBulkEntries {H : Type} : List (Lit × DataW H) → Nat
  | [] => 0
  | x :: r => uptoBulkEntry x + uptoBulkEntries r
def uptoBulkEntry {H : Type} : Lit × DataW H → Nat
  | (.string bytes, d) => bytes.length + uptoBulk d + 1
  | (_, d) => uptoBulk d + 1
 end
def uptoSmall : (H : Type) → List (DataW H) → Bool := fun _ ds => decide (uptoBulkAll ds ≤ 1048576)
def OpenSpec.upto (s : _root_.Go.ChangeSpec) : _root_.Go.OpenSpec := { _root_.Go.OpenSpec.ofChange s with cond := some uptoSmall }

/-- 'laws.FnExactWorldSame', WHERE WHAT IT READS IS OF BULK AT MOST 1048576: true; the input reads as it did. -/
def fnExactWorldSameUptoRow : OpenClaim := { program := "ytddjhneoacnkgaa", sum := "b3a3309c65e3a32d88a498a4a91bc54e5ec4c7f89cf93709d5402caa247a9aec", func := "loop.example/matchcompiler/laws.FnExactWorldSame", spec := "fnExactWorldSame", unfollowed := true, recurses := true, apart := false, narrowed := true }
def FnExactWorldSameUptoSaid : Prop := fnExactWorldSameUptoRow.holds Try.pinned (OpenSpec.upto fnExactWorldSameSpec)

/-- 'laws.FnExactWorldValid', WHERE WHAT IT READS IS OF BULK AT MOST 1048576: true; the input reads as it did. -/
def fnExactWorldValidUptoRow : OpenClaim := { program := "ytddjhneoacnkgaa", sum := "b3a3309c65e3a32d88a498a4a91bc54e5ec4c7f89cf93709d5402caa247a9aec", func := "loop.example/matchcompiler/laws.FnExactWorldValid", spec := "fnExactWorldValid", unfollowed := true, recurses := true, apart := false, narrowed := true }
def FnExactWorldValidUptoSaid : Prop := fnExactWorldValidUptoRow.holds Try.pinned (OpenSpec.upto fnExactWorldValidSpec)

/-- 'laws.FnExactTypeValid', WHERE WHAT IT READS IS OF BULK AT MOST 1048576: true; the input reads as it did. -/
def fnExactTypeValidUptoRow : OpenClaim := { program := "ytddjhneoacnkgaa", sum := "b3a3309c65e3a32d88a498a4a91bc54e5ec4c7f89cf93709d5402caa247a9aec", func := "loop.example/matchcompiler/laws.FnExactTypeValid", spec := "fnExactTypeValid", unfollowed := true, recurses := true, apart := false, narrowed := true }
def FnExactTypeValidUptoSaid : Prop := fnExactTypeValidUptoRow.holds Try.pinned (OpenSpec.upto fnExactTypeValidSpec)

/-- 'laws.FnExactCtorsOf', WHERE WHAT IT READS IS OF BULK AT MOST 1048576: true; the input reads as it did. -/
def fnExactCtorsOfUptoRow : OpenClaim := { program := "ytddjhneoacnkgaa", sum := "b3a3309c65e3a32d88a498a4a91bc54e5ec4c7f89cf93709d5402caa247a9aec", func := "loop.example/matchcompiler/laws.FnExactCtorsOf", spec := "fnExactCtorsOf", unfollowed := true, recurses := true, apart := false, narrowed := true }
def FnExactCtorsOfUptoSaid : Prop := fnExactCtorsOfUptoRow.holds Try.pinned (OpenSpec.upto fnExactCtorsOfSpec)

/-- 'laws.FnExactLeastDepth', WHERE WHAT IT READS IS OF BULK AT MOST 1048576: true; the input reads as it did. -/
def fnExactLeastDepthUptoRow : OpenClaim := { program := "ytddjhneoacnkgaa", sum := "b3a3309c65e3a32d88a498a4a91bc54e5ec4c7f89cf93709d5402caa247a9aec", func := "loop.example/matchcompiler/laws.FnExactLeastDepth", spec := "fnExactLeastDepth", unfollowed := true, recurses := true, apart := false, narrowed := true }
def FnExactLeastDepthUptoSaid : Prop := fnExactLeastDepthUptoRow.holds Try.pinned (OpenSpec.upto fnExactLeastDepthSpec)

/-- 'laws.FnExactInhabited', WHERE WHAT IT READS IS OF BULK AT MOST 1048576: true; the input reads as it did. -/
def fnExactInhabitedUptoRow : OpenClaim := { program := "ytddjhneoacnkgaa", sum := "b3a3309c65e3a32d88a498a4a91bc54e5ec4c7f89cf93709d5402caa247a9aec", func := "loop.example/matchcompiler/laws.FnExactInhabited", spec := "fnExactInhabited", unfollowed := true, recurses := true, apart := false, narrowed := true }
def FnExactInhabitedUptoSaid : Prop := fnExactInhabitedUptoRow.holds Try.pinned (OpenSpec.upto fnExactInhabitedSpec)

/-- 'laws.FnExactArgTypes', WHERE WHAT IT READS IS OF BULK AT MOST 1048576: true; the input reads as it did. -/
def fnExactArgTypesUptoRow : OpenClaim := { program := "ytddjhneoacnkgaa", sum := "b3a3309c65e3a32d88a498a4a91bc54e5ec4c7f89cf93709d5402caa247a9aec", func := "loop.example/matchcompiler/laws.FnExactArgTypes", spec := "fnExactArgTypes", unfollowed := true, recurses := true, apart := false, narrowed := true }
def FnExactArgTypesUptoSaid : Prop := fnExactArgTypesUptoRow.holds Try.pinned (OpenSpec.upto fnExactArgTypesSpec)

/-- 'laws.FnExactValueValid', WHERE WHAT IT READS IS OF BULK AT MOST 1048576: true; the input reads as it did. -/
def fnExactValueValidUptoRow : OpenClaim := { program := "ytddjhneoacnkgaa", sum := "b3a3309c65e3a32d88a498a4a91bc54e5ec4c7f89cf93709d5402caa247a9aec", func := "loop.example/matchcompiler/laws.FnExactValueValid", spec := "fnExactValueValid", unfollowed := true, recurses := true, loops := true, apart := false, narrowed := true }
def FnExactValueValidUptoSaid : Prop := fnExactValueValidUptoRow.holds Try.pinned (OpenSpec.upto fnExactValueValidSpec)

end Rows
end Go.Proofs.Ytddjhneoacnkgaa
