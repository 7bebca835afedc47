/-
  DERIVED. GIVEN WITH THE SEED: THE CARDS: each row of YtjjclcmmfeegfaaGreatDoorRows.lean that lists a variable, with what it lists TIED to the program's text (the seventh form; the later family's looks); each row that meets fmt, with fmt's text TOLD by the authors' own Lean function (tested against real Go, not proved from fmt's source: count such statements apart). THE CARD IS WHAT COUNTS. Prove the row's statement (the work); the ties are given (YtjjclcmmfeegfaaGreatDoorTie.lean); close each card by the builder's one call (the guide's Derived/Test/ToyasCard.lean, 'card_holds'). Laid BY PROGRAM, IN A SANDBOX (cutbox-door.mjs). By AI agents, Wed Nov 11 2026. No macro, syntax, notation, axiom, sorry.
-/
import Derived.Test.YtjjclcmmfeegfaaGreatDoorRows
import GoSem.ClaimSeven
namespace Go.Proofs.YtjjclcmmfeegfaaGreatDoor
namespace Rows

/-- THE TIED CARD OF 'laws.FnPatternUnique'. -/
def fnPatternUniqueCard : Claim7 := { stood := { row := fnPatternUniqueRow, standIns := [], harness := (true, "66b6b509f583612bef3d32e9dbdfaec8929ee34f5a418f072f93627467dc3f88"), looks := true }, kinds := [], alts := [], laidByText := true, laidKinds := [.data, .data, .data], laidTests := true, laidLooks := .later }
def FnPatternUniqueCardSaid : Prop := Claim7.holds Tryz.pinned (.plain (OpenSpec.ofChange fnPatternUniqueSpec)) fnPatternUniqueCard

/-- THE TIED CARD OF 'laws.FnExactParseWorld'. -/
def fnExactParseWorldCard : Claim7 := { stood := { row := fnExactParseWorldRow, standIns := [], harness := (true, "66b6b509f583612bef3d32e9dbdfaec8929ee34f5a418f072f93627467dc3f88"), looks := true }, kinds := [], alts := [], laidByText := true, laidKinds := [.data, .data, .data, .data, .sentinel, .sentinel, .pinned], laidTests := true, laidLooks := .later }
def FnExactParseWorldCardSaid : Prop := Claim7.holds Tryz.pinned (.plain (OpenSpec.ofChange fnExactParseWorldSpec)) fnExactParseWorldCard

/-- THE TIED CARD OF 'laws.FnWorldText'. -/
def fnWorldTextCard : Claim7 := { stood := { row := fnWorldTextRow, standIns := [], harness := (true, "66b6b509f583612bef3d32e9dbdfaec8929ee34f5a418f072f93627467dc3f88"), looks := true }, kinds := [], alts := [], laidByText := true, laidKinds := [.data, .data, .data, .data, .sentinel, .sentinel, .pinned], laidTests := true, laidLooks := .later }
def FnWorldTextCardSaid : Prop := Claim7.holds Tryz.pinned (.plain (OpenSpec.ofChange fnWorldTextSpec)) fnWorldTextCard

/-- THE TIED CARD OF 'laws.FnPatternOf'. -/
def fnPatternOfCard : Claim7 := { stood := { row := fnPatternOfRow, standIns := [], harness := (true, "66b6b509f583612bef3d32e9dbdfaec8929ee34f5a418f072f93627467dc3f88"), looks := true }, kinds := [], alts := [], laidByText := true, laidKinds := [.data, .data, .data], laidTests := true, laidLooks := .later }
def FnPatternOfCardSaid : Prop := Claim7.holds Tryz.pinned (.plain (OpenSpec.ofChange fnPatternOfSpec)) fnPatternOfCard

/-- THE SECOND FORM's CARD OF 'laws.FnPatternUnique'. -/
def fnPatternUniqueUptoCard : Claim7 := { stood := { row := fnPatternUniqueUptoRow, standIns := [], harness := (true, "66b6b509f583612bef3d32e9dbdfaec8929ee34f5a418f072f93627467dc3f88"), looks := true }, kinds := [], alts := [], laidByText := true, laidKinds := [.data, .data, .data], laidTests := true, laidLooks := .later }
def FnPatternUniqueUptoCardSaid : Prop := Claim7.holds Tryz.pinned (.plain (OpenSpec.upto fnPatternUniqueSpec)) fnPatternUniqueUptoCard

/-- THE SECOND FORM's CARD OF 'laws.FnExactParseWorld'. -/
def fnExactParseWorldUptoCard : Claim7 := { stood := { row := fnExactParseWorldUptoRow, standIns := [], harness := (true, "66b6b509f583612bef3d32e9dbdfaec8929ee34f5a418f072f93627467dc3f88"), looks := true }, kinds := [], alts := [], laidByText := true, laidKinds := [.data, .data, .data, .data, .sentinel, .sentinel, .pinned], laidTests := true, laidLooks := .later }
def FnExactParseWorldUptoCardSaid : Prop := Claim7.holds Tryz.pinned (.plain (OpenSpec.upto fnExactParseWorldSpec)) fnExactParseWorldUptoCard

/-- THE SECOND FORM's CARD OF 'laws.FnWorldText'. -/
def fnWorldTextUptoCard : Claim7 := { stood := { row := fnWorldTextUptoRow, standIns := [], harness := (true, "66b6b509f583612bef3d32e9dbdfaec8929ee34f5a418f072f93627467dc3f88"), looks := true }, kinds := [], alts := [], laidByText := true, laidKinds := [.data, .data, .data, .data, .sentinel, .sentinel, .pinned], laidTests := true, laidLooks := .later }
def FnWorldTextUptoCardSaid : Prop := Claim7.holds Tryz.pinned (.plain (OpenSpec.upto fnWorldTextSpec)) fnWorldTextUptoCard

/-- THE SECOND FORM's CARD OF 'laws.FnPatternOf'. -/
def fnPatternOfUptoCard : Claim7 := { stood := { row := fnPatternOfUptoRow, standIns := [], harness := (true, "66b6b509f583612bef3d32e9dbdfaec8929ee34f5a418f072f93627467dc3f88"), looks := true }, kinds := [], alts := [], laidByText := true, laidKinds := [.data, .data, .data], laidTests := true, laidLooks := .later }
def FnPatternOfUptoCardSaid : Prop := Claim7.holds Tryz.pinned (.plain (OpenSpec.upto fnPatternOfSpec)) fnPatternOfUptoCard
end Rows
end Go.Proofs.YtjjclcmmfeegfaaGreatDoor
