/-
  DERIVED. GIVEN WITH THE SEED: THE CARDS: each row of YtilndhmegaccmaaGreatDoorRows.lean that lists a variable, with what it lists TIED to the program's text (the seventh form; the later family's looks); each row that meets fmt, with fmt's text TOLD by the authors' own Lean function (tested against real Go, not proved from fmt's source: count such statements apart). THE CARD IS WHAT COUNTS. Prove the row's statement (the work); the ties are given (YtilndhmegaccmaaGreatDoorTie.lean); close each card by the builder's one call (the guide's Derived/Test/ToyasCard.lean, 'card_holds'). Laid BY PROGRAM, IN A SANDBOX (cutbox-door.mjs). By AI agents, Wed Nov 11 2026. No macro, syntax, notation, axiom, sorry.
-/
import Derived.Test.YtilndhmegaccmaaGreatDoorRows
import GoSem.ClaimSeven
namespace Go.Proofs.YtilndhmegaccmaaGreatDoor
namespace Rows

/-- THE TIED CARD OF 'laws.FnExactFormatPattern'. -/
def fnExactFormatPatternCard : Claim7 := { stood := { row := fnExactFormatPatternRow, standIns := [], harness := (true, "9602469441f634bfccbc510b3cc4e7b570509ca97567b05af90b0c71e0fec037"), looks := false }, kinds := [], alts := [], laidByText := true, laidKinds := [.data, .data, .data], laidTests := true, laidLooks := .later }
def FnExactFormatPatternCardSaid : Prop := Claim7.holds Tryz.pinned (.plain (OpenSpec.ofChange fnExactFormatPatternSpec)) fnExactFormatPatternCard

/-- THE SECOND FORM's CARD OF 'laws.FnExactFormatPattern'. -/
def fnExactFormatPatternUptoCard : Claim7 := { stood := { row := fnExactFormatPatternUptoRow, standIns := [], harness := (true, "9602469441f634bfccbc510b3cc4e7b570509ca97567b05af90b0c71e0fec037"), looks := false }, kinds := [], alts := [], laidByText := true, laidKinds := [.data, .data, .data], laidTests := true, laidLooks := .later }
def FnExactFormatPatternUptoCardSaid : Prop := Claim7.holds Tryz.pinned (.plain (OpenSpec.upto fnExactFormatPatternSpec)) fnExactFormatPatternUptoCard
end Rows
end Go.Proofs.YtilndhmegaccmaaGreatDoor
