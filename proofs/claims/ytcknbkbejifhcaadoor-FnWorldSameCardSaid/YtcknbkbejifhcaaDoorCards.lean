/-
  DERIVED. GIVEN WITH THE SEED: THE CARDS: each row of YtcknbkbejifhcaaDoorRows.lean that lists a variable, with what it lists TIED to the program's text (the seventh form; the later family's looks); each row that meets fmt, with fmt's text TOLD by the authors' own Lean function (tested against real Go, not proved from fmt's source: count such statements apart). THE CARD IS WHAT COUNTS. Prove the row's statement (the work); the ties are given (YtcknbkbejifhcaaDoorTie.lean); close each card by the builder's one call (the guide's Derived/Test/ToyasCard.lean, 'card_holds'). Laid BY PROGRAM, IN A SANDBOX (cutbox-door.mjs). By AI agents, Wed Nov 11 2026. No macro, syntax, notation, axiom, sorry.
-/
import Derived.Test.YtcknbkbejifhcaaDoorRows
import GoSem.ClaimSeven
namespace Go.Proofs.YtcknbkbejifhcaaDoor
namespace Rows

/-- THE TIED CARD OF 'laws.FnNameValid'. -/
def fnNameValidCard : Claim7 := { stood := { row := fnNameValidRow, standIns := [], harness := (true, "cd45e0fca09700a7bd94bcb073bbff0733fb0fbc4d8e85e742b7dc12b58700c7"), looks := false }, kinds := [], alts := [], laidByText := true, laidKinds := [.data, .data, .data], laidTests := true, laidLooks := .later }
def FnNameValidCardSaid : Prop := Claim7.holds Tryd.pinned (.plain (OpenSpec.ofChange fnNameValidSpec)) fnNameValidCard

/-- THE TIED CARD OF 'laws.FnWorldSame'. -/
def fnWorldSameCard : Claim7 := { stood := { row := fnWorldSameRow, standIns := [], harness := (true, "cd45e0fca09700a7bd94bcb073bbff0733fb0fbc4d8e85e742b7dc12b58700c7"), looks := false }, kinds := [], alts := [], laidByText := true, laidKinds := [.data, .data, .data], laidTests := true, laidLooks := .later }
def FnWorldSameCardSaid : Prop := Claim7.holds Tryd.pinned (.plain (OpenSpec.ofChange fnWorldSameSpec)) fnWorldSameCard

/-- THE TIED CARD OF 'laws.FnExactFormatType'. -/
def fnExactFormatTypeCard : Claim7 := { stood := { row := fnExactFormatTypeRow, standIns := [], harness := (true, "cd45e0fca09700a7bd94bcb073bbff0733fb0fbc4d8e85e742b7dc12b58700c7"), looks := false }, kinds := [], alts := [], laidByText := true, laidKinds := [.data, .data, .data], laidTests := true, laidLooks := .later }
def FnExactFormatTypeCardSaid : Prop := Claim7.holds Tryd.pinned (.plain (OpenSpec.ofChange fnExactFormatTypeSpec)) fnExactFormatTypeCard

/-- THE TIED CARD OF 'laws.FnExactFormatWorld'. -/
def fnExactFormatWorldCard : Claim7 := { stood := { row := fnExactFormatWorldRow, standIns := [], harness := (true, "cd45e0fca09700a7bd94bcb073bbff0733fb0fbc4d8e85e742b7dc12b58700c7"), looks := false }, kinds := [], alts := [], laidByText := true, laidKinds := [.data, .data, .data], laidTests := true, laidLooks := .later }
def FnExactFormatWorldCardSaid : Prop := Claim7.holds Tryd.pinned (.plain (OpenSpec.ofChange fnExactFormatWorldSpec)) fnExactFormatWorldCard

/-- THE SECOND FORM's CARD OF 'laws.FnNameValid'. -/
def fnNameValidUptoCard : Claim7 := { stood := { row := fnNameValidUptoRow, standIns := [], harness := (true, "cd45e0fca09700a7bd94bcb073bbff0733fb0fbc4d8e85e742b7dc12b58700c7"), looks := false }, kinds := [], alts := [], laidByText := true, laidKinds := [.data, .data, .data], laidTests := true, laidLooks := .later }
def FnNameValidUptoCardSaid : Prop := Claim7.holds Tryd.pinned (.plain (OpenSpec.upto fnNameValidSpec)) fnNameValidUptoCard

/-- THE SECOND FORM's CARD OF 'laws.FnWorldSame'. -/
def fnWorldSameUptoCard : Claim7 := { stood := { row := fnWorldSameUptoRow, standIns := [], harness := (true, "cd45e0fca09700a7bd94bcb073bbff0733fb0fbc4d8e85e742b7dc12b58700c7"), looks := false }, kinds := [], alts := [], laidByText := true, laidKinds := [.data, .data, .data], laidTests := true, laidLooks := .later }
def FnWorldSameUptoCardSaid : Prop := Claim7.holds Tryd.pinned (.plain (OpenSpec.upto fnWorldSameSpec)) fnWorldSameUptoCard

/-- THE SECOND FORM's CARD OF 'laws.FnExactFormatType'. -/
def fnExactFormatTypeUptoCard : Claim7 := { stood := { row := fnExactFormatTypeUptoRow, standIns := [], harness := (true, "cd45e0fca09700a7bd94bcb073bbff0733fb0fbc4d8e85e742b7dc12b58700c7"), looks := false }, kinds := [], alts := [], laidByText := true, laidKinds := [.data, .data, .data], laidTests := true, laidLooks := .later }
def FnExactFormatTypeUptoCardSaid : Prop := Claim7.holds Tryd.pinned (.plain (OpenSpec.upto fnExactFormatTypeSpec)) fnExactFormatTypeUptoCard

/-- THE SECOND FORM's CARD OF 'laws.FnExactFormatWorld'. -/
def fnExactFormatWorldUptoCard : Claim7 := { stood := { row := fnExactFormatWorldUptoRow, standIns := [], harness := (true, "cd45e0fca09700a7bd94bcb073bbff0733fb0fbc4d8e85e742b7dc12b58700c7"), looks := false }, kinds := [], alts := [], laidByText := true, laidKinds := [.data, .data, .data], laidTests := true, laidLooks := .later }
def FnExactFormatWorldUptoCardSaid : Prop := Claim7.holds Tryd.pinned (.plain (OpenSpec.upto fnExactFormatWorldSpec)) fnExactFormatWorldUptoCard
end Rows
end Go.Proofs.YtcknbkbejifhcaaDoor
