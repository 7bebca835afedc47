/-
  DERIVED. GIVEN WITH THE SEED: THE CARDS: each row of YtbejcgknjnhdpaaDoorRows.lean that lists a variable, with what it lists TIED to the program's text (the seventh form; the later family's looks); each row that meets fmt, with fmt's text TOLD by the authors' own Lean function (tested against real Go, not proved from fmt's source: count such statements apart). THE CARD IS WHAT COUNTS. Prove the row's statement (the work); the ties are given (YtbejcgknjnhdpaaDoorTie.lean); close each card by the builder's one call (the guide's Derived/Test/ToyasCard.lean, 'card_holds'). Laid BY PROGRAM, IN A SANDBOX (cutbox-door.mjs). By AI agents, Wed Nov 11 2026. No macro, syntax, notation, axiom, sorry.
-/
import Derived.Test.YtbejcgknjnhdpaaDoorRows
import GoSem.ClaimSeven
namespace Go.Proofs.YtbejcgknjnhdpaaDoor
namespace Rows

/-- THE TIED CARD OF 'laws.FnNameValid'. -/
def fnNameValidCard : Claim7 := { stood := { row := fnNameValidRow, standIns := [], harness := (true, "2d41e9da64f9444460802cc908a32b0a2852e89e96c435df12ee8bfab026745a"), looks := false }, kinds := [], alts := [], laidByText := true, laidKinds := [.data, .data, .data], laidTests := true, laidLooks := .later }
def FnNameValidCardSaid : Prop := Claim7.holds Tryd.pinned (.plain (OpenSpec.ofChange fnNameValidSpec)) fnNameValidCard

/-- THE TIED CARD OF 'laws.FnTypeText'. -/
def fnTypeTextCard : Claim7 := { stood := { row := fnTypeTextRow, standIns := [], harness := (true, "2d41e9da64f9444460802cc908a32b0a2852e89e96c435df12ee8bfab026745a"), looks := false }, kinds := [], alts := [], laidByText := true, laidKinds := [.data, .data, .data], laidTests := true, laidLooks := .later }
def FnTypeTextCardSaid : Prop := Claim7.holds Tryd.pinned (.plain (OpenSpec.ofChange fnTypeTextSpec)) fnTypeTextCard

/-- THE TIED CARD OF 'laws.FnWorldSame'. -/
def fnWorldSameCard : Claim7 := { stood := { row := fnWorldSameRow, standIns := [], harness := (true, "2d41e9da64f9444460802cc908a32b0a2852e89e96c435df12ee8bfab026745a"), looks := false }, kinds := [], alts := [], laidByText := true, laidKinds := [.data, .data, .data], laidTests := true, laidLooks := .later }
def FnWorldSameCardSaid : Prop := Claim7.holds Tryd.pinned (.plain (OpenSpec.ofChange fnWorldSameSpec)) fnWorldSameCard

/-- THE SECOND FORM's CARD OF 'laws.FnNameValid'. -/
def fnNameValidUptoCard : Claim7 := { stood := { row := fnNameValidUptoRow, standIns := [], harness := (true, "2d41e9da64f9444460802cc908a32b0a2852e89e96c435df12ee8bfab026745a"), looks := false }, kinds := [], alts := [], laidByText := true, laidKinds := [.data, .data, .data], laidTests := true, laidLooks := .later }
def FnNameValidUptoCardSaid : Prop := Claim7.holds Tryd.pinned (.plain (OpenSpec.upto fnNameValidSpec)) fnNameValidUptoCard

/-- THE SECOND FORM's CARD OF 'laws.FnTypeText'. -/
def fnTypeTextUptoCard : Claim7 := { stood := { row := fnTypeTextUptoRow, standIns := [], harness := (true, "2d41e9da64f9444460802cc908a32b0a2852e89e96c435df12ee8bfab026745a"), looks := false }, kinds := [], alts := [], laidByText := true, laidKinds := [.data, .data, .data], laidTests := true, laidLooks := .later }
def FnTypeTextUptoCardSaid : Prop := Claim7.holds Tryd.pinned (.plain (OpenSpec.upto fnTypeTextSpec)) fnTypeTextUptoCard

/-- THE SECOND FORM's CARD OF 'laws.FnWorldSame'. -/
def fnWorldSameUptoCard : Claim7 := { stood := { row := fnWorldSameUptoRow, standIns := [], harness := (true, "2d41e9da64f9444460802cc908a32b0a2852e89e96c435df12ee8bfab026745a"), looks := false }, kinds := [], alts := [], laidByText := true, laidKinds := [.data, .data, .data], laidTests := true, laidLooks := .later }
def FnWorldSameUptoCardSaid : Prop := Claim7.holds Tryd.pinned (.plain (OpenSpec.upto fnWorldSameSpec)) fnWorldSameUptoCard
end Rows
end Go.Proofs.YtbejcgknjnhdpaaDoor
