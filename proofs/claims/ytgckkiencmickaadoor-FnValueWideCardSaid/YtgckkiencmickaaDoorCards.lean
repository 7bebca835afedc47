/-
  DERIVED. GIVEN WITH THE SEED: THE CARDS: each row of YtgckkiencmickaaDoorRows.lean that lists a variable, with what it lists TIED to the program's text (the seventh form; the later family's looks); each row that meets fmt, with fmt's text TOLD by the authors' own Lean function (tested against real Go, not proved from fmt's source: count such statements apart). THE CARD IS WHAT COUNTS. Prove the row's statement (the work); the ties are given (YtgckkiencmickaaDoorTie.lean); close each card by the builder's one call (the guide's Derived/Test/ToyasCard.lean, 'card_holds'). Laid BY PROGRAM, IN A SANDBOX (cutbox-door.mjs). By AI agents, Wed Nov 11 2026. No macro, syntax, notation, axiom, sorry.
-/
import Derived.Test.YtgckkiencmickaaDoorRows
import GoSem.ClaimSeven
namespace Go.Proofs.YtgckkiencmickaaDoor
namespace Rows

/-- THE TIED CARD OF 'laws.FnValueWide'. -/
def fnValueWideCard : Claim7 := { stood := { row := fnValueWideRow, standIns := [], harness := (true, "c02e3b550fb449609c61530e59d5084dfa859eee42bb032e122a04499d53d320"), looks := false }, kinds := [], alts := [], laidByText := true, laidKinds := [.data, .data, .data], laidTests := true, laidLooks := .later }
def FnValueWideCardSaid : Prop := Claim7.holds Tryd.pinned (.plain (OpenSpec.ofChange fnValueWideSpec)) fnValueWideCard

/-- THE SECOND FORM's CARD OF 'laws.FnValueWide'. -/
def fnValueWideUptoCard : Claim7 := { stood := { row := fnValueWideUptoRow, standIns := [], harness := (true, "c02e3b550fb449609c61530e59d5084dfa859eee42bb032e122a04499d53d320"), looks := false }, kinds := [], alts := [], laidByText := true, laidKinds := [.data, .data, .data], laidTests := true, laidLooks := .later }
def FnValueWideUptoCardSaid : Prop := Claim7.holds Tryd.pinned (.plain (OpenSpec.upto fnValueWideSpec)) fnValueWideUptoCard
end Rows
end Go.Proofs.YtgckkiencmickaaDoor
