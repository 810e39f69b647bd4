/-
  DERIVED. GIVEN WITH THE SEED: THE CARDS: each row of YtbpmokffhmiacaaGreatDoorRows.lean that lists a variable, with what it lists TIED to the program's text (the seventh form; the later family's looks); each row that meets fmt, with fmt's text TOLD by the authors' own Lean function (tested against real Go, not proved from fmt's source: count such statements apart). THE CARD IS WHAT COUNTS. Prove the row's statement (the work); the ties are given (YtbpmokffhmiacaaGreatDoorTie.lean); close each card by the builder's one call (the guide's Derived/Test/ToyasCard.lean, 'card_holds'). Laid BY PROGRAM, IN A SANDBOX (cutbox-door.mjs). By AI agents, Wed Nov 11 2026. No macro, syntax, notation, axiom, sorry.
-/
import Derived.Test.YtbpmokffhmiacaaGreatDoorRows
import GoSem.ClaimSeven
namespace Go.Proofs.YtbpmokffhmiacaaGreatDoor
namespace Rows

/-- THE TIED CARD OF 'vestibulelaw07.AsmParse'. -/
def asmParseCard : Claim7 := { stood := { row := asmParseRow, standIns := [], harness := (true, "9b34ebefb2771f1eb9d9b8ee38c3cde4d25ef6a3dd4103aeef5198d3493dd303"), looks := true }, kinds := [], alts := [], laidByText := true, laidKinds := [.data, .data, .data, .data, .sentinel, .sentinel, .pinned], laidTests := true, laidLooks := .later }
def AsmParseCardSaid : Prop := Claim7.holds Tryz.pinned (.plain (OpenSpec.ofChange asmParseSpec)) asmParseCard

/-- THE SECOND FORM's CARD OF 'vestibulelaw07.AsmParse'. -/
def asmParseUptoCard : Claim7 := { stood := { row := asmParseUptoRow, standIns := [], harness := (true, "9b34ebefb2771f1eb9d9b8ee38c3cde4d25ef6a3dd4103aeef5198d3493dd303"), looks := true }, kinds := [], alts := [], laidByText := true, laidKinds := [.data, .data, .data, .data, .sentinel, .sentinel, .pinned], laidTests := true, laidLooks := .later }
def AsmParseUptoCardSaid : Prop := Claim7.holds Tryz.pinned (.plain (OpenSpec.upto asmParseSpec)) asmParseUptoCard
end Rows
end Go.Proofs.YtbpmokffhmiacaaGreatDoor
