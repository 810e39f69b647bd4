/-
  DERIVED. GIVEN WITH THE SEED: THE CARDS: each row of YtojlpocpcakcbaaDoorRows.lean that lists a variable, with what it lists TIED to the program's text (the seventh form; the later family's looks); each row that meets fmt, with fmt's text TOLD by the authors' own Lean function (tested against real Go, not proved from fmt's source: count such statements apart). THE CARD IS WHAT COUNTS. Prove the row's statement (the work); the ties are given (YtojlpocpcakcbaaDoorTie.lean); close each card by the builder's one call (the guide's Derived/Test/ToyasCard.lean, 'card_holds'). Laid BY PROGRAM, IN A SANDBOX (cutbox-door.mjs). By AI agents, Wed Nov 11 2026. No macro, syntax, notation, axiom, sorry.
-/
import Derived.Test.YtojlpocpcakcbaaDoorRows
import GoSem.ClaimSeven
namespace Go.Proofs.YtojlpocpcakcbaaDoor
namespace Rows

/-- THE TIED CARD OF 'vestibulelaw10.NamesNumbers'. -/
def namesNumbersCard : Claim7 := { stood := { row := namesNumbersRow, standIns := [], harness := (true, "fec1a8a272dffacb5e7343738664fa4c7179a93881a39218eb1df79c7e385ecf"), looks := false }, kinds := [], alts := [], laidByText := true, laidKinds := [.data, .data, .data], laidTests := true, laidLooks := .later }
def NamesNumbersCardSaid : Prop := Claim7.holds Tryd.pinned (.plain (OpenSpec.ofChange namesNumbersSpec)) namesNumbersCard

/-- THE TIED CARD OF 'vestibulelaw10.NamesBack'. -/
def namesBackCard : Claim7 := { stood := { row := namesBackRow, standIns := [], harness := (true, "fec1a8a272dffacb5e7343738664fa4c7179a93881a39218eb1df79c7e385ecf"), looks := false }, kinds := [], alts := [], laidByText := true, laidKinds := [.data, .data, .data], laidTests := true, laidLooks := .later }
def NamesBackCardSaid : Prop := Claim7.holds Tryd.pinned (.plain (OpenSpec.ofChange namesBackSpec)) namesBackCard

/-- THE TIED CARD OF 'vestibulelaw10.NamesFlags'. -/
def namesFlagsCard : Claim7 := { stood := { row := namesFlagsRow, standIns := [], harness := (true, "fec1a8a272dffacb5e7343738664fa4c7179a93881a39218eb1df79c7e385ecf"), looks := false }, kinds := [], alts := [], laidByText := true, laidKinds := [.data, .data, .data], laidTests := true, laidLooks := .later }
def NamesFlagsCardSaid : Prop := Claim7.holds Tryd.pinned (.plain (OpenSpec.ofChange namesFlagsSpec)) namesFlagsCard

/-- THE TIED CARD OF 'vestibulelaw10.NamesTells'. -/
def namesTellsCard : Claim7 := { stood := { row := namesTellsRow, standIns := [], harness := (true, "fec1a8a272dffacb5e7343738664fa4c7179a93881a39218eb1df79c7e385ecf"), looks := false }, kinds := [], alts := [], laidByText := true, laidKinds := [.data, .data, .data], laidTests := true, laidLooks := .later }
def NamesTellsCardSaid : Prop := Claim7.holds Tryd.pinned (.plain (OpenSpec.ofChange namesTellsSpec)) namesTellsCard

/-- THE TIED CARD OF 'vestibulelaw15.ValuesEntries'. -/
def valuesEntriesCard : Claim7 := { stood := { row := valuesEntriesRow, standIns := [], harness := (true, "fec1a8a272dffacb5e7343738664fa4c7179a93881a39218eb1df79c7e385ecf"), looks := false }, kinds := [], alts := [], laidByText := true, laidKinds := [.data, .data, .data], laidTests := true, laidLooks := .later }
def ValuesEntriesCardSaid : Prop := Claim7.holds Tryd.pinned (.plain (OpenSpec.ofChange valuesEntriesSpec)) valuesEntriesCard

/-- THE TIED CARD OF 'vestibulelaw15.ValuesBack'. -/
def valuesBackCard : Claim7 := { stood := { row := valuesBackRow, standIns := [], harness := (true, "fec1a8a272dffacb5e7343738664fa4c7179a93881a39218eb1df79c7e385ecf"), looks := false }, kinds := [], alts := [], laidByText := true, laidKinds := [.data, .data, .data], laidTests := true, laidLooks := .later }
def ValuesBackCardSaid : Prop := Claim7.holds Tryd.pinned (.plain (OpenSpec.ofChange valuesBackSpec)) valuesBackCard

/-- THE SECOND FORM's CARD OF 'vestibulelaw10.NamesNumbers'. -/
def namesNumbersUptoCard : Claim7 := { stood := { row := namesNumbersUptoRow, standIns := [], harness := (true, "fec1a8a272dffacb5e7343738664fa4c7179a93881a39218eb1df79c7e385ecf"), looks := false }, kinds := [], alts := [], laidByText := true, laidKinds := [.data, .data, .data], laidTests := true, laidLooks := .later }
def NamesNumbersUptoCardSaid : Prop := Claim7.holds Tryd.pinned (.plain (OpenSpec.upto namesNumbersSpec)) namesNumbersUptoCard

/-- THE SECOND FORM's CARD OF 'vestibulelaw10.NamesBack'. -/
def namesBackUptoCard : Claim7 := { stood := { row := namesBackUptoRow, standIns := [], harness := (true, "fec1a8a272dffacb5e7343738664fa4c7179a93881a39218eb1df79c7e385ecf"), looks := false }, kinds := [], alts := [], laidByText := true, laidKinds := [.data, .data, .data], laidTests := true, laidLooks := .later }
def NamesBackUptoCardSaid : Prop := Claim7.holds Tryd.pinned (.plain (OpenSpec.upto namesBackSpec)) namesBackUptoCard

/-- THE SECOND FORM's CARD OF 'vestibulelaw10.NamesFlags'. -/
def namesFlagsUptoCard : Claim7 := { stood := { row := namesFlagsUptoRow, standIns := [], harness := (true, "fec1a8a272dffacb5e7343738664fa4c7179a93881a39218eb1df79c7e385ecf"), looks := false }, kinds := [], alts := [], laidByText := true, laidKinds := [.data, .data, .data], laidTests := true, laidLooks := .later }
def NamesFlagsUptoCardSaid : Prop := Claim7.holds Tryd.pinned (.plain (OpenSpec.upto namesFlagsSpec)) namesFlagsUptoCard

/-- THE SECOND FORM's CARD OF 'vestibulelaw10.NamesTells'. -/
def namesTellsUptoCard : Claim7 := { stood := { row := namesTellsUptoRow, standIns := [], harness := (true, "fec1a8a272dffacb5e7343738664fa4c7179a93881a39218eb1df79c7e385ecf"), looks := false }, kinds := [], alts := [], laidByText := true, laidKinds := [.data, .data, .data], laidTests := true, laidLooks := .later }
def NamesTellsUptoCardSaid : Prop := Claim7.holds Tryd.pinned (.plain (OpenSpec.upto namesTellsSpec)) namesTellsUptoCard

/-- THE SECOND FORM's CARD OF 'vestibulelaw15.ValuesEntries'. -/
def valuesEntriesUptoCard : Claim7 := { stood := { row := valuesEntriesUptoRow, standIns := [], harness := (true, "fec1a8a272dffacb5e7343738664fa4c7179a93881a39218eb1df79c7e385ecf"), looks := false }, kinds := [], alts := [], laidByText := true, laidKinds := [.data, .data, .data], laidTests := true, laidLooks := .later }
def ValuesEntriesUptoCardSaid : Prop := Claim7.holds Tryd.pinned (.plain (OpenSpec.upto valuesEntriesSpec)) valuesEntriesUptoCard

/-- THE SECOND FORM's CARD OF 'vestibulelaw15.ValuesBack'. -/
def valuesBackUptoCard : Claim7 := { stood := { row := valuesBackUptoRow, standIns := [], harness := (true, "fec1a8a272dffacb5e7343738664fa4c7179a93881a39218eb1df79c7e385ecf"), looks := false }, kinds := [], alts := [], laidByText := true, laidKinds := [.data, .data, .data], laidTests := true, laidLooks := .later }
def ValuesBackUptoCardSaid : Prop := Claim7.holds Tryd.pinned (.plain (OpenSpec.upto valuesBackSpec)) valuesBackUptoCard
end Rows
end Go.Proofs.YtojlpocpcakcbaaDoor
