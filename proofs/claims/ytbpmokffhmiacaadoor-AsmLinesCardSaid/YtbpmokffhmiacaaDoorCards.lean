/-
  DERIVED. GIVEN WITH THE SEED: THE CARDS: each row of YtbpmokffhmiacaaDoorRows.lean that lists a variable, with what it lists TIED to the program's text (the seventh form; the later family's looks); each row that meets fmt, with fmt's text TOLD by the authors' own Lean function (tested against real Go, not proved from fmt's source: count such statements apart). THE CARD IS WHAT COUNTS. Prove the row's statement (the work); the ties are given (YtbpmokffhmiacaaDoorTie.lean); close each card by the builder's one call (the guide's Derived/Test/ToyasCard.lean, 'card_holds'). Laid BY PROGRAM, IN A SANDBOX (cutbox-door.mjs). By AI agents, Wed Nov 11 2026. No macro, syntax, notation, axiom, sorry.
-/
import Derived.Test.YtbpmokffhmiacaaDoorRows
import GoSem.ClaimSeven
namespace Go.Proofs.YtbpmokffhmiacaaDoor
namespace Rows

/-- THE TIED CARD OF 'vestibulelaw07.AsmLine'. -/
def asmLineCard : Claim7 := { stood := { row := asmLineRow, standIns := [], harness := (true, "d36d839d5b4cc8c000d31725f22b6af59a68af782230c843f7a9ea1d741ee8cd"), looks := true }, kinds := [], alts := [], laidByText := true, laidKinds := [.data, .data, .data], laidTests := true, laidLooks := .later }
def AsmLineCardSaid : Prop := Claim7.holds Tryd.pinned (.plain (OpenSpec.ofChange asmLineSpec)) asmLineCard

/-- THE TIED CARD OF 'vestibulelaw07.AsmText'. -/
def asmTextCard : Claim7 := { stood := { row := asmTextRow, standIns := [], harness := (true, "d36d839d5b4cc8c000d31725f22b6af59a68af782230c843f7a9ea1d741ee8cd"), looks := true }, kinds := [], alts := [], laidByText := true, laidKinds := [.data, .data, .data], laidTests := true, laidLooks := .later }
def AsmTextCardSaid : Prop := Claim7.holds Tryd.pinned (.plain (OpenSpec.ofChange asmTextSpec)) asmTextCard

/-- THE TIED CARD OF 'vestibulelaw07.AsmLines'. -/
def asmLinesCard : Claim7 := { stood := { row := asmLinesRow, standIns := [], harness := (true, "d36d839d5b4cc8c000d31725f22b6af59a68af782230c843f7a9ea1d741ee8cd"), looks := true }, kinds := [], alts := [], laidByText := true, laidKinds := [.data, .data, .data, .data, .sentinel, .sentinel, .pinned], laidTests := true, laidLooks := .later }
def AsmLinesCardSaid : Prop := Claim7.holds Tryd.pinned (.plain (OpenSpec.ofChange asmLinesSpec)) asmLinesCard

/-- THE TIED CARD OF 'vestibulelaw07.AsmOne'. -/
def asmOneCard : Claim7 := { stood := { row := asmOneRow, standIns := [], harness := (true, "d36d839d5b4cc8c000d31725f22b6af59a68af782230c843f7a9ea1d741ee8cd"), looks := true }, kinds := [], alts := [], laidByText := true, laidKinds := [.data, .data, .data, .data, .sentinel, .sentinel, .pinned], laidTests := true, laidLooks := .later }
def AsmOneCardSaid : Prop := Claim7.holds Tryd.pinned (.plain (OpenSpec.ofChange asmOneSpec)) asmOneCard

/-- THE TIED CARD OF 'vestibulelaw07.AsmBack'. -/
def asmBackCard : Claim7 := { stood := { row := asmBackRow, standIns := [], harness := (true, "d36d839d5b4cc8c000d31725f22b6af59a68af782230c843f7a9ea1d741ee8cd"), looks := true }, kinds := [], alts := [], laidByText := true, laidKinds := [.data, .data, .data, .data, .sentinel, .sentinel, .pinned], laidTests := true, laidLooks := .later }
def AsmBackCardSaid : Prop := Claim7.holds Tryd.pinned (.plain (OpenSpec.ofChange asmBackSpec)) asmBackCard

/-- THE SECOND FORM's CARD OF 'vestibulelaw07.AsmLine'. -/
def asmLineUptoCard : Claim7 := { stood := { row := asmLineUptoRow, standIns := [], harness := (true, "d36d839d5b4cc8c000d31725f22b6af59a68af782230c843f7a9ea1d741ee8cd"), looks := true }, kinds := [], alts := [], laidByText := true, laidKinds := [.data, .data, .data], laidTests := true, laidLooks := .later }
def AsmLineUptoCardSaid : Prop := Claim7.holds Tryd.pinned (.plain (OpenSpec.upto asmLineSpec)) asmLineUptoCard

/-- THE SECOND FORM's CARD OF 'vestibulelaw07.AsmText'. -/
def asmTextUptoCard : Claim7 := { stood := { row := asmTextUptoRow, standIns := [], harness := (true, "d36d839d5b4cc8c000d31725f22b6af59a68af782230c843f7a9ea1d741ee8cd"), looks := true }, kinds := [], alts := [], laidByText := true, laidKinds := [.data, .data, .data], laidTests := true, laidLooks := .later }
def AsmTextUptoCardSaid : Prop := Claim7.holds Tryd.pinned (.plain (OpenSpec.upto asmTextSpec)) asmTextUptoCard

/-- THE SECOND FORM's CARD OF 'vestibulelaw07.AsmLines'. -/
def asmLinesUptoCard : Claim7 := { stood := { row := asmLinesUptoRow, standIns := [], harness := (true, "d36d839d5b4cc8c000d31725f22b6af59a68af782230c843f7a9ea1d741ee8cd"), looks := true }, kinds := [], alts := [], laidByText := true, laidKinds := [.data, .data, .data, .data, .sentinel, .sentinel, .pinned], laidTests := true, laidLooks := .later }
def AsmLinesUptoCardSaid : Prop := Claim7.holds Tryd.pinned (.plain (OpenSpec.upto asmLinesSpec)) asmLinesUptoCard

/-- THE SECOND FORM's CARD OF 'vestibulelaw07.AsmOne'. -/
def asmOneUptoCard : Claim7 := { stood := { row := asmOneUptoRow, standIns := [], harness := (true, "d36d839d5b4cc8c000d31725f22b6af59a68af782230c843f7a9ea1d741ee8cd"), looks := true }, kinds := [], alts := [], laidByText := true, laidKinds := [.data, .data, .data, .data, .sentinel, .sentinel, .pinned], laidTests := true, laidLooks := .later }
def AsmOneUptoCardSaid : Prop := Claim7.holds Tryd.pinned (.plain (OpenSpec.upto asmOneSpec)) asmOneUptoCard

/-- THE SECOND FORM's CARD OF 'vestibulelaw07.AsmBack'. -/
def asmBackUptoCard : Claim7 := { stood := { row := asmBackUptoRow, standIns := [], harness := (true, "d36d839d5b4cc8c000d31725f22b6af59a68af782230c843f7a9ea1d741ee8cd"), looks := true }, kinds := [], alts := [], laidByText := true, laidKinds := [.data, .data, .data, .data, .sentinel, .sentinel, .pinned], laidTests := true, laidLooks := .later }
def AsmBackUptoCardSaid : Prop := Claim7.holds Tryd.pinned (.plain (OpenSpec.upto asmBackSpec)) asmBackUptoCard
end Rows
end Go.Proofs.YtbpmokffhmiacaaDoor
