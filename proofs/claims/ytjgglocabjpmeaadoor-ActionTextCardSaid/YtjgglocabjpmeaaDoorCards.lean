/-
  DERIVED. GIVEN WITH THE SEED: THE CARDS: each row of YtjgglocabjpmeaaDoorRows.lean that lists a variable, with what it lists TIED to the program's text (the seventh form; the later family's looks); each row that meets fmt, with fmt's text TOLD by the authors' own Lean function (tested against real Go, not proved from fmt's source: count such statements apart). THE CARD IS WHAT COUNTS. Prove the row's statement (the work); the ties are given (YtjgglocabjpmeaaDoorTie.lean); close each card by the builder's one call (the guide's Derived/Test/ToyasCard.lean, 'card_holds'). Laid BY PROGRAM, IN A SANDBOX (cutbox-door.mjs). By AI agents, Wed Nov 11 2026. No macro, syntax, notation, axiom, sorry.
-/
import Derived.Test.YtjgglocabjpmeaaDoorRows
import GoSem.ClaimSeven
namespace Go.Proofs.YtjgglocabjpmeaaDoor
namespace Rows

/-- THE TIED CARD OF 'vestibulelaw20.ActionText'. -/
def actionTextCard : Claim7 := { stood := { row := actionTextRow, standIns := [], harness := (true, "45bf1e0682dc3c07cb73c12d5faae5bd4ae2622ca42ca3692531d5cac14e38db"), looks := true }, kinds := [], alts := [], laidByText := true, laidKinds := [.data, .data, .data, .sentinel, .sentinel], laidTests := true, laidLooks := .later }
def ActionTextCardSaid : Prop := Claim7.holds Tryd.pinned (.plain (OpenSpec.ofChange actionTextSpec)) actionTextCard

/-- THE TIED CARD OF 'vestibulelaw20.ActionLeast'. -/
def actionLeastCard : Claim7 := { stood := { row := actionLeastRow, standIns := [], harness := (true, "45bf1e0682dc3c07cb73c12d5faae5bd4ae2622ca42ca3692531d5cac14e38db"), looks := true }, kinds := [], alts := [], laidByText := true, laidKinds := [.data, .data, .data, .sentinel, .sentinel], laidTests := true, laidLooks := .later }
def ActionLeastCardSaid : Prop := Claim7.holds Tryd.pinned (.plain (OpenSpec.ofChange actionLeastSpec)) actionLeastCard

/-- THE TIED CARD OF 'vestibulelaw20.ActionTurned'. -/
def actionTurnedCard : Claim7 := { stood := { row := actionTurnedRow, standIns := [], harness := (true, "45bf1e0682dc3c07cb73c12d5faae5bd4ae2622ca42ca3692531d5cac14e38db"), looks := true }, kinds := [], alts := [], laidByText := true, laidKinds := [.data, .data, .data, .sentinel, .sentinel], laidTests := true, laidLooks := .later }
def ActionTurnedCardSaid : Prop := Claim7.holds Tryd.pinned (.plain (OpenSpec.ofChange actionTurnedSpec)) actionTurnedCard

/-- THE TIED CARD OF 'vestibulelaw20.ActionPieces'. -/
def actionPiecesCard : Claim7 := { stood := { row := actionPiecesRow, standIns := [], harness := (true, "45bf1e0682dc3c07cb73c12d5faae5bd4ae2622ca42ca3692531d5cac14e38db"), looks := true }, kinds := [], alts := [], laidByText := true, laidKinds := [.data, .data, .data, .sentinel, .sentinel], laidTests := true, laidLooks := .later }
def ActionPiecesCardSaid : Prop := Claim7.holds Tryd.pinned (.plain (OpenSpec.ofChange actionPiecesSpec)) actionPiecesCard

/-- THE TIED CARD OF 'vestibulelaw20.ActionOrders'. -/
def actionOrdersCard : Claim7 := { stood := { row := actionOrdersRow, standIns := [], harness := (true, "45bf1e0682dc3c07cb73c12d5faae5bd4ae2622ca42ca3692531d5cac14e38db"), looks := true }, kinds := [], alts := [], laidByText := true, laidKinds := [.data, .data, .data, .sentinel, .sentinel], laidTests := true, laidLooks := .later }
def ActionOrdersCardSaid : Prop := Claim7.holds Tryd.pinned (.plain (OpenSpec.ofChange actionOrdersSpec)) actionOrdersCard

/-- THE SECOND FORM's CARD OF 'vestibulelaw20.ActionText'. -/
def actionTextUptoCard : Claim7 := { stood := { row := actionTextUptoRow, standIns := [], harness := (true, "45bf1e0682dc3c07cb73c12d5faae5bd4ae2622ca42ca3692531d5cac14e38db"), looks := true }, kinds := [], alts := [], laidByText := true, laidKinds := [.data, .data, .data, .sentinel, .sentinel], laidTests := true, laidLooks := .later }
def ActionTextUptoCardSaid : Prop := Claim7.holds Tryd.pinned (.plain (OpenSpec.upto actionTextSpec)) actionTextUptoCard

/-- THE SECOND FORM's CARD OF 'vestibulelaw20.ActionLeast'. -/
def actionLeastUptoCard : Claim7 := { stood := { row := actionLeastUptoRow, standIns := [], harness := (true, "45bf1e0682dc3c07cb73c12d5faae5bd4ae2622ca42ca3692531d5cac14e38db"), looks := true }, kinds := [], alts := [], laidByText := true, laidKinds := [.data, .data, .data, .sentinel, .sentinel], laidTests := true, laidLooks := .later }
def ActionLeastUptoCardSaid : Prop := Claim7.holds Tryd.pinned (.plain (OpenSpec.upto actionLeastSpec)) actionLeastUptoCard

/-- THE SECOND FORM's CARD OF 'vestibulelaw20.ActionTurned'. -/
def actionTurnedUptoCard : Claim7 := { stood := { row := actionTurnedUptoRow, standIns := [], harness := (true, "45bf1e0682dc3c07cb73c12d5faae5bd4ae2622ca42ca3692531d5cac14e38db"), looks := true }, kinds := [], alts := [], laidByText := true, laidKinds := [.data, .data, .data, .sentinel, .sentinel], laidTests := true, laidLooks := .later }
def ActionTurnedUptoCardSaid : Prop := Claim7.holds Tryd.pinned (.plain (OpenSpec.upto actionTurnedSpec)) actionTurnedUptoCard

/-- THE SECOND FORM's CARD OF 'vestibulelaw20.ActionPieces'. -/
def actionPiecesUptoCard : Claim7 := { stood := { row := actionPiecesUptoRow, standIns := [], harness := (true, "45bf1e0682dc3c07cb73c12d5faae5bd4ae2622ca42ca3692531d5cac14e38db"), looks := true }, kinds := [], alts := [], laidByText := true, laidKinds := [.data, .data, .data, .sentinel, .sentinel], laidTests := true, laidLooks := .later }
def ActionPiecesUptoCardSaid : Prop := Claim7.holds Tryd.pinned (.plain (OpenSpec.upto actionPiecesSpec)) actionPiecesUptoCard

/-- THE SECOND FORM's CARD OF 'vestibulelaw20.ActionOrders'. -/
def actionOrdersUptoCard : Claim7 := { stood := { row := actionOrdersUptoRow, standIns := [], harness := (true, "45bf1e0682dc3c07cb73c12d5faae5bd4ae2622ca42ca3692531d5cac14e38db"), looks := true }, kinds := [], alts := [], laidByText := true, laidKinds := [.data, .data, .data, .sentinel, .sentinel], laidTests := true, laidLooks := .later }
def ActionOrdersUptoCardSaid : Prop := Claim7.holds Tryd.pinned (.plain (OpenSpec.upto actionOrdersSpec)) actionOrdersUptoCard
end Rows
end Go.Proofs.YtjgglocabjpmeaaDoor
