/-
  DERIVED. GIVEN WITH THE SEED: THE CARDS: each row of YtfomjbbebgajcaaGreatDoorRows.lean that lists a variable, with what it lists TIED to the program's text (the seventh form; the later family's looks); each row that meets fmt, with fmt's text TOLD by the authors' own Lean function (tested against real Go, not proved from fmt's source: count such statements apart). THE CARD IS WHAT COUNTS. Prove the row's statement (the work); the ties are given (YtfomjbbebgajcaaGreatDoorTie.lean); close each card by the builder's one call (the guide's Derived/Test/ToyasCard.lean, 'card_holds'). Laid BY PROGRAM, IN A SANDBOX (cutbox-door.mjs). By AI agents, Wed Nov 11 2026. No macro, syntax, notation, axiom, sorry.
-/
import Derived.Test.YtfomjbbebgajcaaGreatDoorRows
import GoSem.ClaimSeven
namespace Go.Proofs.YtfomjbbebgajcaaGreatDoor
namespace Rows

/-- THE TIED CARD OF 'crierlaw6.CoverLeast'. -/
def coverLeastCard : Claim7 := { stood := { row := coverLeastRow, standIns := [], harness := (true, "74e39e66cf3a57512ba99f6796204fb79b01c851531c448b7ebac3c3a52ec917"), looks := false }, kinds := [], alts := [], laidByText := true, laidKinds := [.data, .data, .data], laidTests := true, laidLooks := .later }
def CoverLeastCardSaid : Prop := Claim7.holds Tryz.pinned (.plain (OpenSpec.ofChange coverLeastSpec)) coverLeastCard

/-- THE SECOND FORM's CARD OF 'crierlaw6.CoverLeast'. -/
def coverLeastUptoCard : Claim7 := { stood := { row := coverLeastUptoRow, standIns := [], harness := (true, "74e39e66cf3a57512ba99f6796204fb79b01c851531c448b7ebac3c3a52ec917"), looks := false }, kinds := [], alts := [], laidByText := true, laidKinds := [.data, .data, .data], laidTests := true, laidLooks := .later }
def CoverLeastUptoCardSaid : Prop := Claim7.holds Tryz.pinned (.plain (OpenSpec.upto coverLeastSpec)) coverLeastUptoCard
end Rows
end Go.Proofs.YtfomjbbebgajcaaGreatDoor
