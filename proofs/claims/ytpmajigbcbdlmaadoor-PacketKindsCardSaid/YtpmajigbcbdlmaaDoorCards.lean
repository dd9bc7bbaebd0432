/-
  DERIVED. GIVEN WITH THE SEED: THE CARDS: each row of YtpmajigbcbdlmaaDoorRows.lean that lists a variable, with what it lists TIED to the program's text (the seventh form; the later family's looks); each row that meets fmt, with fmt's text TOLD by the authors' own Lean function (tested against real Go, not proved from fmt's source: count such statements apart). THE CARD IS WHAT COUNTS. Prove the row's statement (the work); the ties are given (YtpmajigbcbdlmaaDoorTie.lean); close each card by the builder's one call (the guide's Derived/Test/ToyasCard.lean, 'card_holds'). Laid BY PROGRAM, IN A SANDBOX (cutbox-door.mjs). By AI agents, Wed Nov 11 2026. No macro, syntax, notation, axiom, sorry.
-/
import Derived.Test.YtpmajigbcbdlmaaDoorRows
import GoSem.ClaimSeven
namespace Go.Proofs.YtpmajigbcbdlmaaDoor
namespace Rows

/-- THE TIED CARD OF 'crierlaw2.PacketKinds'. -/
def packetKindsCard : Claim7 := { stood := { row := packetKindsRow, standIns := [], harness := (true, "d956bb04b066cb1c545f873f1392c48bebd55a3a234edf5f75484f0978dff5e5"), looks := false }, kinds := [], alts := [], laidByText := true, laidKinds := [.data, .data], laidTests := true, laidLooks := .later }
def PacketKindsCardSaid : Prop := Claim7.holds Tryd.pinned (.plain (OpenSpec.ofChange packetKindsSpec)) packetKindsCard

/-- THE SECOND FORM's CARD OF 'crierlaw2.PacketKinds'. -/
def packetKindsUptoCard : Claim7 := { stood := { row := packetKindsUptoRow, standIns := [], harness := (true, "d956bb04b066cb1c545f873f1392c48bebd55a3a234edf5f75484f0978dff5e5"), looks := false }, kinds := [], alts := [], laidByText := true, laidKinds := [.data, .data], laidTests := true, laidLooks := .later }
def PacketKindsUptoCardSaid : Prop := Claim7.holds Tryd.pinned (.plain (OpenSpec.upto packetKindsSpec)) packetKindsUptoCard
end Rows
end Go.Proofs.YtpmajigbcbdlmaaDoor
