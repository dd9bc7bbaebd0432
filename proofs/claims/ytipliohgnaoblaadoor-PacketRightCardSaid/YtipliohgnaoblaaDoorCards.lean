/-
  DERIVED. GIVEN WITH THE SEED: THE CARDS: each row of YtipliohgnaoblaaDoorRows.lean that lists a variable, with what it lists TIED to the program's text (the seventh form; the later family's looks); each row that meets fmt, with fmt's text TOLD by the authors' own Lean function (tested against real Go, not proved from fmt's source: count such statements apart). THE CARD IS WHAT COUNTS. Prove the row's statement (the work); the ties are given (YtipliohgnaoblaaDoorTie.lean); close each card by the builder's one call (the guide's Derived/Test/ToyasCard.lean, 'card_holds'). Laid BY PROGRAM, IN A SANDBOX (cutbox-door.mjs). By AI agents, Wed Nov 11 2026. No macro, syntax, notation, axiom, sorry.
-/
import Derived.Test.YtipliohgnaoblaaDoorRows
import GoSem.ClaimSeven
namespace Go.Proofs.YtipliohgnaoblaaDoor
namespace Rows

/-- THE TIED CARD OF 'crierlaw2.PacketStays'. -/
def packetStaysCard : Claim7 := { stood := { row := packetStaysRow, standIns := [], harness := (true, "63c115c5c1d8575d1f93d80b358ccad476e4a60719629549ad3f1d26d716a052"), looks := false }, kinds := [], alts := [], laidByText := true, laidKinds := [.data, .data], laidTests := true, laidLooks := .later }
def PacketStaysCardSaid : Prop := Claim7.holds Tryd.pinned (.plain (OpenSpec.ofChange packetStaysSpec)) packetStaysCard

/-- THE TIED CARD OF 'crierlaw2.PacketRight'. -/
def packetRightCard : Claim7 := { stood := { row := packetRightRow, standIns := [], harness := (true, "63c115c5c1d8575d1f93d80b358ccad476e4a60719629549ad3f1d26d716a052"), looks := false }, kinds := [], alts := [], laidByText := true, laidKinds := [.data, .data, .data], laidTests := true, laidLooks := .later }
def PacketRightCardSaid : Prop := Claim7.holds Tryd.pinned (.plain (OpenSpec.ofChange packetRightSpec)) packetRightCard

/-- THE SECOND FORM's CARD OF 'crierlaw2.PacketStays'. -/
def packetStaysUptoCard : Claim7 := { stood := { row := packetStaysUptoRow, standIns := [], harness := (true, "63c115c5c1d8575d1f93d80b358ccad476e4a60719629549ad3f1d26d716a052"), looks := false }, kinds := [], alts := [], laidByText := true, laidKinds := [.data, .data], laidTests := true, laidLooks := .later }
def PacketStaysUptoCardSaid : Prop := Claim7.holds Tryd.pinned (.plain (OpenSpec.upto packetStaysSpec)) packetStaysUptoCard

/-- THE SECOND FORM's CARD OF 'crierlaw2.PacketRight'. -/
def packetRightUptoCard : Claim7 := { stood := { row := packetRightUptoRow, standIns := [], harness := (true, "63c115c5c1d8575d1f93d80b358ccad476e4a60719629549ad3f1d26d716a052"), looks := false }, kinds := [], alts := [], laidByText := true, laidKinds := [.data, .data, .data], laidTests := true, laidLooks := .later }
def PacketRightUptoCardSaid : Prop := Claim7.holds Tryd.pinned (.plain (OpenSpec.upto packetRightSpec)) packetRightUptoCard
end Rows
end Go.Proofs.YtipliohgnaoblaaDoor
