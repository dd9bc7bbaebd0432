/-
  DERIVED. GIVEN WITH THE SEED: THE CARDS: each row of YtndhkgfeknkfdaaGreatDoorRows.lean that lists a variable, with what it lists TIED to the program's text (the seventh form; the later family's looks); each row that meets fmt, with fmt's text TOLD by the authors' own Lean function (tested against real Go, not proved from fmt's source: count such statements apart). THE CARD IS WHAT COUNTS. Prove the row's statement (the work); the ties are given (YtndhkgfeknkfdaaGreatDoorTie.lean); close each card by the builder's one call (the guide's Derived/Test/ToyasCard.lean, 'card_holds'). Laid BY PROGRAM, IN A SANDBOX (cutbox-door.mjs). By AI agents, Wed Nov 11 2026. No macro, syntax, notation, axiom, sorry.
-/
import Derived.Test.YtndhkgfeknkfdaaGreatDoorRows
import GoSem.ClaimSeven
namespace Go.Proofs.YtndhkgfeknkfdaaGreatDoor
namespace Rows

/-- THE TIED CARD OF 'crierlaw2.PacketChecks'. -/
def packetChecksCard : Claim7 := { stood := { row := packetChecksRow, standIns := [], harness := (true, "3c631e26ed87f3c11ab655c578d9d23cd38d48af571bac88fe6bfd7fbfccddd1"), looks := false }, kinds := [], alts := [], laidByText := true, laidKinds := [.data, .data], laidTests := true, laidLooks := .later }
def PacketChecksCardSaid : Prop := Claim7.holds Tryz.pinned (.plain (OpenSpec.ofChange packetChecksSpec)) packetChecksCard

/-- THE TIED CARD OF 'crierlaw2.PacketTwo'. -/
def packetTwoCard : Claim7 := { stood := { row := packetTwoRow, standIns := [], harness := (true, "3c631e26ed87f3c11ab655c578d9d23cd38d48af571bac88fe6bfd7fbfccddd1"), looks := false }, kinds := [], alts := [], laidByText := true, laidKinds := [.data, .data, .data], laidTests := true, laidLooks := .later }
def PacketTwoCardSaid : Prop := Claim7.holds Tryz.pinned (.plain (OpenSpec.ofChange packetTwoSpec)) packetTwoCard

/-- THE SECOND FORM's CARD OF 'crierlaw2.PacketChecks'. -/
def packetChecksUptoCard : Claim7 := { stood := { row := packetChecksUptoRow, standIns := [], harness := (true, "3c631e26ed87f3c11ab655c578d9d23cd38d48af571bac88fe6bfd7fbfccddd1"), looks := false }, kinds := [], alts := [], laidByText := true, laidKinds := [.data, .data], laidTests := true, laidLooks := .later }
def PacketChecksUptoCardSaid : Prop := Claim7.holds Tryz.pinned (.plain (OpenSpec.upto packetChecksSpec)) packetChecksUptoCard

/-- THE SECOND FORM's CARD OF 'crierlaw2.PacketTwo'. -/
def packetTwoUptoCard : Claim7 := { stood := { row := packetTwoUptoRow, standIns := [], harness := (true, "3c631e26ed87f3c11ab655c578d9d23cd38d48af571bac88fe6bfd7fbfccddd1"), looks := false }, kinds := [], alts := [], laidByText := true, laidKinds := [.data, .data, .data], laidTests := true, laidLooks := .later }
def PacketTwoUptoCardSaid : Prop := Claim7.holds Tryz.pinned (.plain (OpenSpec.upto packetTwoSpec)) packetTwoUptoCard
end Rows
end Go.Proofs.YtndhkgfeknkfdaaGreatDoor
