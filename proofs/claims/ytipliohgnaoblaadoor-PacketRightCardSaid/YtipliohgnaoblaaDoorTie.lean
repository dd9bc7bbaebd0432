/-
  DERIVED. GIVEN WITH THE SEED: THE PROGRAM's TIES (one call each: nine closed facts by the kernel) AND EACH ROW's TIE, after the 31st guide's Derived/Test/Toyas{Tie, Card}.lean. No idea stands in it: it is a product of the set-up. Laid BY PROGRAM, IN A SANDBOX (cutbox-door.mjs). By AI agents, Wed Nov 11 2026. No macro, syntax, notation, axiom, sorry.
-/
import Derived.Test.YtipliohgnaoblaaDoorRows
import Derived.LaidByTextLater
import Derived.SevenTiedAt
import Derived.LaidSub
import Derived.LaidOnce
namespace Go.Proofs.YtipliohgnaoblaaDoor
open Go
set_option maxRecDepth 100000
theorem seatTie1 : Tryd.prog.laidByTextLater [("crier/packet.has", Rows.laid_crier_packet_has), ("crier/packet.flags", Rows.laid_crier_packet_flags), ("crier/packet.names", Rows.laid_crier_packet_names)] [.data, .data, .data] true :=
  Program.laidByTextLater_by_one 24 8 16 (by kernel_rfl) (by kernel_rfl) (by kernel_rfl) (by kernel_rfl) (by kernel_rfl) (by kernel_rfl) (fun _ _ => by kernel_rfl)
theorem noOwnUnsafe : Tryd.pinned.checked.prog.headLifts.contains "ownunsafe" = false := by kernel_rfl
theorem tie : Tryd.prog.laidByTextLater [("crier/packet.has", Rows.laid_crier_packet_has), ("crier/packet.flags", Rows.laid_crier_packet_flags)] [.data, .data] true :=
  Program.laidByTextLater.sub seatTie1 ["crier/packet.has", "crier/packet.flags"] (by kernel_rfl) (by kernel_rfl)
theorem packetStays_row_tie : Rows.packetStaysRow.laidByTextAt .later Tryd.pinned [.data, .data] true :=
  OpenClaim.laidByTextAt_later rfl rfl tie noOwnUnsafe
theorem tie2 : Tryd.prog.laidByTextLater [("crier/packet.has", Rows.laid_crier_packet_has), ("crier/packet.flags", Rows.laid_crier_packet_flags), ("crier/packet.names", Rows.laid_crier_packet_names)] [.data, .data, .data] true :=
  Program.laidByTextLater.sub seatTie1 ["crier/packet.has", "crier/packet.flags", "crier/packet.names"] (by kernel_rfl) (by kernel_rfl)
theorem packetRight_row_tie : Rows.packetRightRow.laidByTextAt .later Tryd.pinned [.data, .data, .data] true :=
  OpenClaim.laidByTextAt_later rfl rfl tie2 noOwnUnsafe
theorem packetStaysUpto_row_tie : Rows.packetStaysUptoRow.laidByTextAt .later Tryd.pinned [.data, .data] true :=
  OpenClaim.laidByTextAt_later rfl rfl tie noOwnUnsafe
theorem packetRightUpto_row_tie : Rows.packetRightUptoRow.laidByTextAt .later Tryd.pinned [.data, .data, .data] true :=
  OpenClaim.laidByTextAt_later rfl rfl tie2 noOwnUnsafe
end Go.Proofs.YtipliohgnaoblaaDoor
