/-
  NARROWER THAN 'FOR EVERY INPUT', by the rows' own cells (each row's printed sentence says how): PacketStays: laid · PacketRight: laid.
  DERIVED. THE GIVEN ROWS OF THIS SEAT. 2 by the template 'for every input the law returns true; each argument reads behind the call as it read before'; 0 by the template 'total and deterministic' (their statements: YtipliohgnaoblaaDoorTotals.lean).
  GIVEN WITH THE SEED: the statements are not yours to turn. If you find one false, say at which input.
  Laid BY PROGRAM, IN A SANDBOX (cutbox-rows.mjs): the forced cells as the released guide's own fill.sh prints them over the translation a39763b83fa677a8… (all of the seat's roots in one cut). By AI agents, Wed Nov 11 2026. No macro, syntax, notation, axiom, sorry.
-/
import Derived.Test.YtipliohgnaoblaaDoorChecked
import GoSem.Claim
import GoSem.ClaimJoined
import GoSem.ClaimMapViews
import Derived.JoinedTies
import Derived.KernelRfl
namespace Go.Proofs.YtipliohgnaoblaaDoor
/- THE CELL 'sum', in the pinned program and in every row, IS THE sha256 OF THE DUMP (.gsa) THAT YtipliohgnaoblaaDoorProg.lean LOADS. Nothing in Lean hashes anything: it is a label: what it is worth is what the hold of that sum in a sandbox is worth. -/
noncomputable def Tryd.pinned : Pinned := { name := "ytipliohgnaoblaadoor", sum := "a39763b83fa677a8ab3a9fdd8a392060972566712beec1e2b14dc58f2af09adf", checked := Tryd.checked }
namespace Rows
def none {H : Type} : Left H := { results := [], args := [] }

/- WHAT THE LISTED PACKAGE-LEVEL VARIABLES READ AS WHEN THE CALL BEGINS. Each datum BY PROGRAM (the guide's laid-datum.mjs) off the statement by which the dump's own 'gosem.cut.vars' lays the variable. In a bare row this is a premise. The card (YtipliohgnaoblaaDoorCards.lean) ties it to the program's text. -/
def laid_crier_packet_has {H : Type} : DataW H := .agg [.lit (.int .i64 0), .lit (.int .i64 1), .lit (.int .i64 2), .lit (.int .i64 4), .lit (.int .i64 8), .lit (.int .i64 8), .lit (.int .i64 8), .lit (.int .i64 8), .lit (.int .i64 24), .lit (.int .i64 40), .lit (.int .i64 72), .lit (.int .i64 8), .lit (.int .i64 0), .lit (.int .i64 0), .lit (.int .i64 0)]
def laid_crier_packet_flags {H : Type} : DataW H := .agg [.lit (.int .i64 0), .lit (.int .i64 0), .lit (.int .i64 0), .lit (.int .i64 0), .lit (.int .i64 0), .lit (.int .i64 0), .lit (.int .i64 2), .lit (.int .i64 0), .lit (.int .i64 2), .lit (.int .i64 0), .lit (.int .i64 2), .lit (.int .i64 0), .lit (.int .i64 0), .lit (.int .i64 0), .lit (.int .i64 0)]
def laid_crier_packet_names {H : Type} : DataW H := .agg [.lit (.string []), .lit (.string [67, 111, 110, 110, 101, 99, 116]), .lit (.string [67, 111, 110, 110, 97, 99, 107]), .lit (.string [80, 117, 98, 108, 105, 115, 104]), .lit (.string [80, 117, 98, 97, 99, 107]), .lit (.string [80, 117, 98, 114, 101, 99]), .lit (.string [80, 117, 98, 114, 101, 108]), .lit (.string [80, 117, 98, 99, 111, 109, 112]), .lit (.string [83, 117, 98, 115, 99, 114, 105, 98, 101]), .lit (.string [83, 117, 98, 97, 99, 107]), .lit (.string [85, 110, 115, 117, 98, 115, 99, 114, 105, 98, 101]), .lit (.string [85, 110, 115, 117, 98, 97, 99, 107]), .lit (.string [80, 105, 110, 103, 114, 101, 113]), .lit (.string [80, 105, 110, 103, 114, 101, 115, 112]), .lit (.string [68, 105, 115, 99, 111, 110, 110, 101, 99, 116])]

/-- 'crierlaw2.PacketStays': WHATEVER THE INPUT: true; the input reads as it did. -/
def packetStaysSpec : ChangeSpec := { name := "packetStays", fn := fun _ => fun
  | [d1, d2] => { results := [.lit (.bool true)], args := [d1, d2] }
  | _ => none }
def packetStaysRow : OpenClaim := { program := "ytipliohgnaoblaadoor", sum := "a39763b83fa677a8ab3a9fdd8a392060972566712beec1e2b14dc58f2af09adf", func := "crier/crierlaw2.PacketStays", spec := "packetStays", inPlace := ["internal/bytealg.IndexByteString", "internal/bytealg.IndexString"], unfollowed := true, recurses := true, named := ["crier/packet.has", "crier/packet.flags", "internal/bytealg.MaxLen"], apart := false, laid := [("crier/packet.has", laid_crier_packet_has), ("crier/packet.flags", laid_crier_packet_flags)] }
def PacketStaysSaid : Prop := packetStaysRow.holds Tryd.pinned (OpenSpec.ofChange packetStaysSpec)

/-- ITS FALSE NEIGHBOUR: 'it returns false'. Refute it at one input. -/
def packetStaysWrong : ChangeSpec := { name := "packetStays", fn := fun _ => fun
  | [d1, d2] => { results := [.lit (.bool false)], args := [d1, d2] }
  | _ => none }
def PacketStaysWrongFalsely : Prop := packetStaysRow.holds Tryd.pinned (OpenSpec.ofChange packetStaysWrong)

/-- 'crierlaw2.PacketRight': WHATEVER THE INPUT: true; the input reads as it did. -/
def packetRightSpec : ChangeSpec := { name := "packetRight", fn := fun _ => fun
  | [d1, d2] => { results := [.lit (.bool true)], args := [d1, d2] }
  | _ => none }
def packetRightRow : OpenClaim := { program := "ytipliohgnaoblaadoor", sum := "a39763b83fa677a8ab3a9fdd8a392060972566712beec1e2b14dc58f2af09adf", func := "crier/crierlaw2.PacketRight", spec := "packetRight", inPlace := ["internal/bytealg.IndexByteString", "internal/bytealg.IndexString"], unfollowed := true, recurses := true, named := ["crier/packet.has", "crier/packet.flags", "crier/packet.names", "internal/bytealg.MaxLen"], apart := false, laid := [("crier/packet.has", laid_crier_packet_has), ("crier/packet.flags", laid_crier_packet_flags), ("crier/packet.names", laid_crier_packet_names)] }
def PacketRightSaid : Prop := packetRightRow.holds Tryd.pinned (OpenSpec.ofChange packetRightSpec)

/-- ITS FALSE NEIGHBOUR: 'it returns false'. Refute it at one input. -/
def packetRightWrong : ChangeSpec := { name := "packetRight", fn := fun _ => fun
  | [d1, d2] => { results := [.lit (.bool false)], args := [d1, d2] }
  | _ => none }
def PacketRightWrongFalsely : Prop := packetRightRow.holds Tryd.pinned (OpenSpec.ofChange packetRightWrong)

/- THE SECOND FORM. 'bulk': how many values and letters a reading holds, each counted each time it is reached (what is shared counts as often as it is met; a slice's spare places count too). A statement '..UptoSaid' is the law's where the arguments, and the package variables that the reading takes, are together of bulk at most 1048576: NARROWER than '..Said'. Prove '..Said' where nothing that the law and all that it calls make is longer than what came in: it says more and counts as full. Else prove '..UptoSaid'. A law counts once. -/
mutual
def uptoBulk {H : Type} : DataW H → Nat
  | .lit (.string bytes) => bytes.length + 1
  | .lit _ => 1
  | .nil => 1
  | .ptr d => uptoBulk d + 1
  | .slice elems spare => uptoBulkAll elems + uptoBulkAll spare + 1
  | .agg parts => uptoBulkAll parts + 1
  | .iface _ d => uptoBulk d + 1
  | .map entries => uptoBulkEntries entries + 1
  | .held _ => 1
def uptoBulkAll {H : Type} : List (DataW H) → Nat
  | [] => 0
  | d :: r => uptoBulk d + uptoBulkAll r
def uptoBulkEntries {H : Type} : List (Lit × DataW H) → Nat
  | [] => 0
  | x :: r => uptoBulkEntry x + uptoBulkEntries r
def uptoBulkEntry {H : Type} : Lit × DataW H → Nat
  | (.string bytes, d) => bytes.length + uptoBulk d + 1
  | (_, d) => uptoBulk d + 1
 end
def uptoSmall : (H : Type) → List (DataW H) → Bool := fun _ ds => decide (uptoBulkAll ds ≤ 1048576)
def OpenSpec.upto (s : _root_.Go.ChangeSpec) : _root_.Go.OpenSpec := { _root_.Go.OpenSpec.ofChange s with cond := some uptoSmall }

/-- 'crierlaw2.PacketStays', WHERE WHAT IT READS IS OF BULK AT MOST 1048576: true; the input reads as it did. -/
def packetStaysUptoRow : OpenClaim := { program := "ytipliohgnaoblaadoor", sum := "a39763b83fa677a8ab3a9fdd8a392060972566712beec1e2b14dc58f2af09adf", func := "crier/crierlaw2.PacketStays", spec := "packetStays", inPlace := ["internal/bytealg.IndexByteString", "internal/bytealg.IndexString"], unfollowed := true, recurses := true, named := ["crier/packet.has", "crier/packet.flags", "internal/bytealg.MaxLen"], apart := false, laid := [("crier/packet.has", laid_crier_packet_has), ("crier/packet.flags", laid_crier_packet_flags)], narrowed := true }
def PacketStaysUptoSaid : Prop := packetStaysUptoRow.holds Tryd.pinned (OpenSpec.upto packetStaysSpec)

/-- 'crierlaw2.PacketRight', WHERE WHAT IT READS IS OF BULK AT MOST 1048576: true; the input reads as it did. -/
def packetRightUptoRow : OpenClaim := { program := "ytipliohgnaoblaadoor", sum := "a39763b83fa677a8ab3a9fdd8a392060972566712beec1e2b14dc58f2af09adf", func := "crier/crierlaw2.PacketRight", spec := "packetRight", inPlace := ["internal/bytealg.IndexByteString", "internal/bytealg.IndexString"], unfollowed := true, recurses := true, named := ["crier/packet.has", "crier/packet.flags", "crier/packet.names", "internal/bytealg.MaxLen"], apart := false, laid := [("crier/packet.has", laid_crier_packet_has), ("crier/packet.flags", laid_crier_packet_flags), ("crier/packet.names", laid_crier_packet_names)], narrowed := true }
def PacketRightUptoSaid : Prop := packetRightUptoRow.holds Tryd.pinned (OpenSpec.upto packetRightSpec)

end Rows
end Go.Proofs.YtipliohgnaoblaaDoor
