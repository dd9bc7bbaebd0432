/-
  No cell of these rows narrows 'for every input' (looked for: loops, veiled, ifaces, maps, wideKeys, modest, calm, conditions, laid).
  DERIVED. THE GIVEN ROWS OF THIS SEAT. 8 by the template 'for every input the law returns true; each argument reads behind the call as it read before'; 0 by the template 'total and deterministic' (their statements: YthodalidddnmoaaTotals.lean).
  GIVEN WITH THE SEED: the statements are not yours to turn. If you find one false, say at which input.
  Laid BY PROGRAM, IN A SANDBOX (cutbox-rows.mjs): the forced cells as the released guide's own fill.sh prints them over the translation 54412193f0c7feaa… (all of the seat's roots in one cut). By AI agents, Wed Nov 11 2026. No macro, syntax, notation, axiom, sorry.
-/
import Derived.Test.YthodalidddnmoaaChecked
import GoSem.Claim
import GoSem.ClaimJoined
import GoSem.ClaimMapViews
import Derived.JoinedTies
import Derived.KernelRfl
namespace Go.Proofs.Ythodalidddnmoaa
/- THE CELL 'sum', in the pinned program and in every row, IS THE sha256 OF THE DUMP (.gsa) THAT YthodalidddnmoaaProg.lean LOADS. Nothing in Lean hashes anything: it is a label: what it is worth is what the hold of that sum in a sandbox is worth. -/
noncomputable def Try.pinned : Pinned := { name := "ythodalidddnmoaa", sum := "54412193f0c7feaa4b8e2a9c0ea36cd478bc1a9f9bee69dd13c7ba6479e084d0", checked := Try.checked }
namespace Rows
def none {H : Type} : Left H := { results := [], args := [] }

/-- 'crierlaw2.PacketNames': WHATEVER THE INPUT: true; the input reads as it did. -/
def packetNamesSpec : ChangeSpec := { name := "packetNames", fn := fun _ => fun
  | [] => { results := [.lit (.bool true)], args := [] }
  | _ => none }
def packetNamesRow : OpenClaim := { program := "ythodalidddnmoaa", sum := "54412193f0c7feaa4b8e2a9c0ea36cd478bc1a9f9bee69dd13c7ba6479e084d0", func := "crier/crierlaw2.PacketNames", spec := "packetNames", apart := false }
def PacketNamesSaid : Prop := packetNamesRow.holds Try.pinned (OpenSpec.ofChange packetNamesSpec)

/-- ITS FALSE NEIGHBOUR: 'it returns false'. Refute it at one input. -/
def packetNamesWrong : ChangeSpec := { name := "packetNames", fn := fun _ => fun
  | [] => { results := [.lit (.bool false)], args := [] }
  | _ => none }
def PacketNamesWrongFalsely : Prop := packetNamesRow.holds Try.pinned (OpenSpec.ofChange packetNamesWrong)

/-- 'crierlaw21.AuditNames': WHATEVER THE INPUT: true; the input reads as it did. -/
def auditNamesSpec : ChangeSpec := { name := "auditNames", fn := fun _ => fun
  | [] => { results := [.lit (.bool true)], args := [] }
  | _ => none }
def auditNamesRow : OpenClaim := { program := "ythodalidddnmoaa", sum := "54412193f0c7feaa4b8e2a9c0ea36cd478bc1a9f9bee69dd13c7ba6479e084d0", func := "crier/crierlaw21.AuditNames", spec := "auditNames", apart := false }
def AuditNamesSaid : Prop := auditNamesRow.holds Try.pinned (OpenSpec.ofChange auditNamesSpec)

/-- ITS FALSE NEIGHBOUR: 'it returns false'. Refute it at one input. -/
def auditNamesWrong : ChangeSpec := { name := "auditNames", fn := fun _ => fun
  | [] => { results := [.lit (.bool false)], args := [] }
  | _ => none }
def AuditNamesWrongFalsely : Prop := auditNamesRow.holds Try.pinned (OpenSpec.ofChange auditNamesWrong)

/-- 'crierlaw15.ImageNames': WHATEVER THE INPUT: true; the input reads as it did. -/
def imageNamesSpec : ChangeSpec := { name := "imageNames", fn := fun _ => fun
  | [] => { results := [.lit (.bool true)], args := [] }
  | _ => none }
def imageNamesRow : OpenClaim := { program := "ythodalidddnmoaa", sum := "54412193f0c7feaa4b8e2a9c0ea36cd478bc1a9f9bee69dd13c7ba6479e084d0", func := "crier/crierlaw15.ImageNames", spec := "imageNames", apart := false }
def ImageNamesSaid : Prop := imageNamesRow.holds Try.pinned (OpenSpec.ofChange imageNamesSpec)

/-- ITS FALSE NEIGHBOUR: 'it returns false'. Refute it at one input. -/
def imageNamesWrong : ChangeSpec := { name := "imageNames", fn := fun _ => fun
  | [] => { results := [.lit (.bool false)], args := [] }
  | _ => none }
def ImageNamesWrongFalsely : Prop := imageNamesRow.holds Try.pinned (OpenSpec.ofChange imageNamesWrong)

/-- 'crierlaw16.BrokerNames': WHATEVER THE INPUT: true; the input reads as it did. -/
def brokerNamesSpec : ChangeSpec := { name := "brokerNames", fn := fun _ => fun
  | [] => { results := [.lit (.bool true)], args := [] }
  | _ => none }
def brokerNamesRow : OpenClaim := { program := "ythodalidddnmoaa", sum := "54412193f0c7feaa4b8e2a9c0ea36cd478bc1a9f9bee69dd13c7ba6479e084d0", func := "crier/crierlaw16.BrokerNames", spec := "brokerNames", apart := false }
def BrokerNamesSaid : Prop := brokerNamesRow.holds Try.pinned (OpenSpec.ofChange brokerNamesSpec)

/-- ITS FALSE NEIGHBOUR: 'it returns false'. Refute it at one input. -/
def brokerNamesWrong : ChangeSpec := { name := "brokerNames", fn := fun _ => fun
  | [] => { results := [.lit (.bool false)], args := [] }
  | _ => none }
def BrokerNamesWrongFalsely : Prop := brokerNamesRow.holds Try.pinned (OpenSpec.ofChange brokerNamesWrong)

/-- 'crierlaw18.NetNames': WHATEVER THE INPUT: true; the input reads as it did. -/
def netNamesSpec : ChangeSpec := { name := "netNames", fn := fun _ => fun
  | [] => { results := [.lit (.bool true)], args := [] }
  | _ => none }
def netNamesRow : OpenClaim := { program := "ythodalidddnmoaa", sum := "54412193f0c7feaa4b8e2a9c0ea36cd478bc1a9f9bee69dd13c7ba6479e084d0", func := "crier/crierlaw18.NetNames", spec := "netNames", apart := false }
def NetNamesSaid : Prop := netNamesRow.holds Try.pinned (OpenSpec.ofChange netNamesSpec)

/-- ITS FALSE NEIGHBOUR: 'it returns false'. Refute it at one input. -/
def netNamesWrong : ChangeSpec := { name := "netNames", fn := fun _ => fun
  | [] => { results := [.lit (.bool false)], args := [] }
  | _ => none }
def NetNamesWrongFalsely : Prop := netNamesRow.holds Try.pinned (OpenSpec.ofChange netNamesWrong)

/-- 'crierlaw20.ScriptNames': WHATEVER THE INPUT: true; the input reads as it did. -/
def scriptNamesSpec : ChangeSpec := { name := "scriptNames", fn := fun _ => fun
  | [] => { results := [.lit (.bool true)], args := [] }
  | _ => none }
def scriptNamesRow : OpenClaim := { program := "ythodalidddnmoaa", sum := "54412193f0c7feaa4b8e2a9c0ea36cd478bc1a9f9bee69dd13c7ba6479e084d0", func := "crier/crierlaw20.ScriptNames", spec := "scriptNames", apart := false }
def ScriptNamesSaid : Prop := scriptNamesRow.holds Try.pinned (OpenSpec.ofChange scriptNamesSpec)

/-- ITS FALSE NEIGHBOUR: 'it returns false'. Refute it at one input. -/
def scriptNamesWrong : ChangeSpec := { name := "scriptNames", fn := fun _ => fun
  | [] => { results := [.lit (.bool false)], args := [] }
  | _ => none }
def ScriptNamesWrongFalsely : Prop := scriptNamesRow.holds Try.pinned (OpenSpec.ofChange scriptNamesWrong)

/-- 'crierlaw19.PumpNames': WHATEVER THE INPUT: true; the input reads as it did. -/
def pumpNamesSpec : ChangeSpec := { name := "pumpNames", fn := fun _ => fun
  | [] => { results := [.lit (.bool true)], args := [] }
  | _ => none }
def pumpNamesRow : OpenClaim := { program := "ythodalidddnmoaa", sum := "54412193f0c7feaa4b8e2a9c0ea36cd478bc1a9f9bee69dd13c7ba6479e084d0", func := "crier/crierlaw19.PumpNames", spec := "pumpNames", apart := false }
def PumpNamesSaid : Prop := pumpNamesRow.holds Try.pinned (OpenSpec.ofChange pumpNamesSpec)

/-- ITS FALSE NEIGHBOUR: 'it returns false'. Refute it at one input. -/
def pumpNamesWrong : ChangeSpec := { name := "pumpNames", fn := fun _ => fun
  | [] => { results := [.lit (.bool false)], args := [] }
  | _ => none }
def PumpNamesWrongFalsely : Prop := pumpNamesRow.holds Try.pinned (OpenSpec.ofChange pumpNamesWrong)

/-- 'crierlaw15.ImageSame': WHATEVER THE INPUT: true; the input reads as it did. -/
def imageSameSpec : ChangeSpec := { name := "imageSame", fn := fun _ => fun
  | [d1, d2] => { results := [.lit (.bool true)], args := [d1, d2] }
  | _ => none }
def imageSameRow : OpenClaim := { program := "ythodalidddnmoaa", sum := "54412193f0c7feaa4b8e2a9c0ea36cd478bc1a9f9bee69dd13c7ba6479e084d0", func := "crier/crierlaw15.ImageSame", spec := "imageSame", unfollowed := true, recurses := true, apart := false }
def ImageSameSaid : Prop := imageSameRow.holds Try.pinned (OpenSpec.ofChange imageSameSpec)

/-- ITS FALSE NEIGHBOUR: 'it returns false'. Refute it at one input. -/
def imageSameWrong : ChangeSpec := { name := "imageSame", fn := fun _ => fun
  | [d1, d2] => { results := [.lit (.bool false)], args := [d1, d2] }
  | _ => none }
def ImageSameWrongFalsely : Prop := imageSameRow.holds Try.pinned (OpenSpec.ofChange imageSameWrong)

/- THE SECOND FORM. 'bulk': how many values and letters a reading holds, each counted each time it is reached (what is shared counts as often as it is met; a slice's spare places count too). A statement '..UptoSaid' is the law's where the arguments, and the package variables that the reading takes, are together of bulk at most 1048576: NARROWER than '..Said'. Prove '..Said' where nothing that the law and all that it calls make is longer than what came in: it says more and counts as full. Else prove '..UptoSaid'. A law counts once. -/
mutual
def uptoBulk {H : Type} : DataW H → Nat
  | .lit (.string bytes) => bytes.length + 1
  | .lit _ => 1
  | .nil => 1
  | .ptr d => uptoBulk d + 1
  | .slice elems spare => uptoBulkAll elems + uptoBulkAll spare + 1
  | .agg parts => uptoBulkAll parts + 1
  | .iface _ d => uptoBulk d + 1
  | .map entries => uptoBulkEntries entries + 1
  | .held _ => 1
def uptoBulkAll {H : Type} : List (DataW H) → Nat
  | [] => 0
  | d :: r => uptoBulk d + uptoBulkAll r
def uptoBulkEntries {H : Type} : List (Lit × DataW H) → Nat
  | [] => 0
  | x :: r => uptoBulkEntry x + uptoBulkEntries r
def uptoBulkEntry {H : Type} : Lit × DataW H → Nat
  | (.string bytes, d) => bytes.length + uptoBulk d + 1
  | (_, d) => uptoBulk d + 1
 end
def uptoSmall : (H : Type) → List (DataW H) → Bool := fun _ ds => decide (uptoBulkAll ds ≤ 1048576)
def OpenSpec.upto (s : _root_.Go.ChangeSpec) : _root_.Go.OpenSpec := { _root_.Go.OpenSpec.ofChange s with cond := some uptoSmall }

/-- 'crierlaw2.PacketNames', WHERE WHAT IT READS IS OF BULK AT MOST 1048576: true; the input reads as it did. -/
def packetNamesUptoRow : OpenClaim := { program := "ythodalidddnmoaa", sum := "54412193f0c7feaa4b8e2a9c0ea36cd478bc1a9f9bee69dd13c7ba6479e084d0", func := "crier/crierlaw2.PacketNames", spec := "packetNames", apart := false, narrowed := true }
def PacketNamesUptoSaid : Prop := packetNamesUptoRow.holds Try.pinned (OpenSpec.upto packetNamesSpec)

/-- 'crierlaw21.AuditNames', WHERE WHAT IT READS IS OF BULK AT MOST 1048576: true; the input reads as it did. -/
def auditNamesUptoRow : OpenClaim := { program := "ythodalidddnmoaa", sum := "54412193f0c7feaa4b8e2a9c0ea36cd478bc1a9f9bee69dd13c7ba6479e084d0", func := "crier/crierlaw21.AuditNames", spec := "auditNames", apart := false, narrowed := true }
def AuditNamesUptoSaid : Prop := auditNamesUptoRow.holds Try.pinned (OpenSpec.upto auditNamesSpec)

/-- 'crierlaw15.ImageNames', WHERE WHAT IT READS IS OF BULK AT MOST 1048576: true; the input reads as it did. -/
def imageNamesUptoRow : OpenClaim := { program := "ythodalidddnmoaa", sum := "54412193f0c7feaa4b8e2a9c0ea36cd478bc1a9f9bee69dd13c7ba6479e084d0", func := "crier/crierlaw15.ImageNames", spec := "imageNames", apart := false, narrowed := true }
def ImageNamesUptoSaid : Prop := imageNamesUptoRow.holds Try.pinned (OpenSpec.upto imageNamesSpec)

/-- 'crierlaw16.BrokerNames', WHERE WHAT IT READS IS OF BULK AT MOST 1048576: true; the input reads as it did. -/
def brokerNamesUptoRow : OpenClaim := { program := "ythodalidddnmoaa", sum := "54412193f0c7feaa4b8e2a9c0ea36cd478bc1a9f9bee69dd13c7ba6479e084d0", func := "crier/crierlaw16.BrokerNames", spec := "brokerNames", apart := false, narrowed := true }
def BrokerNamesUptoSaid : Prop := brokerNamesUptoRow.holds Try.pinned (OpenSpec.upto brokerNamesSpec)

/-- 'crierlaw18.NetNames', WHERE WHAT IT READS IS OF BULK AT MOST 1048576: true; the input reads as it did. -/
def netNamesUptoRow : OpenClaim := { program := "ythodalidddnmoaa", sum := "54412193f0c7feaa4b8e2a9c0ea36cd478bc1a9f9bee69dd13c7ba6479e084d0", func := "crier/crierlaw18.NetNames", spec := "netNames", apart := false, narrowed := true }
def NetNamesUptoSaid : Prop := netNamesUptoRow.holds Try.pinned (OpenSpec.upto netNamesSpec)

/-- 'crierlaw20.ScriptNames', WHERE WHAT IT READS IS OF BULK AT MOST 1048576: true; the input reads as it did. -/
def scriptNamesUptoRow : OpenClaim := { program := "ythodalidddnmoaa", sum := "54412193f0c7feaa4b8e2a9c0ea36cd478bc1a9f9bee69dd13c7ba6479e084d0", func := "crier/crierlaw20.ScriptNames", spec := "scriptNames", apart := false, narrowed := true }
def ScriptNamesUptoSaid : Prop := scriptNamesUptoRow.holds Try.pinned (OpenSpec.upto scriptNamesSpec)

/-- 'crierlaw19.PumpNames', WHERE WHAT IT READS IS OF BULK AT MOST 1048576: true; the input reads as it did. -/
def pumpNamesUptoRow : OpenClaim := { program := "ythodalidddnmoaa", sum := "54412193f0c7feaa4b8e2a9c0ea36cd478bc1a9f9bee69dd13c7ba6479e084d0", func := "crier/crierlaw19.PumpNames", spec := "pumpNames", apart := false, narrowed := true }
def PumpNamesUptoSaid : Prop := pumpNamesUptoRow.holds Try.pinned (OpenSpec.upto pumpNamesSpec)

/-- 'crierlaw15.ImageSame', WHERE WHAT IT READS IS OF BULK AT MOST 1048576: true; the input reads as it did. -/
def imageSameUptoRow : OpenClaim := { program := "ythodalidddnmoaa", sum := "54412193f0c7feaa4b8e2a9c0ea36cd478bc1a9f9bee69dd13c7ba6479e084d0", func := "crier/crierlaw15.ImageSame", spec := "imageSame", unfollowed := true, recurses := true, apart := false, narrowed := true }
def ImageSameUptoSaid : Prop := imageSameUptoRow.holds Try.pinned (OpenSpec.upto imageSameSpec)

end Rows
end Go.Proofs.Ythodalidddnmoaa
