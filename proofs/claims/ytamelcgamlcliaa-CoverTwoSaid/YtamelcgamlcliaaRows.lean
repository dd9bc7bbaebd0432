/-
  No cell of these rows narrows 'for every input' (looked for: loops, veiled, ifaces, maps, wideKeys, modest, calm, conditions, laid).
  DERIVED. THE GIVEN ROWS OF THIS SEAT. 4 by the template 'for every input the law returns true; each argument reads behind the call as it read before'; 0 by the template 'total and deterministic' (their statements: YtamelcgamlcliaaTotals.lean).
  GIVEN WITH THE SEED: the statements are not yours to turn. If you find one false, say at which input.
  Laid BY PROGRAM, IN A SANDBOX (cutbox-rows.mjs): the forced cells as the released guide's own fill.sh prints them over the translation 3e0b4a392555df55… (all of the seat's roots in one cut). By AI agents, Wed Nov 11 2026. No macro, syntax, notation, axiom, sorry.
-/
import Derived.Test.YtamelcgamlcliaaChecked
import GoSem.Claim
import GoSem.ClaimJoined
import GoSem.ClaimMapViews
import Derived.JoinedTies
import Derived.KernelRfl
namespace Go.Proofs.Ytamelcgamlcliaa
/- THE CELL 'sum', in the pinned program and in every row, IS THE sha256 OF THE DUMP (.gsa) THAT YtamelcgamlcliaaProg.lean LOADS. Nothing in Lean hashes anything: it is a label: what it is worth is what the hold of that sum in a sandbox is worth. -/
noncomputable def Try.pinned : Pinned := { name := "ytamelcgamlcliaa", sum := "3e0b4a392555df55beb56632833c0a9ed36933bdc4601ce2eabc6f201d204dc6", checked := Try.checked }
namespace Rows
def none {H : Type} : Left H := { results := [], args := [] }

/-- 'crierlaw6.CoverTwo': WHATEVER THE INPUT: true; the input reads as it did. -/
def coverTwoSpec : ChangeSpec := { name := "coverTwo", fn := fun _ => fun
  | [d1, d2] => { results := [.lit (.bool true)], args := [d1, d2] }
  | _ => none }
def coverTwoRow : OpenClaim := { program := "ytamelcgamlcliaa", sum := "3e0b4a392555df55beb56632833c0a9ed36933bdc4601ce2eabc6f201d204dc6", func := "crier/crierlaw6.CoverTwo", spec := "coverTwo", inPlace := ["internal/bytealg.IndexByteString", "internal/bytealg.IndexString", "internal/abi.NoEscape", "internal/bytealg.MakeNoZero"], recurses := true, named := ["internal/bytealg.MaxLen"], apart := false }
def CoverTwoSaid : Prop := coverTwoRow.holds Try.pinned (OpenSpec.ofChange coverTwoSpec)

/-- ITS FALSE NEIGHBOUR: 'it returns false'. Refute it at one input. -/
def coverTwoWrong : ChangeSpec := { name := "coverTwo", fn := fun _ => fun
  | [d1, d2] => { results := [.lit (.bool false)], args := [d1, d2] }
  | _ => none }
def CoverTwoWrongFalsely : Prop := coverTwoRow.holds Try.pinned (OpenSpec.ofChange coverTwoWrong)

/-- 'crierlaw6.CoverTopics': WHATEVER THE INPUT: true; the input reads as it did. -/
def coverTopicsSpec : ChangeSpec := { name := "coverTopics", fn := fun _ => fun
  | [d1, d2, d3] => { results := [.lit (.bool true)], args := [d1, d2, d3] }
  | _ => none }
def coverTopicsRow : OpenClaim := { program := "ytamelcgamlcliaa", sum := "3e0b4a392555df55beb56632833c0a9ed36933bdc4601ce2eabc6f201d204dc6", func := "crier/crierlaw6.CoverTopics", spec := "coverTopics", inPlace := ["internal/bytealg.IndexByteString", "internal/bytealg.IndexString", "internal/abi.NoEscape", "internal/bytealg.MakeNoZero"], recurses := true, named := ["internal/bytealg.MaxLen"], apart := false }
def CoverTopicsSaid : Prop := coverTopicsRow.holds Try.pinned (OpenSpec.ofChange coverTopicsSpec)

/-- ITS FALSE NEIGHBOUR: 'it returns false'. Refute it at one input. -/
def coverTopicsWrong : ChangeSpec := { name := "coverTopics", fn := fun _ => fun
  | [d1, d2, d3] => { results := [.lit (.bool false)], args := [d1, d2, d3] }
  | _ => none }
def CoverTopicsWrongFalsely : Prop := coverTopicsRow.holds Try.pinned (OpenSpec.ofChange coverTopicsWrong)

/-- 'crierlaw6.CoverGoes': WHATEVER THE INPUT: true; the input reads as it did. -/
def coverGoesSpec : ChangeSpec := { name := "coverGoes", fn := fun _ => fun
  | [d1, d2, d3] => { results := [.lit (.bool true)], args := [d1, d2, d3] }
  | _ => none }
def coverGoesRow : OpenClaim := { program := "ytamelcgamlcliaa", sum := "3e0b4a392555df55beb56632833c0a9ed36933bdc4601ce2eabc6f201d204dc6", func := "crier/crierlaw6.CoverGoes", spec := "coverGoes", inPlace := ["internal/bytealg.IndexByteString", "internal/bytealg.IndexString", "internal/abi.NoEscape", "internal/bytealg.MakeNoZero"], recurses := true, named := ["internal/bytealg.MaxLen"], apart := false }
def CoverGoesSaid : Prop := coverGoesRow.holds Try.pinned (OpenSpec.ofChange coverGoesSpec)

/-- ITS FALSE NEIGHBOUR: 'it returns false'. Refute it at one input. -/
def coverGoesWrong : ChangeSpec := { name := "coverGoes", fn := fun _ => fun
  | [d1, d2, d3] => { results := [.lit (.bool false)], args := [d1, d2, d3] }
  | _ => none }
def CoverGoesWrongFalsely : Prop := coverGoesRow.holds Try.pinned (OpenSpec.ofChange coverGoesWrong)

/-- 'crierlaw6.CoverKeeps': WHATEVER THE INPUT: true; the input reads as it did. -/
def coverKeepsSpec : ChangeSpec := { name := "coverKeeps", fn := fun _ => fun
  | [d1, d2] => { results := [.lit (.bool true)], args := [d1, d2] }
  | _ => none }
def coverKeepsRow : OpenClaim := { program := "ytamelcgamlcliaa", sum := "3e0b4a392555df55beb56632833c0a9ed36933bdc4601ce2eabc6f201d204dc6", func := "crier/crierlaw6.CoverKeeps", spec := "coverKeeps", inPlace := ["internal/bytealg.IndexByteString", "internal/bytealg.IndexString", "internal/abi.NoEscape", "internal/bytealg.MakeNoZero"], recurses := true, named := ["internal/bytealg.MaxLen"], apart := false }
def CoverKeepsSaid : Prop := coverKeepsRow.holds Try.pinned (OpenSpec.ofChange coverKeepsSpec)

/-- ITS FALSE NEIGHBOUR: 'it returns false'. Refute it at one input. -/
def coverKeepsWrong : ChangeSpec := { name := "coverKeeps", fn := fun _ => fun
  | [d1, d2] => { results := [.lit (.bool false)], args := [d1, d2] }
  | _ => none }
def CoverKeepsWrongFalsely : Prop := coverKeepsRow.holds Try.pinned (OpenSpec.ofChange coverKeepsWrong)

/- THE SECOND FORM. 'bulk': how many values and letters a reading holds, each counted each time it is reached (what is shared counts as often as it is met; a slice's spare places count too). A statement '..UptoSaid' is the law's where the arguments, and the package variables that the reading takes, are together of bulk at most 1048576: NARROWER than '..Said'. Prove '..Said' where nothing that the law and all that it calls make is longer than what came in: it says more and counts as full. Else prove '..UptoSaid'. A law counts once. -/
mutual
def uptoBulk {H : Type} : DataW H → Nat
  | .lit (.string bytes) => bytes.length + 1
  | .lit _ => 1
  | .nil => 1
  | .ptr d => uptoBulk d + 1
  | .slice elems spare => uptoBulkAll elems + uptoBulkAll spare + 1
  | .agg parts => uptoBulkAll parts + 1
  | .iface _ d => uptoBulk d + 1
  | .map entries => uptoBulkEntries entries + 1
  | .held _ => 1
def uptoBulkAll {H : Type} : List (DataW H) → Nat
  | [] => 0
  | d :: r => uptoBulk d + uptoBulkAll r
def uptoBulkEntries {H : Type} : List (Lit × DataW H) → Nat
  | [] => 0
  | x :: r => uptoBulkEntry x + uptoBulkEntries r
def uptoBulkEntry {H : Type} : Lit × DataW H → Nat
  | (.string bytes, d) => bytes.length + uptoBulk d + 1
  | (_, d) => uptoBulk d + 1
 end
def uptoSmall : (H : Type) → List (DataW H) → Bool := fun _ ds => decide (uptoBulkAll ds ≤ 1048576)
def OpenSpec.upto (s : _root_.Go.ChangeSpec) : _root_.Go.OpenSpec := { _root_.Go.OpenSpec.ofChange s with cond := some uptoSmall }

/-- 'crierlaw6.CoverTwo', WHERE WHAT IT READS IS OF BULK AT MOST 1048576: true; the input reads as it did. -/
def coverTwoUptoRow : OpenClaim := { program := "ytamelcgamlcliaa", sum := "3e0b4a392555df55beb56632833c0a9ed36933bdc4601ce2eabc6f201d204dc6", func := "crier/crierlaw6.CoverTwo", spec := "coverTwo", inPlace := ["internal/bytealg.IndexByteString", "internal/bytealg.IndexString", "internal/abi.NoEscape", "internal/bytealg.MakeNoZero"], recurses := true, named := ["internal/bytealg.MaxLen"], apart := false, narrowed := true }
def CoverTwoUptoSaid : Prop := coverTwoUptoRow.holds Try.pinned (OpenSpec.upto coverTwoSpec)

/-- 'crierlaw6.CoverTopics', WHERE WHAT IT READS IS OF BULK AT MOST 1048576: true; the input reads as it did. -/
def coverTopicsUptoRow : OpenClaim := { program := "ytamelcgamlcliaa", sum := "3e0b4a392555df55beb56632833c0a9ed36933bdc4601ce2eabc6f201d204dc6", func := "crier/crierlaw6.CoverTopics", spec := "coverTopics", inPlace := ["internal/bytealg.IndexByteString", "internal/bytealg.IndexString", "internal/abi.NoEscape", "internal/bytealg.MakeNoZero"], recurses := true, named := ["internal/bytealg.MaxLen"], apart := false, narrowed := true }
def CoverTopicsUptoSaid : Prop := coverTopicsUptoRow.holds Try.pinned (OpenSpec.upto coverTopicsSpec)

/-- 'crierlaw6.CoverGoes', WHERE WHAT IT READS IS OF BULK AT MOST 1048576: true; the input reads as it did. -/
def coverGoesUptoRow : OpenClaim := { program := "ytamelcgamlcliaa", sum := "3e0b4a392555df55beb56632833c0a9ed36933bdc4601ce2eabc6f201d204dc6", func := "crier/crierlaw6.CoverGoes", spec := "coverGoes", inPlace := ["internal/bytealg.IndexByteString", "internal/bytealg.IndexString", "internal/abi.NoEscape", "internal/bytealg.MakeNoZero"], recurses := true, named := ["internal/bytealg.MaxLen"], apart := false, narrowed := true }
def CoverGoesUptoSaid : Prop := coverGoesUptoRow.holds Try.pinned (OpenSpec.upto coverGoesSpec)

/-- 'crierlaw6.CoverKeeps', WHERE WHAT IT READS IS OF BULK AT MOST 1048576: true; the input reads as it did. -/
def coverKeepsUptoRow : OpenClaim := { program := "ytamelcgamlcliaa", sum := "3e0b4a392555df55beb56632833c0a9ed36933bdc4601ce2eabc6f201d204dc6", func := "crier/crierlaw6.CoverKeeps", spec := "coverKeeps", inPlace := ["internal/bytealg.IndexByteString", "internal/bytealg.IndexString", "internal/abi.NoEscape", "internal/bytealg.MakeNoZero"], recurses := true, named := ["internal/bytealg.MaxLen"], apart := false, narrowed := true }
def CoverKeepsUptoSaid : Prop := coverKeepsUptoRow.holds Try.pinned (OpenSpec.upto coverKeepsSpec)

end Rows
end Go.Proofs.Ytamelcgamlcliaa
