/- PacketChecks: row and card. -/
import Derived.Test.YtndhkgfeknkfdaaGreatDoorRows
import Derived.Test.YtndhkgfeknkfdaaGreatDoorTie
import Derived.Test.YtndhkgfeknkfdaaGreatDoorCards
import Derived.Test.YtndhkgfeknkfdaaGreatDoorPch
import Derived.Test.YtndhkgfeknkfdaaGreatDoorTod
import Derived.ProofKit
import Derived.LaidMore
import Derived.OpenShut
import Derived.Stop.Joined
import Derived.Below
import Derived.Carry
import Derived.Lib.LaidTab
import Derived.SevenTiedAt
import Derived.SizedLaws
namespace Go.Proofs.YtndhkgfeknkfdaaGreatDoor.packetChecks
open Go.ChangeShapes Go.WideShapes Go.ChangeAt Go.WideMaps Go.WideElems Go.RowKit
open Go.Proofs.YtndhkgfeknkfdaaGreatDoor.Pk Go.Proofs.YtndhkgfeknkfdaaGreatDoor.MPacketChecks
set_option linter.unusedVariables false

theorem own : ownKnob Tryz.prog.godebug = none := by kernel_rfl
theorem gHas : Tryz.prog.globalNamed "crier/packet.has" = some 0 := by kernel_rfl
theorem gFlags : Tryz.prog.globalNamed "crier/packet.flags" = some 1 := by kernel_rfl
theorem tHas : (Tryz.prog.globals[0]?).map (·.type) = some 97 := by kernel_rfl
theorem tFlags : (Tryz.prog.globals[1]?).map (·.type) = some 97 := by kernel_rfl
theorem laidOut : laidOutB Tryz.prog = true := by kernel_rfl
def laid2 : List (String × DataW Unit) := [("crier/packet.has", Rows.laid_crier_packet_has), ("crier/packet.flags", Rows.laid_crier_packet_flags)]

/-- The door's own heap meets the condition: three closed facts. -/
theorem door_met (os : Os) (args : Array Value) : laidMetH Tryz.prog laid2 ((World.doorLaid Tryz.prog 400 os).forCall (fun _ _ => 0) ⟨#[], args, []⟩).memory :=
  laidMetH_of_parts3 (fuel := 8) (laidMet_of_run' 8 (by kernel_rfl) (by kernel_rfl)) (by kernel_rfl) (by kernel_rfl)

/-- what the condition gives the walks: the tables' cells -/
theorem of_laid {W : World} (h : laidMetH Tryz.prog laid2 W) : HasT W ∧ Kin.FlagsT W := by
  rw [MakeChecks.laidMetH_plain _ _ _ (by kernel_rfl)] at h
  obtain ⟨ps, ⟨g0, t0, cs0, f0, p0, q0, hg0, ht0, hv0, hd0, ⟨g1, t1, cs1, f1, p1, q1, hg1, ht1, hv1, hd1, _, _⟩, _⟩, _, _⟩ := h
  obtain rfl := Option.some.inj (gHas.symm.trans hg0)
  obtain rfl := Option.some.inj (gFlags.symm.trans hg1)
  obtain rfl := Option.some.inj (tHas.symm.trans ht0)
  obtain rfl := Option.some.inj (tFlags.symm.trans ht1)
  have c0 : cs0.toList = hasL.map fun z => Value.int .i64 z := Lib.cells_of_tab Tryz.underlying97 Tryz.underlying3 (by kernel_rfl) (by kernel_rfl) hd0
  have c1 : cs1.toList = Kin.flagsL.map fun z => Value.int .i64 z := Lib.cells_of_tab Tryz.underlying97 Tryz.underlying3 (by kernel_rfl) (by kernel_rfl) hd1
  obtain ⟨l0⟩ := cs0
  obtain ⟨l1⟩ := cs1
  have c0 : l0 = hasL.map fun z => Value.int .i64 z := c0
  have c1 : l1 = Kin.flagsL.map fun z => Value.int .i64 z := c1
  subst c0
  subst c1
  refine ⟨fun i hi => ?_, fun i hi => ?_⟩
  · have := World.var?_cell hg0 hv0 i
    rw [this]
    have h2 : i < hasL.length := hi
    simp [List.getElem?_eq_getElem h2]
  · have := World.var?_cell hg1 hv1 i
    rw [this]
    have h2 : i < Kin.flagsL.length := hi
    simp [List.getElem?_eq_getElem h2]
theorem rb : reachBytes = 140737488351232 := rfl
theorem fits_of {x : S29} (b4 : x.f4.size ≤ reachBytes) (b6 : x.f6.f0.size ≤ reachBytes) (b7 : x.f6.f1.length ≤ reachBytes) (b11 : x.f8.size ≤ reachBytes) (b13 : x.f10.length ≤ reachBytes) (b17 : x.f14.f0.size ≤ reachBytes) (b18 : x.f14.f1.length ≤ reachBytes)
    (b22 : x.f16.length ≤ reachBytes) (b23 : x.f17.length ≤ reachBytes) (b24 : x.f18.length ≤ reachBytes) (m22 : ∀ y ∈ x.f16, y.f0.size ≤ reachBytes) (m24 : ∀ y ∈ x.f18, y.size ≤ reachBytes) : P.fits ⟨x.f0, x.f1, x.f2, x.f3, x.f4, x.f5, x.f6.f0, x.f6.f1, x.f6.f2, x.f6.f3, x.f7, x.f8, x.f9, x.f10, x.f11, x.f12, x.f13, x.f14.f0, x.f14.f1, x.f14.f2, x.f14.f3, x.f15, x.f16, x.f17, x.f18⟩ := by
  rw [rb] at b4 b6 b7 b11 b13 b17 b18 b22 b23 b24
  refine ⟨?_, ?_, ?_, ?_, ?_, ?_, ?_, ?_, ?_, ?_, fun y hy => ?_, fun y hy => ?_⟩
  · show (x.f4.size : Int) ≤ _; omega
  · show (x.f6.f0.size : Int) ≤ _; omega
  · show (x.f6.f1.length : Int) ≤ _; omega
  · show (x.f8.size : Int) ≤ _; omega
  · show (x.f10.length : Int) ≤ _; omega
  · show (x.f14.f0.size : Int) ≤ _; omega
  · show (x.f14.f1.length : Int) ≤ _; omega
  · show (x.f16.length : Int) ≤ _; omega
  · show (x.f17.length : Int) ≤ _; omega
  · show (x.f18.length : Int) ≤ _; omega
  · have := m22 y hy; rw [rb] at this; omega
  · have := m24 y hy; rw [rb] at this; omega

set_option maxRecDepth 100000 in
theorem walk (x : S29) (W : World) (hT : HasT W) (hF : Kin.FlagsT W) (hf : P.fits ⟨x.f0, x.f1, x.f2, x.f3, x.f4, x.f5, x.f6.f0, x.f6.f1, x.f6.f2, x.f6.f3, x.f7, x.f8, x.f9, x.f10, x.f11, x.f12, x.f13, x.f14.f0, x.f14.f1, x.f14.f2, x.f14.f3, x.f15, x.f16, x.f17, x.f18⟩) {A7 : Option Addr} {c7 : Nat} {A13 : Option Addr} {c13 : Nat} {A18 : Option Addr} {c18 : Nat} {A22 : Option Addr} {c22 : Nat} {A23 : Option Addr} {c23 : Nat} {A24 : Option Addr} {c24 : Nat} (hr : Rd W A7 c7 x.f6.f1 A13 c13 x.f10 A18 c18 x.f14.f1 A22 c22 x.f16 A23 c23 x.f17 A24 c24 x.f18) :
    Calls Tryz.prog 3 #[.agg #[.int .i64 x.f0, .int .i64 x.f1, .bool x.f2, .int .i64 x.f3, .string x.f4, .bool x.f5, .string x.f6.f0, .slice A7 x.f6.f1.length c7, .int .i64 x.f6.f2, .bool x.f6.f3, .bool x.f7, .string x.f8, .bool x.f9, .slice A13 x.f10.length c13, .bool x.f11, .int .i64 x.f12, .bool x.f13, .string x.f14.f0, .slice A18 x.f14.f1.length c18, .int .i64 x.f14.f2, .bool x.f14.f3, .int .i64 x.f15, .slice A22 x.f16.length c22, .slice A23 x.f17.length c23, .slice A24 x.f18.length c24]] W fun e w' => e = .returned (.bool true) ∧ Below W.heap.size W w' := by
  obtain ⟨kc, r, h, hcn⟩ := cn_packet ⟨x.f0, x.f1, x.f2, x.f3, x.f4, x.f5, x.f6.f0, x.f6.f1, x.f6.f2, x.f6.f3, x.f7, x.f8, x.f9, x.f10, x.f11, x.f12, x.f13, x.f14.f0, x.f14.f1, x.f14.f2, x.f14.f3, x.f15, x.f16, x.f17, x.f18⟩ hf 300000 (by omega)
  exact Rm.PacketChecks_calls x.f0 x.f1 x.f2 x.f3 x.f4 x.f5 x.f6.f0 A7 c7 x.f6.f1 x.f6.f2 x.f6.f3 x.f7 x.f8 x.f9 A13 c13 x.f10 x.f11 x.f12 x.f13 x.f14.f0 A18 c18 x.f14.f1 x.f14.f2 x.f14.f3 x.f15 A22 c22 x.f16 A23 c23 x.f17 A24 c24 x.f18 kc r W hT hF hr h (fun h0 => few_sum hcn h0)

set_option maxRecDepth 100000 in
theorem lifted (os : Os) (started : os.Started) (H : Type) (enc : TypeId × Value → H) :
    ReturnsInHanded {} Tryz.checked os 3 .any (fun w args => (Rows.packetChecksSpec.pre enc Tryz.prog Tryz.f3 [] false w args ∧ laidMetH Tryz.prog laid2 w) ∧ sizedMet enc Tryz.prog Tryz.f3 (OpenSpec.ofChange Rows.packetChecksSpec) false w args)
      (Rows.packetChecksSpec.post enc Tryz.prog Tryz.f3 false true false false) := by
  refine returnsInHanded_of_change_and (C := Tryz.checked) (X := fun w _ => laidMetH Tryz.prog laid2 w) (fun _ _ _ hh h => h.of_heap hh) own started (by kernel_rfl) Tryz.func3
    (ChangeSpec.witness_shaped (enc := enc) (C := Tryz.checked) (os := os) (X := fun w _ => laidMetH Tryz.prog laid2 w) false (World.doorLaid Tryz.prog 400 os) #[.agg #[.int .i64 0, .int .i64 0, .bool false, .int .i64 0, .string ByteArray.empty, .bool false, .string ByteArray.empty, .slice none 0 0, .int .i64 0, .bool false, .bool false, .string ByteArray.empty, .bool false, .slice none 0 0, .bool false, .int .i64 0, .bool false, .string ByteArray.empty, .slice none 0 0, .int .i64 0, .bool false, .int .i64 0, .slice none 0 0, .slice none 0 0, .slice none 0 0]] 8 rfl (World.shaped_of_RefB (by kernel_rfl) (by kernel_rfl)) (by kernel_rfl) (by kernel_rfl) (by kernel_rfl) (door_met os _)) ?_
  intro W base args ds gs before hval0 hW hcnd hsz0 hL _
  have hsz : (DataW.weightsEach Tryz.prog (Tryz.f3.params.toList ++ Rows.packetChecksSpec.plain.varTypes Tryz.prog) (ds ++ gs)).all (· ≤ reachBytes) = true := hsz0
  have hval : ∀ (j : Nat) t v, Tryz.f3.params[j]? = some t → args[j]? = some v → Value.okWide Tryz.prog W .any base t v := hval0
  have hW' := hW
  have hltW := hW'
  obtain ⟨p, q, hA0, hV, rfl, hfz, hnd⟩ := hW
  have hA : DataW.TrodAll enc Tryz.prog W 0 (fun _ => true) true Tryz.f3.params.toList args.toList ds p := hA0
  rw [Tryz.params3] at hA hval hsz
  obtain ⟨v0, vs0, d0, ds0, p0, q0, hargs, rfl, rfl, h0, r0⟩ := trodAll_cons hA
  obtain ⟨rfl, rfl, rfl⟩ := trodAll_nil r0
  obtain rfl : args = #[v0] := by cases args; simp_all
  obtain ⟨rfl, rfl⟩ := trodVars_none hV
  obtain ⟨cs, rfl, hcsz⟩ := okWide_struct Tryz.underlying29 (hval 0 29 v0 rfl rfl)
  have hlt : ∀ y ∈ p0, y.block < W.heap.size := fun y hy => by simpa using hltW.lt y (by simp [hy])
  have h0k := h0
  obtain ⟨fuel, hf⟩ := h0
  have hwt : ∀ n ∈ d0.weights Tryz.prog 29, n ≤ reachBytes := by
    intro n hn
    have := List.all_eq_true.1 hsz n (by simp [DataW.weightsEach, hn])
    simpa using this
  obtain ⟨x, hx0, hB⟩ := Tod.open29 W H enc 0 (fun _ => true) true fuel cs.toList (d0, p0) hf hwt
  have hx : k29.K W x cs.toList := hx0
  obtain ⟨b0, b1, _, b3, b4, _, ⟨b6, ⟨b7, _⟩, b8, _⟩, _, b11, _, ⟨b13, _⟩, _, b15, _, ⟨b17, ⟨b18, _⟩, b19, _⟩, b21, ⟨b22, m22⟩, ⟨b23, _⟩, ⟨b24, m24⟩⟩ := hB
  obtain ⟨A7, c7, A13, c13, A18, c18, A22, c22, A23, c23, A24, c24, hcs, n7, g7, n13, g13, n18, g18, n22, g22, n23, g23, n24, g24⟩ := k29_open hx
  obtain rfl : cs = #[.int .i64 x.f0, .int .i64 x.f1, .bool x.f2, .int .i64 x.f3, .string x.f4, .bool x.f5, .string x.f6.f0, .slice A7 x.f6.f1.length c7, .int .i64 x.f6.f2, .bool x.f6.f3, .bool x.f7, .string x.f8, .bool x.f9, .slice A13 x.f10.length c13, .bool x.f11, .int .i64 x.f12, .bool x.f13, .string x.f14.f0, .slice A18 x.f14.f1.length c18, .int .i64 x.f14.f2, .bool x.f14.f3, .int .i64 x.f15, .slice A22 x.f16.length c22, .slice A23 x.f17.length c23, .slice A24 x.f18.length c24] := Array.ext' hcs
  have hT := of_laid hL
  clear hA0 hval0
  refine (walk x W hT.1 hT.2 (fits_of b4 b6 b7 b11 b13 b17 b18 b22 b23 b24 (fun y hy => (m22 y hy).1) m24) ⟨g7, n7, g13, n13, g18, n18, g22, n22, g23, n23, g24, n24⟩).mono fun e W' ⟨he, bel⟩ => ?_
  subst he
  exact ⟨_, rfl, _, _, _, [], _, [], hW', trodAll_mk1 (shut_bool Tryz.underlying4 _), (trodAll_cons_mk (Below.trod laidOut (by kernel_rfl) (of_decide_eq_true (by kernel_rfl)) h0k bel hlt) trodAll_mk0), rfl, bel.frame _, fun h => by cases h⟩

theorem row_holds : Rows.PacketChecksSaid :=
  OpenClaim.holds_of_wide 3 Tryz.f3 rfl rfl rfl rfl rfl rfl rfl ⟨rfl, rfl, rfl, rfl, rfl⟩ rfl rfl rfl rfl rfl (by kernel_rfl) Tryz.func3 (by kernel_rfl)
    (of_decide_eq_true (by kernel_rfl)) (by unfold Func.isWrapper; first | (rw [if_pos (by decide +kernel)]; kernel_rfl) | (rw [if_neg (by decide +kernel)]; exact ⟨rfl, rfl⟩))
    (fun os started H enc _ => lifted os started H enc)
theorem card_holds : Rows.PacketChecksCardSaid :=
  Claim7.holds_tied_plain_at .later [] [.data, .data] true (true, "3c631e26ed87f3c11ab655c578d9d23cd38d48af571bac88fe6bfd7fbfccddd1") false
    row_holds (fun _ h => by cases h) (by kernel_rfl) (fun _ h => by cases h) packetChecks_row_tie rfl ⟨rfl, rfl⟩ (by kernel_rfl) rfl
    (fun f fn hf hfn => by
      obtain rfl : f = 3 := Option.some.inj ((show Tryz.prog.funcNamed "crier/crierlaw2.PacketChecks" = some 3 by kernel_rfl).symm.trans hf) |>.symm
      obtain rfl : fn = Tryz.f3 := (Option.some.inj (Tryz.func3.symm.trans hfn)).symm
      exact ⟨by kernel_rfl, fun j t ht => by
        rw [Tryz.params3] at ht
        have hm : t ∈ [29] := by simpa using Array.mem_of_getElem? ht
        have hall : ([29].all fun u => !Tryz.prog.wantsStandIn u) = true := by kernel_rfl
        exact (show Tryz.prog.wantsStandIn t = false by simpa using List.all_eq_true.1 hall t hm)⟩)
    (by kernel_rfl)
#print axioms card_holds
end Go.Proofs.YtndhkgfeknkfdaaGreatDoor.packetChecks
namespace Go.Proofs.YtndhkgfeknkfdaaGreatDoor
/-- The card, under a short name, for the claim. -/
theorem packetChecks_holds : Rows.PacketChecksCardSaid := packetChecks.card_holds
end Go.Proofs.YtndhkgfeknkfdaaGreatDoor
