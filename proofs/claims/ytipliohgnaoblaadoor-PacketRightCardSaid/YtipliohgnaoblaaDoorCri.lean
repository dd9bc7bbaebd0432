/- PacketRight: row and card. -/
import Derived.Test.YtipliohgnaoblaaDoorRows
import Derived.Test.YtipliohgnaoblaaDoorTie
import Derived.Test.YtipliohgnaoblaaDoorCards
import Derived.Test.YtipliohgnaoblaaDoorRig
import Derived.Test.YtipliohgnaoblaaDoorTod
import Derived.ProofKit
import Derived.LaidMore
import Derived.OpenShut
import Derived.Stop.Joined
import Derived.Below
import Derived.Carry
import Derived.Lib.LaidTab
import Derived.SevenTiedAt
import Derived.SizedLaws
namespace Go.Proofs.YtipliohgnaoblaaDoor.packetRight
open Go.ChangeShapes Go.WideShapes Go.ChangeAt Go.WideMaps Go.WideElems Go.RowKit
open Go.Proofs.YtipliohgnaoblaaDoor.Pk Go.Proofs.YtipliohgnaoblaaDoor.MPacketStays
set_option linter.unusedVariables false

theorem own : ownKnob Tryd.prog.godebug = none := by kernel_rfl
theorem gHas : Tryd.prog.globalNamed "crier/packet.has" = some 0 := by kernel_rfl
theorem gFlags : Tryd.prog.globalNamed "crier/packet.flags" = some 1 := by kernel_rfl
theorem tHas : (Tryd.prog.globals[0]?).map (·.type) = some 49 := by kernel_rfl
theorem tFlags : (Tryd.prog.globals[1]?).map (·.type) = some 49 := by kernel_rfl
theorem gNames : Tryd.prog.globalNamed "crier/packet.names" = some 2 := by kernel_rfl
theorem tNames : (Tryd.prog.globals[2]?).map (·.type) = some 52 := by kernel_rfl
theorem laidOut : laidOutB Tryd.prog = true := by kernel_rfl
def laid2 : List (String × DataW Unit) := [("crier/packet.has", Rows.laid_crier_packet_has), ("crier/packet.flags", Rows.laid_crier_packet_flags), ("crier/packet.names", Rows.laid_crier_packet_names)]

/-- an array of strings that reads as the table holds the table's strings, cell for cell -/
theorem cells_of_strs {H : Type} {enc : TypeId × Value → H} {P : Program} {w : World} {base : Nat} {sp : Nat → Bool} {held : Bool} {fuel : Nat} {t e : TypeId} {n : Nat} {cs : List Value} {zs : List ByteArray} {p : List MemPlace}
  (ht : P.underlying t = some (.array n e)) (he : P.underlying e = some .string) (hce : P.cellsOf e = 1) (hct : P.cellsOf t = n)
  (h : DataW.trod enc P w base sp held fuel t cs = some (.agg (zs.map fun z => .lit (.string z.data.toList)), p)) : cs = zs.map fun z => Value.string z := by
 cases fuel with
 | zero => simp [DataW.trod] at h
 | succ fuel =>
  simp only [DataW.trod, ht, hce, hct, Nat.mul_one] at h
  split at h
  ·rename_i hl
   obtain ⟨xs, hm, hx⟩ := Option.map_eq_some_iff.1 h
   have hxs : xs.map (·.1) = zs.map fun z => (DataW.lit (.string z.data.toList) : DataW H) := by
    have := congrArg Prod.fst hx
    simpa using this
   have hxl : xs.length = n := by simpa using Lib.mapM_length hm
   have hzl : zs.length = n := by
    have := congrArg List.length hxs
    simp at this
    omega
   apply List.ext_getElem?
   intro i
   by_cases hi : i < n
   ·obtain ⟨b, hb, hf⟩ := Lib.mapM_at hm i i (by simp [hi])
    obtain ⟨z, hc, rfl, _⟩ := DataW.trod_string he hf
    have h1 : cs[i]? = some (.string z) := by
     have := congrArg (·[0]?) hc
     simpa [List.getElem?_take, List.getElem?_drop] using this
    have h2 : (xs.map (·.1))[i]? = some (DataW.lit (.string z.data.toList) : DataW H) := by simp [hb]
    rw [hxs] at h2
    simp only [List.getElem?_map, Option.map_eq_some_iff, DataW.lit.injEq, Lit.string.injEq] at h2
    obtain ⟨z', hz', h3⟩ := h2
    have h4 : z' = z := by
     cases z'; cases z
     congr 1
     exact Array.toList_inj.1 h3
    subst h4
    simp [h1, hz']
   ·rw [List.getElem?_eq_none (by omega), List.getElem?_eq_none (by simp; omega)]
  ·cases h

/-- The door's own heap meets the condition: three closed facts. -/
theorem door_met (os : Os) (args : Array Value) : laidMetH Tryd.prog laid2 ((World.doorLaid Tryd.prog 400 os).forCall (fun _ _ => 0) ⟨#[], args, []⟩).memory :=
 laidMetH_of_parts3 (fuel := 8) (laidMet_of_run' 8 (by kernel_rfl) (by kernel_rfl)) (by kernel_rfl) (by kernel_rfl)

/-- what the condition gives the walks: the tables' cells -/
theorem of_laid {W : World} (h : laidMetH Tryd.prog laid2 W) : HasT W ∧ Kin.Tabs W := by
 rw [MakeChecks.laidMetH_plain _ _ _ (by kernel_rfl)] at h
 obtain ⟨ps, ⟨g0, t0, cs0, f0, p0, q0, hg0, ht0, hv0, hd0, ⟨g1, t1, cs1, f1, p1, q1, hg1, ht1, hv1, hd1, ⟨g2, t2, cs2, f2, p2, q2, hg2, ht2, hv2, hd2, _, _⟩, _⟩, _⟩, _, _⟩ := h
 obtain rfl := Option.some.inj (gHas.symm.trans hg0)
 obtain rfl := Option.some.inj (gFlags.symm.trans hg1)
 obtain rfl := Option.some.inj (gNames.symm.trans hg2)
 obtain rfl := Option.some.inj (tHas.symm.trans ht0)
 obtain rfl := Option.some.inj (tFlags.symm.trans ht1)
 obtain rfl := Option.some.inj (tNames.symm.trans ht2)
 have c2 : cs2.toList = Kin.namesL.map fun z => Value.string z := cells_of_strs Tryd.underlying52 Tryd.underlying9 (by kernel_rfl) (by kernel_rfl) hd2
 have c0 : cs0.toList = hasL.map fun z => Value.int .i64 z := Lib.cells_of_tab Tryd.underlying49 Tryd.underlying3 (by kernel_rfl) (by kernel_rfl) hd0
 have c1 : cs1.toList = Kin.flagsL.map fun z => Value.int .i64 z := Lib.cells_of_tab Tryd.underlying49 Tryd.underlying3 (by kernel_rfl) (by kernel_rfl) hd1
 obtain ⟨l0⟩ := cs0
 obtain ⟨l1⟩ := cs1
 obtain ⟨l2⟩ := cs2
 have c2 : l2 = Kin.namesL.map fun z => Value.string z := c2
 have c0 : l0 = hasL.map fun z => Value.int .i64 z := c0
 have c1 : l1 = Kin.flagsL.map fun z => Value.int .i64 z := c1
 subst c0
 subst c1
 subst c2
 refine ⟨fun i hi => ?_, fun i hi => ?_, fun i hi => ?_⟩
 ·have := World.var?_cell hg0 hv0 i
  rw [this]
  have h2 : i < hasL.length := hi
  simp [List.getElem?_eq_getElem h2]
 ·have := World.var?_cell hg1 hv1 i
  rw [this]
  have h2 : i < Kin.flagsL.length := hi
  simp [List.getElem?_eq_getElem h2]
 ·have := World.var?_cell hg2 hv2 i
  rw [this]
  have h2 : i < Kin.namesL.length := hi
  simp [List.getElem?_eq_getElem h2]
theorem rb : reachBytes = 140737488351232 := rfl
theorem fits_of {x : S29} (b4 : x.f4.size ≤ reachBytes) (b6 : x.f6.f0.size ≤ reachBytes) (b7 : x.f6.f1.length ≤ reachBytes) (b11 : x.f8.size ≤ reachBytes) (b13 : x.f10.length ≤ reachBytes) (b17 : x.f14.f0.size ≤ reachBytes) (b18 : x.f14.f1.length ≤ reachBytes)
  (b22 : x.f16.length ≤ reachBytes) (b23 : x.f17.length ≤ reachBytes) (b24 : x.f18.length ≤ reachBytes) (m22 : ∀ y ∈ x.f16, y.f0.size ≤ reachBytes) (m24 : ∀ y ∈ x.f18, y.size ≤ reachBytes) : P.fits ⟨x.f0, x.f1, x.f2, x.f3, x.f4, x.f5, x.f6.f0, x.f6.f1, x.f6.f2, x.f6.f3, x.f7, x.f8, x.f9, x.f10, x.f11, x.f12, x.f13, x.f14.f0, x.f14.f1, x.f14.f2, x.f14.f3, x.f15, x.f16, x.f17, x.f18⟩ := by
 rw [rb] at b4 b6 b7 b11 b13 b17 b18 b22 b23 b24
 refine ⟨?_, ?_, ?_, ?_, ?_, ?_, ?_, ?_, ?_, ?_, fun y hy => ?_, fun y hy => ?_⟩
 ·show (x.f4.size : Int) ≤ _; omega
 ·show (x.f6.f0.size : Int) ≤ _; omega
 ·show (x.f6.f1.length : Int) ≤ _; omega
 ·show (x.f8.size : Int) ≤ _; omega
 ·show (x.f10.length : Int) ≤ _; omega
 ·show (x.f14.f0.size : Int) ≤ _; omega
 ·show (x.f14.f1.length : Int) ≤ _; omega
 ·show (x.f16.length : Int) ≤ _; omega
 ·show (x.f17.length : Int) ≤ _; omega
 ·show (x.f18.length : Int) ≤ _; omega
 ·have := m22 y hy; rw [rb] at this; omega
 ·have := m24 y hy; rw [rb] at this; omega

set_option maxRecDepth 100000 in
theorem walk (x y : S29) (W : World) (hT : HasT W) (hF : Kin.Tabs W) (hf : P.fits ⟨x.f0, x.f1, x.f2, x.f3, x.f4, x.f5, x.f6.f0, x.f6.f1, x.f6.f2, x.f6.f3, x.f7, x.f8, x.f9, x.f10, x.f11, x.f12, x.f13, x.f14.f0, x.f14.f1, x.f14.f2, x.f14.f3, x.f15, x.f16, x.f17, x.f18⟩) (hg : P.fits ⟨y.f0, y.f1, y.f2, y.f3, y.f4, y.f5, y.f6.f0, y.f6.f1, y.f6.f2, y.f6.f3, y.f7, y.f8, y.f9, y.f10, y.f11, y.f12, y.f13, y.f14.f0, y.f14.f1, y.f14.f2, y.f14.f3, y.f15, y.f16, y.f17, y.f18⟩) {A7 : Option Addr} {c7 : Nat} {A13 : Option Addr} {c13 : Nat} {A18 : Option Addr} {c18 : Nat} {A22 : Option Addr} {c22 : Nat} {A23 : Option Addr} {c23 : Nat} {A24 : Option Addr} {c24 : Nat} {Y7 : Option Addr} {z7 : Nat} {Y13 : Option Addr} {z13 : Nat} {Y18 : Option Addr} {z18 : Nat} {Y22 : Option Addr} {z22 : Nat} {Y23 : Option Addr} {z23 : Nat} {Y24 : Option Addr} {z24 : Nat} (hr : Rd W A7 c7 x.f6.f1 A13 c13 x.f10 A18 c18 x.f14.f1 A22 c22 x.f16 A23 c23 x.f17 A24 c24 x.f18) (hq : Rd W Y7 z7 y.f6.f1 Y13 z13 y.f10 Y18 z18 y.f14.f1 Y22 z22 y.f16 Y23 z23 y.f17 Y24 z24 y.f18) :
  Calls Tryd.prog 4 #[.agg #[.int .i64 x.f0, .int .i64 x.f1, .bool x.f2, .int .i64 x.f3, .string x.f4, .bool x.f5, .string x.f6.f0, .slice A7 x.f6.f1.length c7, .int .i64 x.f6.f2, .bool x.f6.f3, .bool x.f7, .string x.f8, .bool x.f9, .slice A13 x.f10.length c13, .bool x.f11, .int .i64 x.f12, .bool x.f13, .string x.f14.f0, .slice A18 x.f14.f1.length c18, .int .i64 x.f14.f2, .bool x.f14.f3, .int .i64 x.f15, .slice A22 x.f16.length c22, .slice A23 x.f17.length c23, .slice A24 x.f18.length c24], .agg #[.int .i64 y.f0, .int .i64 y.f1, .bool y.f2, .int .i64 y.f3, .string y.f4, .bool y.f5, .string y.f6.f0, .slice Y7 y.f6.f1.length z7, .int .i64 y.f6.f2, .bool y.f6.f3, .bool y.f7, .string y.f8, .bool y.f9, .slice Y13 y.f10.length z13, .bool y.f11, .int .i64 y.f12, .bool y.f13, .string y.f14.f0, .slice Y18 y.f14.f1.length z18, .int .i64 y.f14.f2, .bool y.f14.f3, .int .i64 y.f15, .slice Y22 y.f16.length z22, .slice Y23 y.f17.length z23, .slice Y24 y.f18.length z24]] W fun e w' => e = .returned (.bool true) ∧ Below W.heap.size W w' := by
 obtain ⟨kc, r, h, hcn⟩ := cn_packet ⟨x.f0, x.f1, x.f2, x.f3, x.f4, x.f5, x.f6.f0, x.f6.f1, x.f6.f2, x.f6.f3, x.f7, x.f8, x.f9, x.f10, x.f11, x.f12, x.f13, x.f14.f0, x.f14.f1, x.f14.f2, x.f14.f3, x.f15, x.f16, x.f17, x.f18⟩ hf 300000 (by omega)
 obtain ⟨kc2, r2, h2, hcn2⟩ := cn_packet ⟨y.f0, y.f1, y.f2, y.f3, y.f4, y.f5, y.f6.f0, y.f6.f1, y.f6.f2, y.f6.f3, y.f7, y.f8, y.f9, y.f10, y.f11, y.f12, y.f13, y.f14.f0, y.f14.f1, y.f14.f2, y.f14.f3, y.f15, y.f16, y.f17, y.f18⟩ hg 300000 (by omega)
 exact Right_walk x.f0 x.f1 x.f2 x.f3 x.f4 x.f5 x.f6.f0 A7 c7 x.f6.f1 x.f6.f2 x.f6.f3 x.f7 x.f8 x.f9 A13 c13 x.f10 x.f11 x.f12 x.f13 x.f14.f0 A18 c18 x.f14.f1 x.f14.f2 x.f14.f3 x.f15 A22 c22 x.f16 A23 c23 x.f17 A24 c24 x.f18 y.f0 y.f1 y.f2 y.f3 y.f4 y.f5 y.f6.f0 Y7 z7 y.f6.f1 y.f6.f2 y.f6.f3 y.f7 y.f8 y.f9 Y13 z13 y.f10 y.f11 y.f12 y.f13 y.f14.f0 Y18 z18 y.f14.f1 y.f14.f2 y.f14.f3 y.f15 Y22 z22 y.f16 Y23 z23 y.f17 Y24 z24 y.f18 kc kc2 r r2 W hT hF hr hq h (fun h0 => few_sum hcn h0) h2 (fun h0 => few_sum hcn2 h0)

set_option maxRecDepth 100000 in
theorem lifted (os : Os) (started : os.Started) (H : Type) (enc : TypeId × Value → H) :
  ReturnsInHanded {} Tryd.checked os 4 .any (fun w args => (Rows.packetRightSpec.pre enc Tryd.prog Tryd.f4 [] false w args ∧ laidMetH Tryd.prog laid2 w) ∧ sizedMet enc Tryd.prog Tryd.f4 (OpenSpec.ofChange Rows.packetRightSpec) false w args)
   (Rows.packetRightSpec.post enc Tryd.prog Tryd.f4 false true false false) := by
 refine returnsInHanded_of_change_and (C := Tryd.checked) (X := fun w _ => laidMetH Tryd.prog laid2 w) (fun _ _ _ hh h => h.of_heap hh) own started (by kernel_rfl) Tryd.func4
  (ChangeSpec.witness_shaped (enc := enc) (C := Tryd.checked) (os := os) (X := fun w _ => laidMetH Tryd.prog laid2 w) false (World.doorLaid Tryd.prog 400 os) #[.agg #[.int .i64 0, .int .i64 0, .bool false, .int .i64 0, .string ByteArray.empty, .bool false, .string ByteArray.empty, .slice none 0 0, .int .i64 0, .bool false, .bool false, .string ByteArray.empty, .bool false, .slice none 0 0, .bool false, .int .i64 0, .bool false, .string ByteArray.empty, .slice none 0 0, .int .i64 0, .bool false, .int .i64 0, .slice none 0 0, .slice none 0 0, .slice none 0 0], .agg #[.int .i64 0, .int .i64 0, .bool false, .int .i64 0, .string ByteArray.empty, .bool false, .string ByteArray.empty, .slice none 0 0, .int .i64 0, .bool false, .bool false, .string ByteArray.empty, .bool false, .slice none 0 0, .bool false, .int .i64 0, .bool false, .string ByteArray.empty, .slice none 0 0, .int .i64 0, .bool false, .int .i64 0, .slice none 0 0, .slice none 0 0, .slice none 0 0]] 8 rfl (World.shaped_of_RefB (by kernel_rfl) (by kernel_rfl)) (by kernel_rfl) (by kernel_rfl) (by kernel_rfl) (door_met os _)) ?_
 intro W base args ds gs before hval0 hW hcnd hsz0 hL _
 have hsz : (DataW.weightsEach Tryd.prog (Tryd.f4.params.toList ++ Rows.packetRightSpec.plain.varTypes Tryd.prog) (ds ++ gs)).all (· ≤ reachBytes) = true := hsz0
 have hval : ∀ (j : Nat) t v, Tryd.f4.params[j]? = some t → args[j]? = some v → Value.okWide Tryd.prog W .any base t v := hval0
 have hW' := hW
 have hltW := hW'
 obtain ⟨p, q, hA0, hV, rfl, hfz, hnd⟩ := hW
 have hA : DataW.TrodAll enc Tryd.prog W 0 (fun _ => true) true Tryd.f4.params.toList args.toList ds p := hA0
 rw [Tryd.params4] at hA hval hsz
 obtain ⟨v0, vs0, d0, ds0, p0, q0, hargs, rfl, rfl, h0, r0⟩ := trodAll_cons hA
 obtain ⟨v1, vs1, d1, ds1, p1, q1, rfl, rfl, rfl, h1, r1⟩ := trodAll_cons r0
 obtain ⟨rfl, rfl, rfl⟩ := trodAll_nil r1
 obtain rfl : args = #[v0, v1] := by cases args; simp_all
 obtain ⟨rfl, rfl⟩ := trodVars_none hV
 obtain ⟨cs, rfl, hcsz⟩ := okWide_struct Tryd.underlying29 (hval 0 29 v0 rfl rfl)
 obtain ⟨es, rfl, hesz⟩ := okWide_struct Tryd.underlying29 (hval 1 29 v1 rfl rfl)
 have hlt0 : ∀ y ∈ p0, y.block < W.heap.size := fun y hy => by simpa using hltW.lt y (by simp [hy])
 have hlt1 : ∀ y ∈ p1, y.block < W.heap.size := fun y hy => by simpa using hltW.lt y (by simp [hy])
 have h0k := h0
 have h1k := h1
 obtain ⟨fuel, hf⟩ := h0
 obtain ⟨fuel1, hf1⟩ := h1
 have hwt : ∀ n ∈ d0.weights Tryd.prog 29, n ≤ reachBytes := by
  intro n hn
  have := List.all_eq_true.1 hsz n (by simp [DataW.weightsEach, hn])
  simpa using this
 have hwt1 : ∀ n ∈ d1.weights Tryd.prog 29, n ≤ reachBytes := by
  intro n hn
  have := List.all_eq_true.1 hsz n (by simp [DataW.weightsEach, hn])
  simpa using this
 obtain ⟨x, hx0, hB⟩ := Tod.open29 W H enc 0 (fun _ => true) true fuel cs.toList (d0, p0) hf hwt
 have hx : k29.K W x cs.toList := hx0
 obtain ⟨b0, b1, _, b3, b4, _, ⟨b6, ⟨b7, _⟩, b8, _⟩, _, b11, _, ⟨b13, _⟩, _, b15, _, ⟨b17, ⟨b18, _⟩, b19, _⟩, b21, ⟨b22, m22⟩, ⟨b23, _⟩, ⟨b24, m24⟩⟩ := hB
 obtain ⟨y, hy0, hD⟩ := Tod.open29 W H enc 0 (fun _ => true) true fuel1 es.toList (d1, p1) hf1 hwt1
 have hy : k29.K W y es.toList := hy0
 obtain ⟨e0, e1, _, e3, e4, _, ⟨e6, ⟨e7, _⟩, e8, _⟩, _, e11, _, ⟨e13, _⟩, _, e15, _, ⟨e17, ⟨e18, _⟩, e19, _⟩, e21, ⟨e22, n22_⟩, ⟨e23, _⟩, ⟨e24, n24_⟩⟩ := hD
 obtain ⟨A7, c7, A13, c13, A18, c18, A22, c22, A23, c23, A24, c24, hcs, n7, g7, n13, g13, n18, g18, n22, g22, n23, g23, n24, g24⟩ := k29_open hx
 obtain ⟨Y7, z7, Y13, z13, Y18, z18, Y22, z22, Y23, z23, Y24, z24, hes, ny7, gy7, ny13, gy13, ny18, gy18, ny22, gy22, ny23, gy23, ny24, gy24⟩ := k29_open hy
 obtain rfl : cs = #[.int .i64 x.f0, .int .i64 x.f1, .bool x.f2, .int .i64 x.f3, .string x.f4, .bool x.f5, .string x.f6.f0, .slice A7 x.f6.f1.length c7, .int .i64 x.f6.f2, .bool x.f6.f3, .bool x.f7, .string x.f8, .bool x.f9, .slice A13 x.f10.length c13, .bool x.f11, .int .i64 x.f12, .bool x.f13, .string x.f14.f0, .slice A18 x.f14.f1.length c18, .int .i64 x.f14.f2, .bool x.f14.f3, .int .i64 x.f15, .slice A22 x.f16.length c22, .slice A23 x.f17.length c23, .slice A24 x.f18.length c24] := Array.ext' hcs
 obtain rfl : es = #[.int .i64 y.f0, .int .i64 y.f1, .bool y.f2, .int .i64 y.f3, .string y.f4, .bool y.f5, .string y.f6.f0, .slice Y7 y.f6.f1.length z7, .int .i64 y.f6.f2, .bool y.f6.f3, .bool y.f7, .string y.f8, .bool y.f9, .slice Y13 y.f10.length z13, .bool y.f11, .int .i64 y.f12, .bool y.f13, .string y.f14.f0, .slice Y18 y.f14.f1.length z18, .int .i64 y.f14.f2, .bool y.f14.f3, .int .i64 y.f15, .slice Y22 y.f16.length z22, .slice Y23 y.f17.length z23, .slice Y24 y.f18.length z24] := Array.ext' hes
 have hT := of_laid hL
 clear hA0 hval0
 refine (walk x y W hT.1 hT.2 (fits_of b4 b6 b7 b11 b13 b17 b18 b22 b23 b24 (fun y hy => (m22 y hy).1) m24) (fits_of e4 e6 e7 e11 e13 e17 e18 e22 e23 e24 (fun y hy => (n22_ y hy).1) n24_) ⟨g7, n7, g13, n13, g18, n18, g22, n22, g23, n23, g24, n24⟩ ⟨gy7, ny7, gy13, ny13, gy18, ny18, gy22, ny22, gy23, ny23, gy24, ny24⟩).mono fun e W' ⟨he, bel⟩ => ?_
 subst he
 exact ⟨_, rfl, _, _, _, [], _, [], hW', trodAll_mk1 (shut_bool Tryd.underlying4 _), (trodAll_cons_mk (Below.trod laidOut (by kernel_rfl) (of_decide_eq_true (by kernel_rfl)) h0k bel hlt0) (trodAll_cons_mk (Below.trod laidOut (by kernel_rfl) (of_decide_eq_true (by kernel_rfl)) h1k bel hlt1) trodAll_mk0)), rfl, bel.frame _, fun h => by cases h⟩

theorem row_holds : Rows.PacketRightSaid :=
 OpenClaim.holds_of_wide 4 Tryd.f4 rfl rfl rfl rfl rfl rfl rfl ⟨rfl, rfl, rfl, rfl, rfl⟩ rfl rfl rfl rfl rfl (by kernel_rfl) Tryd.func4 (by kernel_rfl)
  (of_decide_eq_true (by kernel_rfl)) (by unfold Func.isWrapper; first | (rw [if_pos (by decide +kernel)]; kernel_rfl) | (rw [if_neg (by decide +kernel)]; exact ⟨rfl, rfl⟩))
  (fun os started H enc _ => lifted os started H enc)
theorem card_holds : Rows.PacketRightCardSaid :=
 Claim7.holds_tied_plain_at .later [] [.data, .data, .data] true (true, "63c115c5c1d8575d1f93d80b358ccad476e4a60719629549ad3f1d26d716a052") false
  row_holds (fun _ h => by cases h) (by kernel_rfl) (fun _ h => by cases h) packetRight_row_tie rfl ⟨rfl, rfl⟩ (by kernel_rfl) rfl
  (fun f fn hf hfn => by
   obtain rfl : f = 4 := Option.some.inj ((show Tryd.prog.funcNamed "crier/crierlaw2.PacketRight" = some 4 by kernel_rfl).symm.trans hf) |>.symm
   obtain rfl : fn = Tryd.f4 := (Option.some.inj (Tryd.func4.symm.trans hfn)).symm
   exact ⟨by kernel_rfl, fun j t ht => by
    rw [Tryd.params4] at ht
    have hm : t ∈ [29, 29] := by simpa using Array.mem_of_getElem? ht
    have hall : ([29, 29].all fun u => !Tryd.prog.wantsStandIn u) = true := by kernel_rfl
    exact (show Tryd.prog.wantsStandIn t = false by simpa using List.all_eq_true.1 hall t hm)⟩)
  (by kernel_rfl)
#print axioms card_holds
end Go.Proofs.YtipliohgnaoblaaDoor.packetRight
namespace Go.Proofs.YtipliohgnaoblaaDoor
/-- The card, under a short name, for the claim. -/
theorem packetRight_holds : Rows.PacketRightCardSaid := packetRight.card_holds
end Go.Proofs.YtipliohgnaoblaaDoor
