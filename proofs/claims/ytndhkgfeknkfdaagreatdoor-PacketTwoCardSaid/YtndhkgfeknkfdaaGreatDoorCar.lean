/- PacketTwo: for every two packets it answers true; row and card. -/
import Derived.Test.YtndhkgfeknkfdaaGreatDoorRows
import Derived.Test.YtndhkgfeknkfdaaGreatDoorTie
import Derived.Test.YtndhkgfeknkfdaaGreatDoorCards
import Derived.Test.YtndhkgfeknkfdaaGreatDoorTwo
import Derived.Test.YtndhkgfeknkfdaaGreatDoorTod
import Derived.ProofKit
import Derived.LaidMore
import Derived.LaidSub
import Derived.OpenShut
import Derived.Stop.Joined
import Derived.Below
import Derived.Carry
import Derived.Lib.LaidTab
import Derived.SevenTiedAt
import Derived.SizedLaws
namespace Go.Proofs.YtndhkgfeknkfdaaGreatDoor.packetTwo
open Go.ChangeShapes Go.WideShapes Go.ChangeAt Go.WideMaps Go.WideElems Go.RowKit
open Go.Proofs.YtndhkgfeknkfdaaGreatDoor.Pk Go.Proofs.YtndhkgfeknkfdaaGreatDoor.MPacketChecks
set_option linter.unusedVariables false

theorem own : ownKnob Tryz.prog.godebug = none := by kernel_rfl
theorem laidOut : laidOutB Tryz.prog = true := by kernel_rfl
def laid3 : List (String × DataW Unit) := [("math/bits.deBruijn32tab", Rows.laid_math_bits_deBruijn32tab), ("math/bits.deBruijn64tab", Rows.laid_math_bits_deBruijn64tab), ("internal/strconv.uint64pow10", Rows.laid_internal_strconv_uint64pow10)]
/-- The door's own heap meets the condition: three closed facts. -/
theorem door_met (os : Os) (args : Array Value) : laidMetH Tryz.prog laid3 ((World.doorLaid Tryz.prog 400 os).forCall (fun _ _ => 0) ⟨#[], args, []⟩).memory :=
 laidMetH_of_parts3 (fuel := 8) (laidMet_of_run' 8 (by kernel_rfl) (by kernel_rfl)) (by kernel_rfl) (by kernel_rfl)
/-- what the condition gives the walk: the powers of ten -/
theorem of_laid {W : World} (h : laidMetH Tryz.prog laid3 W) : Lib.TabIs Tryz.prog W "internal/strconv.uint64pow10" .u64 Lib.pow10Tab := by
 rw [MakeChecks.laidMetH_plain _ _ _ (by kernel_rfl)] at h
 obtain ⟨ps, ⟨g0, t0, cs0, f0, p0, q0, hg0, ht0, hv0, hd0, ⟨g1, t1, cs1, f1, p1, q1, hg1, ht1, hv1, hd1, ⟨g2, t2, cs2, f2, p2, q2, hg2, ht2, hv2, hd2, _, _⟩, _⟩, _⟩, _, _⟩ := h
 obtain rfl := Option.some.inj ((show Tryz.prog.globalNamed "internal/strconv.uint64pow10" = some 3 by kernel_rfl).symm.trans hg2)
 obtain rfl := Option.some.inj ((show (Tryz.prog.globals[3]?).map (·.type) = some 214 by kernel_rfl).symm.trans ht2)
 have c2 : cs2.toList = Lib.pow10Tab.map fun z => Value.int .u64 z := Lib.cells_of_tab Tryz.underlying214 Tryz.underlying208 (by kernel_rfl) (by kernel_rfl) hd2
 obtain ⟨l2⟩ := cs2
 have c2 : l2 = Lib.pow10Tab.map fun z => Value.int .u64 z := c2
 subst c2
 exact hv2
theorem by_of {l : List Int} (h : ∀ y ∈ l, (Lit.int .u8 y).wf = true) : Pk.By l := fun x hx => by
 have h1 := h x hx
 unfold Lit.wf at h1
 rw [Bool.and_eq_true, decide_eq_true_eq, decide_eq_true_eq] at h1
 exact h1
theorem rb : reachBytes = 140737488351232 := rfl
theorem fits_of {x : S29} (b4 : x.f4.size ≤ reachBytes) (b6 : x.f6.f0.size ≤ reachBytes) (b7 : x.f6.f1.length ≤ reachBytes) (b11 : x.f8.size ≤ reachBytes) (b13 : x.f10.length ≤ reachBytes) (b17 : x.f14.f0.size ≤ reachBytes) (b18 : x.f14.f1.length ≤ reachBytes)
  (b22 : x.f16.length ≤ reachBytes) (b23 : x.f17.length ≤ reachBytes) (b24 : x.f18.length ≤ reachBytes) (m22 : ∀ y ∈ x.f16, y.f0.size ≤ reachBytes) (m24 : ∀ y ∈ x.f18, y.size ≤ reachBytes) : P.fits ⟨x.f0, x.f1, x.f2, x.f3, x.f4, x.f5, x.f6.f0, x.f6.f1, x.f6.f2, x.f6.f3, x.f7, x.f8, x.f9, x.f10, x.f11, x.f12, x.f13, x.f14.f0, x.f14.f1, x.f14.f2, x.f14.f3, x.f15, x.f16, x.f17, x.f18⟩ := by
 rw [rb] at b4 b6 b7 b11 b13 b17 b18 b22 b23 b24
 refine ⟨?_, ?_, ?_, ?_, ?_, ?_, ?_, ?_, ?_, ?_, fun y hy => ?_, fun y hy => ?_⟩
 ·show (x.f4.size : Int) ≤ _; omega
 ·show (x.f6.f0.size : Int) ≤ _; omega
 ·show (x.f6.f1.length : Int) ≤ _; omega
 ·show (x.f8.size : Int) ≤ _; omega
 ·show (x.f10.length : Int) ≤ _; omega
 ·show (x.f14.f0.size : Int) ≤ _; omega
 ·show (x.f14.f1.length : Int) ≤ _; omega
 ·show (x.f16.length : Int) ≤ _; omega
 ·show (x.f17.length : Int) ≤ _; omega
 ·show (x.f18.length : Int) ≤ _; omega
 ·have := m22 y hy; rw [rb] at this; omega
 ·have := m24 y hy; rw [rb] at this; omega

set_option maxRecDepth 100000 in
theorem lifted (os : Os) (started : os.Started) (H : Type) (enc : TypeId × Value → H) :
  ReturnsInHanded {} Tryz.checked os 4 .any (fun w args => (Rows.packetTwoSpec.pre enc Tryz.prog Tryz.f4 [] false w args ∧ laidMetH Tryz.prog laid3 w) ∧ sizedMet enc Tryz.prog Tryz.f4 (OpenSpec.ofChange Rows.packetTwoSpec) false w args)
   (Rows.packetTwoSpec.post enc Tryz.prog Tryz.f4 false true false false) := by
 refine returnsInHanded_of_change_and (C := Tryz.checked) (X := fun w _ => laidMetH Tryz.prog laid3 w) (fun _ _ _ hh h => h.of_heap hh) own started (by kernel_rfl) Tryz.func4
  (ChangeSpec.witness_shaped (enc := enc) (C := Tryz.checked) (os := os) (X := fun w _ => laidMetH Tryz.prog laid3 w) false (World.doorLaid Tryz.prog 400 os) #[.agg #[.int .i64 0, .int .i64 0, .bool false, .int .i64 0, .string ByteArray.empty, .bool false, .string ByteArray.empty, .slice none 0 0, .int .i64 0, .bool false, .bool false, .string ByteArray.empty, .bool false, .slice none 0 0, .bool false, .int .i64 0, .bool false, .string ByteArray.empty, .slice none 0 0, .int .i64 0, .bool false, .int .i64 0, .slice none 0 0, .slice none 0 0, .slice none 0 0], .agg #[.int .i64 0, .int .i64 0, .bool false, .int .i64 0, .string ByteArray.empty, .bool false, .string ByteArray.empty, .slice none 0 0, .int .i64 0, .bool false, .bool false, .string ByteArray.empty, .bool false, .slice none 0 0, .bool false, .int .i64 0, .bool false, .string ByteArray.empty, .slice none 0 0, .int .i64 0, .bool false, .int .i64 0, .slice none 0 0, .slice none 0 0, .slice none 0 0]] 8 rfl (World.shaped_of_RefB (by kernel_rfl) (by kernel_rfl)) (by kernel_rfl) (by kernel_rfl) (by kernel_rfl) (door_met os _)) ?_
 intro W base args ds gs before hval0 hW hcnd hsz0 hL _
 have hsz : (DataW.weightsEach Tryz.prog (Tryz.f4.params.toList ++ Rows.packetTwoSpec.plain.varTypes Tryz.prog) (ds ++ gs)).all (· ≤ reachBytes) = true := hsz0
 have hval : ∀ (j : Nat) t v, Tryz.f4.params[j]? = some t → args[j]? = some v → Value.okWide Tryz.prog W .any base t v := hval0
 have hW' := hW
 have hltW := hW'
 obtain ⟨p, q, hA0, hV, rfl, hfz, hnd⟩ := hW
 have hA : DataW.TrodAll enc Tryz.prog W 0 (fun _ => true) true Tryz.f4.params.toList args.toList ds p := hA0
 rw [Tryz.params4] at hA hval hsz
 obtain ⟨v0, vs0, d0, ds0, p0, q0, hargs, rfl, rfl, h0, r0⟩ := trodAll_cons hA
 obtain ⟨v1, vs1, d1, ds1, p1, q1, rfl, rfl, rfl, h1, r1⟩ := trodAll_cons r0
 obtain ⟨rfl, rfl, rfl⟩ := trodAll_nil r1
 obtain rfl : args = #[v0, v1] := by cases args; simp_all
 obtain ⟨rfl, rfl⟩ := trodVars_none hV
 obtain ⟨cs, rfl, hcsz⟩ := okWide_struct Tryz.underlying29 (hval 0 29 v0 rfl rfl)
 have hlt : ∀ y ∈ p0, y.block < W.heap.size := fun y hy => hltW.lt y (by simp [hy])
 have hk := h0
 obtain ⟨fuel, hf⟩ := h0
 have hwt : ∀ n ∈ d0.weights Tryz.prog 29, n ≤ reachBytes := by
  intro n hn
  have := List.all_eq_true.1 hsz n (by simp [DataW.weightsEach, hn])
  simpa using this
 obtain ⟨x, hx0, hB⟩ := Tod.open29 W H enc 0 (fun _ => true) true fuel cs.toList (d0, p0) hf hwt
 have hx : k29.K W x cs.toList := hx0
 obtain ⟨_, _, _, _, b4, _, ⟨b6, ⟨b7, y7⟩, _, _⟩, _, b11, _, ⟨b13, y13⟩, _, _, _, ⟨b17, ⟨b18, y18⟩, _, _⟩, _, ⟨b22, m22⟩, ⟨b23, _⟩, ⟨b24, m24⟩⟩ := hB
 obtain ⟨A7, c7, A13, c13, A18, c18, A22, c22, A23, c23, A24, c24, hcs, n7, g7, n13, g13, n18, g18, n22, g22, n23, g23, n24, g24⟩ := k29_open hx
 obtain rfl : cs = #[.int .i64 x.f0, .int .i64 x.f1, .bool x.f2, .int .i64 x.f3, .string x.f4, .bool x.f5, .string x.f6.f0, .slice A7 x.f6.f1.length c7, .int .i64 x.f6.f2, .bool x.f6.f3, .bool x.f7, .string x.f8, .bool x.f9, .slice A13 x.f10.length c13, .bool x.f11, .int .i64 x.f12, .bool x.f13, .string x.f14.f0, .slice A18 x.f14.f1.length c18, .int .i64 x.f14.f2, .bool x.f14.f3, .int .i64 x.f15, .slice A22 x.f16.length c22, .slice A23 x.f17.length c23, .slice A24 x.f18.length c24] := Array.ext' hcs
 obtain ⟨qcs, rfl, qhcsz⟩ := okWide_struct Tryz.underlying29 (hval 1 29 v1 rfl rfl)
 have qhlt : ∀ y ∈ p1, y.block < W.heap.size := fun y hy => hltW.lt y (by simp [hy])
 have qhk := h1
 obtain ⟨qfuel, qhf⟩ := h1
 have qhwt : ∀ n ∈ d1.weights Tryz.prog 29, n ≤ reachBytes := by
  intro n hn
  have := List.all_eq_true.1 hsz n (by simp [DataW.weightsEach, hn])
  simpa using this
 obtain ⟨z, qhx0, qhB⟩ := Tod.open29 W H enc 0 (fun _ => true) true qfuel qcs.toList (d1, p1) qhf qhwt
 have qhx : k29.K W z qcs.toList := qhx0
 obtain ⟨_, _, _, _, qb4, _, ⟨qb6, ⟨qb7, qy7⟩, _, _⟩, _, qb11, _, ⟨qb13, qy13⟩, _, _, _, ⟨qb17, ⟨qb18, qy18⟩, _, _⟩, _, ⟨qb22, qm22⟩, ⟨qb23, _⟩, ⟨qb24, qm24⟩⟩ := qhB
 obtain ⟨qA7, qc7, qA13, qc13, qA18, qc18, qA22, qc22, qA23, qc23, qA24, qc24, qhcs, qn7, qg7, qn13, qg13, qn18, qg18, qn22, qg22, qn23, qg23, qn24, qg24⟩ := k29_open qhx
 obtain rfl : qcs = #[.int .i64 z.f0, .int .i64 z.f1, .bool z.f2, .int .i64 z.f3, .string z.f4, .bool z.f5, .string z.f6.f0, .slice qA7 z.f6.f1.length qc7, .int .i64 z.f6.f2, .bool z.f6.f3, .bool z.f7, .string z.f8, .bool z.f9, .slice qA13 z.f10.length qc13, .bool z.f11, .int .i64 z.f12, .bool z.f13, .string z.f14.f0, .slice qA18 z.f14.f1.length qc18, .int .i64 z.f14.f2, .bool z.f14.f3, .int .i64 z.f15, .slice qA22 z.f16.length qc22, .slice qA23 z.f17.length qc23, .slice qA24 z.f18.length qc24] := Array.ext' qhcs
 have hT := of_laid hL
 clear hA0 hval0
 refine (Rm.PacketTwo_calls x.f0 x.f1 x.f2 x.f3 x.f4 x.f5 x.f6.f0 A7 c7 x.f6.f1 x.f6.f2 x.f6.f3 x.f7 x.f8 x.f9 A13 c13 x.f10 x.f11 x.f12 x.f13 x.f14.f0 A18 c18 x.f14.f1 x.f14.f2 x.f14.f3 x.f15 A22 c22 x.f16 A23 c23 x.f17 A24 c24 x.f18 z.f0 z.f1 z.f2 z.f3 z.f4 z.f5 z.f6.f0 qA7 qc7 z.f6.f1 z.f6.f2 z.f6.f3 z.f7 z.f8 z.f9 qA13 qc13 z.f10 z.f11 z.f12 z.f13 z.f14.f0 qA18 qc18 z.f14.f1 z.f14.f2 z.f14.f3 z.f15 qA22 qc22 z.f16 qA23 qc23 z.f17 qA24 qc24 z.f18 W hT ⟨g7, n7, g13, n13, g18, n18, g22, n22, g23, n23, g24, n24⟩ ⟨qg7, qn7, qg13, qn13, qg18, qn18, qg22, qn22, qg23, qn23, qg24, qn24⟩ (fits_of b4 b6 b7 b11 b13 b17 b18 b22 b23 b24 (fun y hy => (m22 y hy).1) m24) (fits_of qb4 qb6 qb7 qb11 qb13 qb17 qb18 qb22 qb23 qb24 (fun y hy => (qm22 y hy).1) qm24) ⟨by_of y7, by_of y13, by_of y18⟩ ⟨by_of qy7, by_of qy13, by_of qy18⟩).mono fun e W' ⟨he, bel⟩ => ?_
 subst he
 exact ⟨_, rfl, _, _, _, [], _, [], hW', trodAll_mk1 (shut_bool Tryz.underlying4 _), (trodAll_cons_mk (Below.trod laidOut (by kernel_rfl) (of_decide_eq_true (by kernel_rfl)) hk bel hlt) (trodAll_cons_mk (Below.trod laidOut (by kernel_rfl) (of_decide_eq_true (by kernel_rfl)) qhk bel qhlt) trodAll_mk0)), rfl, bel.frame _, fun h => by cases h⟩

theorem row_holds : Rows.PacketTwoSaid :=
 OpenClaim.holds_of_wide 4 Tryz.f4 rfl rfl rfl rfl rfl rfl rfl ⟨rfl, rfl, rfl, rfl, rfl⟩ rfl rfl rfl rfl rfl (by kernel_rfl) Tryz.func4 (by kernel_rfl)
  (of_decide_eq_true (by kernel_rfl)) (by unfold Func.isWrapper; first | (rw [if_pos (by decide +kernel)]; kernel_rfl) | (rw [if_neg (by decide +kernel)]; exact ⟨rfl, rfl⟩))
  (fun os started H enc _ => lifted os started H enc)
theorem card_holds : Rows.PacketTwoCardSaid :=
 Claim7.holds_tied_plain_at .later [] [.data, .data, .data] true (true, "3c631e26ed87f3c11ab655c578d9d23cd38d48af571bac88fe6bfd7fbfccddd1") false
  row_holds (fun _ h => by cases h) (by kernel_rfl) (fun _ h => by cases h) packetTwo_row_tie rfl ⟨rfl, rfl⟩ (by kernel_rfl) rfl
  (fun f fn hf hfn => by
   obtain rfl : f = 4 := Option.some.inj ((show Tryz.prog.funcNamed "crier/crierlaw2.PacketTwo" = some 4 by kernel_rfl).symm.trans hf) |>.symm
   obtain rfl : fn = Tryz.f4 := (Option.some.inj (Tryz.func4.symm.trans hfn)).symm
   exact ⟨by kernel_rfl, fun j t ht => by
    rw [Tryz.params4] at ht
    have hm : t ∈ [29, 29] := by simpa using Array.mem_of_getElem? ht
    have hall : ([29, 29].all fun u => !Tryz.prog.wantsStandIn u) = true := by kernel_rfl
    exact (show Tryz.prog.wantsStandIn t = false by simpa using List.all_eq_true.1 hall t hm)⟩)
  (by kernel_rfl)
#print axioms card_holds
end Go.Proofs.YtndhkgfeknkfdaaGreatDoor.packetTwo
namespace Go.Proofs.YtndhkgfeknkfdaaGreatDoor
/-- The card, under a short name, for the claim. -/
theorem packetTwo_holds : Rows.PacketTwoCardSaid := packetTwo.card_holds
end Go.Proofs.YtndhkgfeknkfdaaGreatDoor
