/- CoverLeast: of every list of texts it answers true; row and card. -/
import Derived.Test.YtfomjbbebgajcaaGreatDoorRows
import Derived.Test.YtfomjbbebgajcaaGreatDoorTie
import Derived.Test.YtfomjbbebgajcaaGreatDoorCards
import Derived.Test.YtfomjbbebgajcaaGreatDoorCl2
import Derived.WalkKit
import Derived.ProofKit
import Derived.OpenShut
import Derived.ShutString
import Derived.ChangeOld
import Derived.Below
import Derived.SizedLaws
import Derived.SliceStrings
import Derived.LaidMore
import Derived.LaidSub
import Derived.Stop.Joined
import Derived.Carry
import Derived.Lib.LaidTab
import Derived.SevenTiedAt
namespace Go.Proofs.YtfomjbbebgajcaaGreatDoor.coverLeast
open Go.ChangeShapes Go.WideShapes Go.ChangeAt Go.WideMaps Go.WideElems Go.RowKit
set_option linter.unusedVariables false
theorem own : ownKnob Tryz.prog.godebug = none := by kernel_rfl
theorem laidOut : laidOutB Tryz.prog = true := by kernel_rfl
def laid3 : List (String × DataW Unit) := [("math/bits.deBruijn32tab", Rows.laid_math_bits_deBruijn32tab), ("math/bits.deBruijn64tab", Rows.laid_math_bits_deBruijn64tab), ("internal/strconv.uint64pow10", Rows.laid_internal_strconv_uint64pow10)]
/-- The door's own heap meets the condition: three closed facts. -/
theorem door_met (os : Os) (args : Array Value) : laidMetH Tryz.prog laid3 ((World.doorLaid Tryz.prog 400 os).forCall (fun _ _ => 0) ⟨#[], args, []⟩).memory :=
 laidMetH_of_parts3 (fuel := 8) (laidMet_of_run' 8 (by kernel_rfl) (by kernel_rfl)) (by kernel_rfl) (by kernel_rfl)
/-- what the condition gives the walk: the powers of ten -/
theorem of_laid {W : World} (h : laidMetH Tryz.prog laid3 W) : Lib.TabIs Tryz.prog W "internal/strconv.uint64pow10" .u64 Lib.pow10Tab := by
 rw [MakeChecks.laidMetH_plain _ _ _ (by kernel_rfl)] at h
 obtain ⟨ps, ⟨g0, t0, cs0, f0, p0, q0, hg0, ht0, hv0, hd0, ⟨g1, t1, cs1, f1, p1, q1, hg1, ht1, hv1, hd1, ⟨g2, t2, cs2, f2, p2, q2, hg2, ht2, hv2, hd2, _, _⟩, _⟩, _⟩, _, _⟩ := h
 obtain rfl := Option.some.inj ((show Tryz.prog.globalNamed "internal/strconv.uint64pow10" = some 1 by kernel_rfl).symm.trans hg2)
 obtain rfl := Option.some.inj ((show (Tryz.prog.globals[1]?).map (·.type) = some 211 by kernel_rfl).symm.trans ht2)
 have c2 : cs2.toList = Lib.pow10Tab.map fun z => Value.int .u64 z := Lib.cells_of_tab Tryz.underlying211 Tryz.underlying199 (by kernel_rfl) (by kernel_rfl) hd2
 obtain ⟨l2⟩ := cs2
 have c2 : l2 = Lib.pow10Tab.map fun z => Value.int .u64 z := c2
 subst c2
 exact hv2
/-- a slice's texts lie in its cells -/
def IsStrs (w : World) (a : Option Addr) (len cap : Nat) (zs : List ByteArray) : Prop :=
 zs.length = len ∧ len ≤ cap ∧ (0 < len → ∃ x, a = some x ∧ ∀ i (h : i < zs.length), w.cell? (x.add i) = some (.string zs[i]))
theorem IsStrs.C {w : World} {a : Option Addr} {len cap : Nat} {zs : List ByteArray} (h : IsStrs w a len cap zs) (hb : len ≤ 140737488351232) : Go.Proofs.YtfomjbbebgajcaaGreatDoorW.PrintWords.Kd.C Go.Proofs.YtfomjbbebgajcaaGreatDoorW.PrintWords.Kd.string w a zs.length zs := by
 refine ⟨rfl, by rw [h.1]; omega, fun hn => ?_⟩
 obtain ⟨x, hx, hc⟩ := h.2.2 (by rw [← h.1]; exact hn)
 refine ⟨x, hx, fun j p hj => ?_⟩
 obtain ⟨hl, rfl⟩ := List.getElem?_eq_some_iff.1 hj
 refine ⟨[.string zs[j]], rfl, rfl, fun i u hu => ?_⟩
 have hi0 : i = 0 := by
  have := (List.getElem?_eq_some_iff.1 hu).1
  simp at this; exact this
 subst hi0
 simp at hu
 subst hu
 rw [show j * Go.Proofs.YtfomjbbebgajcaaGreatDoorW.PrintWords.Kd.string.sz + 0 = j from Nat.mul_one j]
 exact hc j hl
theorem weightsAll_mem {H : Type} {P : Program} {e : TypeId} : ∀ {ds : List (DataW H)} {d : DataW H}, d ∈ ds → ∀ n ∈ d.weights P e, n ∈ DataW.weightsAll P e ds
 | d0 :: ds, d, hd, n, hn => by
  rw [DataW.weightsAll, List.mem_append]
  rcases List.mem_cons.1 hd with rfl | hd
  ·exact .inl hn
  ·exact .inr (weightsAll_mem hd n hn)
theorem sized_strs {H : Type} {enc : TypeId × Value → H} {P : Program} {W : World} {base : Nat} {spare : Nat → Bool} {held : Bool} {t e : TypeId} {a : Option Addr} {len cap : Nat} {d : DataW H} {ps : List MemPlace} {ts : List TypeId} {ds : List (DataW H)} {j : Nat}
  (hsz : (DataW.weightsEach P ts ds).all (· ≤ reachBytes) = true) (ht : ts[j]? = some t) (hd : ds[j]? = some d) (hu : P.underlying t = some (.slice e)) (he : P.underlying e = some .string) (hc : P.cellsOf e = 1) (hB : 1 ≤ P.bytesOf e)
  (h : DataW.Trod enc P W base spare held t (.slice a len cap) d ps) : ∃ zs, IsStrs W a len cap zs ∧ len ≤ 140737488351232 ∧ ∀ s ∈ zs, s.size ≤ 140737488351232 := by
 obtain ⟨fuel, hf⟩ := h
 rcases open_strings hu he hc hf with ⟨hcs, _⟩ | ⟨x, l, c, zs, hcs, _, hl, _, hz, hx, hcell, _⟩
 ·simp [Value.cells] at hcs
  obtain ⟨rfl, rfl, rfl⟩ := hcs
  exact ⟨[], ⟨rfl, Nat.le_refl _, fun h => by simp at h⟩, by omega, fun s hs => by simp at hs⟩
 ·simp [Value.cells] at hcs
  obtain ⟨rfl, rfl, rfl⟩ := hcs
  obtain ⟨hx, _⟩ := Prod.mk.inj hx
  subst hx
  have z := sized_slice hsz ht hd hu
  have hlz : len ≤ zs.length := by rw [hz]; split <;> omega
  have hsl : (zs.take len).length = len := by rw [List.length_take]; omega
  refine ⟨zs.take len, ⟨hsl, hl, fun _ => ⟨_, rfl, fun i h => ?_⟩⟩, ?_, fun s hs => ?_⟩
  ·have h2 : i < zs.length := by omega
   have := hcell i h2
   rw [this, List.getElem_take, List.getD_eq_getElem?_getD, List.getElem?_eq_getElem h2]; rfl
  ·have h1 : (strs (H := H) (zs.take len)).length = len := by unfold strs; rw [List.length_map]; exact hsl
   have h2 := Nat.le_trans (Nat.le_mul_of_pos_right ((strs (H := H) (zs.take len)).length + (strs (H := H) (zs.drop len)).length) hB) z
   unfold reachBytes at h2
   omega
  ·have h1 : (DataW.lit (.string s.data.toList) : DataW H) ∈ strs (zs.take len) := by unfold strs; exact List.mem_map.2 ⟨s, hs, rfl⟩
   have h2 : s.data.toList.length ∈ (DataW.slice (strs (H := H) (zs.take len)) (strs (zs.drop len))).weights P t := by
    rw [DataW.weights, hu]
    refine List.mem_cons.2 (.inr (List.mem_append.2 (.inl (weightsAll_mem h1 _ ?_))))
    simp [DataW.weights]
   have h3 := List.all_eq_true.1 hsz _ (DataW.weights_mem_each ht hd _ h2)
   have h4 : s.data.toList.length = s.size := by rw [Array.length_toList]; rfl
   rw [h4] at h3
   unfold reachBytes at h3
   simpa using h3

set_option maxRecDepth 100000 in
theorem lifted (os : Os) (started : os.Started) (H : Type) (enc : TypeId × Value → H) :
  ReturnsInHanded {} Tryz.checked os 3 .any (fun w args => (Rows.coverLeastSpec.pre enc Tryz.prog Tryz.f3 [] false w args ∧ laidMetH Tryz.prog laid3 w) ∧ sizedMet enc Tryz.prog Tryz.f3 (OpenSpec.ofChange Rows.coverLeastSpec) false w args)
   (Rows.coverLeastSpec.post enc Tryz.prog Tryz.f3 false true false false) := by
 refine returnsInHanded_of_change_and (C := Tryz.checked) (X := fun w _ => laidMetH Tryz.prog laid3 w) (fun _ _ _ hh h => h.of_heap hh) own started (by kernel_rfl) Tryz.func3
  (ChangeSpec.witness_shaped (enc := enc) (C := Tryz.checked) (os := os) (X := fun w _ => laidMetH Tryz.prog laid3 w) false (World.doorLaid Tryz.prog 400 os) #[.slice none 0 0] 8 rfl (World.shaped_of_RefB (by kernel_rfl) (by kernel_rfl)) (by kernel_rfl) (by kernel_rfl) (by kernel_rfl) (door_met os _)) ?_
 intro W base args ds gs before hval0 hW hcnd hsz0 hL _
 have hsz : (DataW.weightsEach Tryz.prog (Tryz.f3.params.toList ++ Rows.coverLeastSpec.plain.varTypes Tryz.prog) (ds ++ gs)).all (· ≤ reachBytes) = true := hsz0
 have hval : ∀ (j : Nat) t v, Tryz.f3.params[j]? = some t → args[j]? = some v → Value.okWide Tryz.prog W .any base t v := hval0
 have hW' := hW
 have hltW := hW'
 obtain ⟨p, q, hA0, hV, rfl, hfz, hnd⟩ := hW
 have hA : DataW.TrodAll enc Tryz.prog W 0 (fun _ => true) true Tryz.f3.params.toList args.toList ds p := hA0
 rw [Tryz.params3] at hA hval hsz
 obtain ⟨v0, vs0, d0, ds0, p0, q0, hargs, rfl, rfl, h0, r0⟩ := trodAll_cons hA
 obtain ⟨rfl, rfl, rfl⟩ := trodAll_nil r0
 obtain rfl : args = #[v0] := by cases args; simp_all
 obtain ⟨rfl, rfl⟩ := trodVars_none hV
 obtain ⟨a0, len0, cap0, rfl⟩ := okWide_slice Tryz.underlying22 (hval 0 22 v0 rfl rfl)
 have k0 := h0
 have lt0 : ∀ x ∈ p0, x.block < W.heap.size := by obtain ⟨m, hm⟩ := k0; exact DataW.trod_lt m _ _ _ hm
 obtain ⟨z0, w0, y0, x0⟩ := sized_strs hsz (j := 0) (t := 22) rfl rfl Tryz.underlying22 Tryz.underlying9 (by kernel_rfl) (of_decide_eq_true (by kernel_rfl)) h0
 have hT := of_laid hL
 clear hA0 hval0 hsz0 hsz
 have hlen := w0.1
 subst hlen
 refine (Rm.CoverLeast_calls a0 cap0 z0 W hT (w0.C y0) w0.2.1 (fun s hs => by have := x0 s hs; omega) (by omega)).mono fun e W' ⟨he, bel⟩ => ?_
 subst he
 exact ⟨_, rfl, _, _, _, [], _, [], hW', trodAll_mk1 (shut_bool Tryz.underlying4 _), (trodAll_cons_mk (Below.trod laidOut (by kernel_rfl) (of_decide_eq_true (by kernel_rfl)) k0 bel lt0) trodAll_mk0), rfl, bel.frame _, fun h => by cases h⟩

theorem row_holds : Rows.CoverLeastSaid :=
 OpenClaim.holds_of_wide 3 Tryz.f3 rfl rfl rfl rfl rfl rfl rfl ⟨rfl, rfl, rfl, rfl, rfl⟩ rfl rfl rfl rfl rfl (by kernel_rfl) Tryz.func3 (by kernel_rfl)
  (of_decide_eq_true (by kernel_rfl)) (by unfold Func.isWrapper; first | (rw [if_pos (by decide +kernel)]; kernel_rfl) | (rw [if_neg (by decide +kernel)]; exact ⟨rfl, rfl⟩))
  (fun os started H enc _ => lifted os started H enc)
theorem card_holds : Rows.CoverLeastCardSaid :=
 Claim7.holds_tied_plain_at .later [] [.data, .data, .data] true (true, "74e39e66cf3a57512ba99f6796204fb79b01c851531c448b7ebac3c3a52ec917") false
  row_holds (fun _ h => by cases h) (by kernel_rfl) (fun _ h => by cases h) coverLeast_row_tie rfl ⟨rfl, rfl⟩ (by kernel_rfl) rfl
  (fun f fn hf hfn => by
   obtain rfl : f = 3 := Option.some.inj ((show Tryz.prog.funcNamed "crier/crierlaw6.CoverLeast" = some 3 by kernel_rfl).symm.trans hf) |>.symm
   obtain rfl : fn = Tryz.f3 := (Option.some.inj (Tryz.func3.symm.trans hfn)).symm
   exact ⟨by kernel_rfl, fun j t ht => by
    rw [Tryz.params3] at ht
    have hm : t ∈ [22] := by simpa using Array.mem_of_getElem? ht
    have hall : ([22].all fun u => !Tryz.prog.wantsStandIn u) = true := by kernel_rfl
    exact (show Tryz.prog.wantsStandIn t = false by simpa using List.all_eq_true.1 hall t hm)⟩)
  (by kernel_rfl)
#print axioms card_holds
end Go.Proofs.YtfomjbbebgajcaaGreatDoor.coverLeast
namespace Go.Proofs.YtfomjbbebgajcaaGreatDoor
/-- The card, under a short name, for the claim. -/
theorem coverLeast_holds : Rows.CoverLeastCardSaid := coverLeast.card_holds
end Go.Proofs.YtfomjbbebgajcaaGreatDoor
