/- ImageSame: the row. -/
import Derived.Test.YthlhlgomnjeenabRows
import Derived.Test.YthlhlgomnjeenabIs
import Derived.Test.YthlhlgomnjeenabTod
import Derived.WalkKit
import Derived.ProofKit
import Derived.OpenShut
import Derived.ShutString
import Derived.ChangeOld
import Derived.Below
import Derived.Carry
import Derived.SizedLaws
namespace Go.Proofs.Ythlhlgomnjeenab.imageSame
open Go.ChangeShapes Go.WideShapes Go.ChangeAt Go.WideMaps Go.WideElems Go.RowKit
open Go.Proofs.Ythlhlgomnjeenab.Rm Go.Proofs.Ythlhlgomnjeenab.PImageSame Go.Proofs.YthlhlgomnjeenabW.PrintWords
set_option linter.unusedVariables false
theorem own : ownKnob Try.prog.godebug = none := by kernel_rfl
theorem laidOut : laidOutB Try.prog = true := by kernel_rfl
set_option maxRecDepth 100000 in
theorem lifted (os : Os) (started : os.Started) (H : Type) (enc : TypeId × Value → H) :
    ReturnsInHanded {} Try.checked os 3 .any (Rows.imageSameSpec.pre6 enc Try.prog Try.f3 Rows.imageSameRow.domain false) (Rows.imageSameSpec.post enc Try.prog Try.f3 false true false false) := by
  refine returnsInHanded_of_change_sized (C := Try.checked) own started (by kernel_rfl) Try.func3
    (ChangeSpec.witness6 (enc := enc) (C := Try.checked) false ⟨#[], #[.agg #[.int .i64 0, .slice none 0 0, .slice none 0 0, .slice none 0 0], .agg #[.int .i64 0, .slice none 0 0, .slice none 0 0, .slice none 0 0]], []⟩ 8 (by kernel_rfl) (by kernel_rfl) (by kernel_rfl) (by kernel_rfl)) ?_
  intro W base args ds gs before hval0 hW hcnd hsz0 _
  have hsz : (DataW.weightsEach Try.prog (Try.f3.params.toList ++ Rows.imageSameSpec.plain.varTypes Try.prog) (ds ++ gs)).all (· ≤ reachBytes) = true := hsz0
  have hval : ∀ (j : Nat) t v, Try.f3.params[j]? = some t → args[j]? = some v → Value.okWide Try.prog W .any base t v := hval0
  have hW' := hW
  obtain ⟨p, q, hA0, hV, rfl, hfz, hnd⟩ := hW
  have hA : DataW.TrodAll enc Try.prog W 0 (fun _ => true) true Try.f3.params.toList args.toList ds p := hA0
  rw [Try.params3] at hA hval hsz
  obtain ⟨v0, vs0, d0, ds0, p0, q0, hargs, rfl, rfl, h0, r0⟩ := trodAll_cons hA
  obtain ⟨v1, vs1, d1, ds1, p1, q1, rfl, rfl, rfl, h1, r1⟩ := trodAll_cons r0
  obtain ⟨rfl, rfl, rfl⟩ := trodAll_nil r1
  obtain rfl : args = #[v0, v1] := by cases args; simp_all
  obtain ⟨rfl, rfl⟩ := trodVars_none hV
  obtain ⟨cs0, rfl, hcs0⟩ := okWide_struct Try.underlying26 (hval 0 26 v0 rfl rfl)
  obtain ⟨cs1, rfl, hcs1⟩ := okWide_struct Try.underlying26 (hval 1 26 v1 rfl rfl)
  have k0 := h0
  have k1 := h1
  have lt0 : ∀ x ∈ p0, x.block < W.heap.size := by obtain ⟨m, hm⟩ := k0; exact DataW.trod_lt m _ _ _ hm
  have lt1 : ∀ x ∈ p1, x.block < W.heap.size := by obtain ⟨m, hm⟩ := k1; exact DataW.trod_lt m _ _ _ hm
  obtain ⟨n0, hf0⟩ := h0
  obtain ⟨n1, hf1⟩ := h1
  have hw0 : ∀ n ∈ d0.weights Try.prog 26, n ≤ reachBytes := by
    intro n hn
    have := List.all_eq_true.1 hsz n (by simp [DataW.weightsEach, hn])
    simpa using this
  have hw1 : ∀ n ∈ d1.weights Try.prog 26, n ≤ reachBytes := by
    intro n hn
    have := List.all_eq_true.1 hsz n (by simp [DataW.weightsEach, hn])
    simpa using this
  obtain ⟨x, hx0, hB⟩ := Tod.open26 W H enc 0 (fun _ => true) true n0 cs0.toList (d0, p0) hf0 hw0
  obtain ⟨y, hy0, hC⟩ := Tod.open26 W H enc 0 (fun _ => true) true n1 cs1.toList (d1, p1) hf1 hw1
  obtain ⟨A1, c1, A2, c2, A3, c3, e0, l1, g1, l2, g2, l3, g3⟩ := Tod.k26_open hx0
  obtain ⟨B1, u1, B2, u2, B3, u3, e1, m1, q1, m2, q2, m3, q3⟩ := Tod.k26_open hy0
  obtain rfl : cs0 = #[.int .i64 x.f0, .slice A1 x.f1.length c1, .slice A2 x.f2.length c2, .slice A3 x.f3.length c3] := Array.ext' e0
  obtain rfl : cs1 = #[.int .i64 y.f0, .slice B1 y.f1.length u1, .slice B2 y.f2.length u2, .slice B3 y.f3.length u3] := Array.ext' e1
  obtain ⟨_, ⟨_, i1⟩, ⟨_, i2⟩, ⟨_, i3⟩⟩ := hB
  obtain ⟨_, ⟨_, j1⟩, ⟨_, j2⟩, ⟨_, j3⟩⟩ := hC
  clear hA0 hval0 hsz0 hsz
  refine (ImageSame_calls x.f0 y.f0 x.f1 y.f1 x.f2 y.f2 x.f3 y.f3 A1 c1 B1 u1 A2 c2 B2 u2 A3 c3 B3 u3 W g1 l1 q1 m1 g2 l2 q2 m2 g3 l3 q3 m3 (fun z hz => Tod.zS_of (i1 z hz)) (fun z hz => Tod.zM_of (i2 z hz)) (fun z hz => Tod.zG_of (i3 z hz)) (fun z hz => Tod.zS_of (j1 z hz)) (fun z hz => Tod.zM_of (j2 z hz)) (fun z hz => Tod.zG_of (j3 z hz))
    ⟨fun z hz => Tod.wS_of (i1 z hz), fun z hz => Tod.wM_of (i2 z hz)⟩ ⟨fun z hz => Tod.wS_of (j1 z hz), fun z hz => Tod.wM_of (j2 z hz)⟩).mono fun e W' ⟨he, bel⟩ => ?_
  subst he
  exact ⟨_, rfl, _, _, _, [], _, [], hW', trodAll_mk1 (shut_bool Try.underlying4 _), (trodAll_cons_mk (Below.trod laidOut (by kernel_rfl) (of_decide_eq_true (by kernel_rfl)) k0 bel lt0) (trodAll_cons_mk (Below.trod laidOut (by kernel_rfl) (of_decide_eq_true (by kernel_rfl)) k1 bel lt1) trodAll_mk0)), rfl, bel.frame _, fun h => by cases h⟩
theorem over : Rows.imageSameRow.holds Try.pinned (OpenSpec.ofChange Rows.imageSameSpec) :=
  OpenClaim.holds_of_wide 3 Try.f3 rfl rfl rfl rfl rfl rfl rfl ⟨rfl, rfl, rfl, rfl, rfl⟩ rfl rfl rfl rfl rfl (by kernel_rfl) Try.func3 (by kernel_rfl)
    (of_decide_eq_true (by kernel_rfl)) (by unfold Func.isWrapper; first | (rw [if_pos (by decide +kernel)]; kernel_rfl) | (rw [if_neg (by decide +kernel)]; exact ⟨rfl, rfl⟩))
    (fun os started H enc _ => lifted os started H enc)
theorem proved : Rows.ImageSameSaid := over
#print axioms proved
end Go.Proofs.Ythlhlgomnjeenab.imageSame
namespace Go.Proofs.Ythlhlgomnjeenab
/-- The row, under a short name, for the claim. -/
theorem imageSame_holds : Rows.ImageSameSaid := imageSame.proved
end Go.Proofs.Ythlhlgomnjeenab
