/- CoverKeeps holds of every input: what any text of a list matches one that Least leaves matches, and of those that are left none lies within another one. -/
import Derived.Test.YtamelcgamlcliaaRows
import Derived.Test.YtamelcgamlcliaaPureCoverKeeps
import Derived.WalkKit
import Derived.ProofKit
import Derived.OpenShut
import Derived.ShutString
import Derived.ChangeOld
import Derived.Below
import Derived.SizedLaws
import Derived.SliceStrings
namespace Go.Proofs.Ytamelcgamlcliaa.coverKeeps
open Go.ChangeShapes Go.WideShapes Go.ChangeAt Go.RowKit
open Go.ChangeMaps (open_string shut_string)
open Go.Proofs.YtamelcgamlcliaaW.PrintWords (Kd.C_of_reads)
set_option linter.unusedVariables false
theorem own : ownKnob Try.prog.godebug = none := by kernel_rfl
theorem laidOut : laidOutB Try.prog = true := by kernel_rfl
/-- a slice's texts lie in its cells -/
def IsStrs (w : World) (a : Option Addr) (len cap : Nat) (zs : List ByteArray) : Prop :=
  zs.length = len ∧ len ≤ cap ∧ (0 < len → ∃ x, a = some x ∧ ∀ i (h : i < zs.length), w.cell? (x.add i) = some (.string zs[i]))
theorem IsStrs.C {w : World} {a : Option Addr} {len cap : Nat} {zs : List ByteArray} (h : IsStrs w a len cap zs) (hb : len ≤ 140737488351232) : Go.Proofs.YtamelcgamlcliaaW.PrintWords.Kd.C Go.Proofs.YtamelcgamlcliaaW.PrintWords.Kd.string w a zs.length zs := by
  refine ⟨rfl, by rw [h.1]; omega, fun hn => ?_⟩
  obtain ⟨x, hx, hc⟩ := h.2.2 (by rw [← h.1]; exact hn)
  refine ⟨x, hx, fun j p hj => ?_⟩
  obtain ⟨hl, rfl⟩ := List.getElem?_eq_some_iff.1 hj
  refine ⟨[.string zs[j]], rfl, rfl, fun i u hu => ?_⟩
  have hi0 : i = 0 := by
    have := (List.getElem?_eq_some_iff.1 hu).1
    simp at this; exact this
  subst hi0
  simp at hu
  subst hu
  rw [show j * Go.Proofs.YtamelcgamlcliaaW.PrintWords.Kd.string.sz + 0 = j from Nat.mul_one j]
  exact hc j hl
theorem weightsAll_mem {H : Type} {P : Program} {e : TypeId} : ∀ {ds : List (DataW H)} {d : DataW H}, d ∈ ds → ∀ n ∈ d.weights P e, n ∈ DataW.weightsAll P e ds
  | d0 :: ds, d, hd, n, hn => by
    rw [DataW.weightsAll, List.mem_append]
    rcases List.mem_cons.1 hd with rfl | hd
    · exact .inl hn
    · exact .inr (weightsAll_mem hd n hn)
theorem sized_strs {H : Type} {enc : TypeId × Value → H} {P : Program} {W : World} {base : Nat} {spare : Nat → Bool} {held : Bool} {t e : TypeId} {a : Option Addr} {len cap : Nat} {d : DataW H} {ps : List MemPlace} {ts : List TypeId} {ds : List (DataW H)} {j : Nat}
    (hsz : (DataW.weightsEach P ts ds).all (· ≤ reachBytes) = true) (ht : ts[j]? = some t) (hd : ds[j]? = some d) (hu : P.underlying t = some (.slice e)) (he : P.underlying e = some .string) (hc : P.cellsOf e = 1) (hB : 1 ≤ P.bytesOf e)
    (h : DataW.Trod enc P W base spare held t (.slice a len cap) d ps) : ∃ zs, IsStrs W a len cap zs ∧ len ≤ 140737488351232 ∧ ∀ s ∈ zs, s.size ≤ 140737488351232 := by
  obtain ⟨fuel, hf⟩ := h
  rcases open_strings hu he hc hf with ⟨hcs, _⟩ | ⟨x, l, c, zs, hcs, _, hl, _, hz, hx, hcell, _⟩
  · simp [Value.cells] at hcs
    obtain ⟨rfl, rfl, rfl⟩ := hcs
    exact ⟨[], ⟨rfl, Nat.le_refl _, fun h => by simp at h⟩, by omega, fun s hs => by simp at hs⟩
  · simp [Value.cells] at hcs
    obtain ⟨rfl, rfl, rfl⟩ := hcs
    obtain ⟨hx, _⟩ := Prod.mk.inj hx
    subst hx
    have z := sized_slice hsz ht hd hu
    have hlz : len ≤ zs.length := by rw [hz]; split <;> omega
    have hsl : (zs.take len).length = len := by rw [List.length_take]; omega
    refine ⟨zs.take len, ⟨hsl, hl, fun _ => ⟨_, rfl, fun i h => ?_⟩⟩, ?_, fun s hs => ?_⟩
    · have h2 : i < zs.length := by omega
      have := hcell i h2
      rw [this, List.getElem_take, List.getD_eq_getElem?_getD, List.getElem?_eq_getElem h2]; rfl
    · have h1 : (strs (H := H) (zs.take len)).length = len := by unfold strs; rw [List.length_map]; exact hsl
      have h2 := Nat.le_trans (Nat.le_mul_of_pos_right ((strs (H := H) (zs.take len)).length + (strs (H := H) (zs.drop len)).length) hB) z
      unfold reachBytes at h2
      omega
    · have h1 : (DataW.lit (.string s.data.toList) : DataW H) ∈ strs (zs.take len) := by unfold strs; exact List.mem_map.2 ⟨s, hs, rfl⟩
      have h2 : s.data.toList.length ∈ (DataW.slice (strs (H := H) (zs.take len)) (strs (zs.drop len))).weights P t := by
        rw [DataW.weights, hu]
        refine List.mem_cons.2 (.inr (List.mem_append.2 (.inl (weightsAll_mem h1 _ ?_))))
        simp [DataW.weights]
      have h3 := List.all_eq_true.1 hsz _ (DataW.weights_mem_each ht hd _ h2)
      have h4 : s.data.toList.length = s.size := by rw [Array.length_toList]; rfl
      rw [h4] at h3
      unfold reachBytes at h3
      simpa using h3

set_option maxRecDepth 100000 in
theorem lifted (os : Os) (started : os.Started) (H : Type) (enc : TypeId × Value → H) :
    ReturnsInHanded {} Try.checked os 6 .any (Rows.coverKeepsSpec.pre6 enc Try.prog Try.f6 Rows.coverKeepsRow.domain false) (Rows.coverKeepsSpec.post enc Try.prog Try.f6 false true false false) := by
  refine returnsInHanded_of_change_sized (C := Try.checked) own started (by kernel_rfl) Try.func6
    (ChangeSpec.witness6 (enc := enc) (C := Try.checked) false ⟨#[], #[.slice none 0 0, .string ByteArray.empty], []⟩ 8 (by kernel_rfl) (by kernel_rfl) (by kernel_rfl) (by kernel_rfl)) ?_
  intro W base args ds gs before hval0 hW hcnd hsz0 _
  have hsz : (DataW.weightsEach Try.prog (Try.f6.params.toList ++ Rows.coverKeepsSpec.plain.varTypes Try.prog) (ds ++ gs)).all (· ≤ reachBytes) = true := hsz0
  have hval : ∀ (j : Nat) t v, Try.f6.params[j]? = some t → args[j]? = some v → Value.okWide Try.prog W .any base t v := hval0
  have hW' := hW
  obtain ⟨p, q, hA0, hV, rfl, hfz, hnd⟩ := hW
  have hA : DataW.TrodAll enc Try.prog W 0 (fun _ => true) true Try.f6.params.toList args.toList ds p := hA0
  rw [Try.params6] at hA hval hsz
  obtain ⟨v0, vs0, d0, ds0, p0, q0, hargs, rfl, rfl, h0, r0⟩ := trodAll_cons hA
  obtain ⟨v1, vs1, d1, ds1, p1, q1, rfl, rfl, rfl, h1, r1⟩ := trodAll_cons r0
  obtain ⟨rfl, rfl, rfl⟩ := trodAll_nil r1
  obtain rfl : args = #[v0, v1] := by cases args; simp_all
  obtain ⟨rfl, rfl⟩ := trodVars_none hV
  obtain ⟨a0, len0, cap0, rfl⟩ := okWide_slice Try.underlying27 (hval 0 27 v0 rfl rfl)
  have k0 := h0
  have lt0 : ∀ x ∈ p0, x.block < W.heap.size := by obtain ⟨m, hm⟩ := k0; exact DataW.trod_lt m _ _ _ hm
  obtain ⟨z0, w0, y0, x0⟩ := sized_strs hsz (j := 0) (t := 27) rfl rfl Try.underlying27 Try.underlying9 (by kernel_rfl) (of_decide_eq_true (by kernel_rfl)) h0
  obtain ⟨a1, rfl, rfl, rfl, y1⟩ := open_string Try.underlying9 (hval 1 9 v1 rfl rfl) h1
  have w1 : a1.size ≤ 140737488351232 := by
    have z := sized_string hsz (j := 1) (t := 9) rfl rfl
    rw [Array.length_toList] at z
    exact z
  clear hA0 hval0 hsz0 hsz
  obtain ⟨k, hk⟩ := Pure.CoverKeeps z0 a1 (by rw [w0.1]; exact y0) x0 w1
  have hlen := w0.1
  subst hlen
  refine (LCoverKeeps.crierlaw6_CoverKeeps.calls k a0 cap0 z0 a1 true W (w0.C y0) w0.2.1 hk).mono fun e W' ⟨he, bel⟩ => ?_
  subst he
  exact ⟨_, rfl, _, _, _, [], _, [], hW', trodAll_mk1 (shut_bool Try.underlying4 _), (trodAll_cons_mk (Below.trod laidOut (by kernel_rfl) (of_decide_eq_true (by kernel_rfl)) k0 bel lt0) (trodAll_cons_mk (shut_string Try.underlying9 y1) trodAll_mk0)), rfl, bel.frame _, fun h => by cases h⟩
theorem over : Rows.coverKeepsRow.holds Try.pinned (OpenSpec.ofChange Rows.coverKeepsSpec) :=
  OpenClaim.holds_of_wide 6 Try.f6 rfl rfl rfl rfl rfl rfl rfl ⟨rfl, rfl, rfl, rfl, rfl⟩ rfl rfl rfl rfl rfl (by kernel_rfl) Try.func6 (by kernel_rfl)
    (of_decide_eq_true (by kernel_rfl)) (by unfold Func.isWrapper; first | (rw [if_pos (by decide +kernel)]; kernel_rfl) | (rw [if_neg (by decide +kernel)]; exact ⟨rfl, rfl⟩))
    (fun os started H enc _ => lifted os started H enc)
theorem proved : Rows.CoverKeepsSaid := over
#print axioms proved
end Go.Proofs.Ytamelcgamlcliaa.coverKeeps
namespace Go.Proofs.Ytamelcgamlcliaa
/-- The row, under a short name, for the claim. -/
theorem coverKeeps_holds : Rows.CoverKeepsSaid := coverKeeps.proved
end Go.Proofs.Ytamelcgamlcliaa
