/- What cover.Within tells. -/
import Derived.Test.YtamelcgamlcliaaOut
namespace Go.Proofs.Ytamelcgamlcliaa.Giv
open Go.RowKit Go.Proofs.YtamelcgamlcliaaW.PrintWords Go.Proofs.YtamelcgamlcliaaW.PrintLast Go.Proofs.YtamelcgamlcliaaW.PrintMore Go.Proofs.Ytamelcgamlcliaa.MCoverTopics
set_option linter.unusedVariables false
set_option linter.unusedSimpArgs false

def cover_Within.f (a0 : ByteArray) (a1 : ByteArray) : Option Bool := if a0.size ≤ big ∧ a1.size ≤ big then some (Cr.within (Cr.bl a0) (Cr.bl a1)) else none
set_option maxHeartbeats 8000000 in
set_option maxRecDepth 100000 in
theorem cover_Within.calls (a0 : ByteArray) (a1 : ByteArray) (r : Bool) (w : World) (h : cover_Within.f a0 a1 = some r) :
  Calls Try.prog 12 #[.string a0, .string a1] w fun e w' => e = .returned (.bool r) ∧ Below w.heap.size w w' := by
 unfold cover_Within.f at h
 have hs : a0.size ≤ big ∧ a1.size ≤ big := by
  split at h
  ·assumption
  ·cases h
 rw [if_pos hs] at h
 obtain ⟨o, ho⟩ : ∃ o, Cr.outside (Cr.bl a0) (Cr.bl a1) = o := ⟨_, rfl⟩
 obtain ⟨s, ok, hsk⟩ : ∃ s ok, ans o = (s, ok) := ⟨_, _, rfl⟩
 have hf : cover_Outside.f a0 a1 = some (s, ok) := by
  unfold cover_Outside.f
  rw [if_pos hs, ho, hsk]
 have hr : r = !ok := by
  have := Option.some.inj h
  rw [← this]
  unfold Cr.within
  rw [ho]
  cases o with
  | none => simp [ans] at hsk; rw [hsk.2]; rfl
  | some x => simp [ans] at hsk; rw [hsk.2]; rfl
 subst hr
 have HF := Aside0.mk hf
 clear hf h hsk ho
 have HB0 := Aside0.mk (Below.refl w.heap.size w)
 go_enter Try.func12, Try.ntmps12
 go_wp2_with (go_at_call 10; (with_reducible refine (cover_Outside.calls a0 a1 s ok _ HF.out).mono ?_); rintro e w1 ⟨rfl, hb⟩; have HB1 := Aside0.mk hb; clear hb)
 go_ret
 exact ⟨by first | rfl | simp, by repeat (first | exact HB1.out | apply pw_below_drewN | apply below_drew1)⟩
end Go.Proofs.Ytamelcgamlcliaa.Giv
