-- Printed by a program of this session's own (wip/mkprint.py): contracts of the functions that a law uses. Not trusted: Lean checks it.
import Derived.Test.YtamelcgamlcliaaLCoverTwox0
import Derived.Test.YtamelcgamlcliaaLCoverTwox4
namespace Go.Proofs.Ytamelcgamlcliaa.LCoverTwo
open Go.RowKit Go.Proofs.Ytamelcgamlcliaa.Giv Go.Proofs.Ytamelcgamlcliaa.MCoverTopics Go.Proofs.YtamelcgamlcliaaW.PrintWords Go.Proofs.YtamelcgamlcliaaW.PrintLast Go.Proofs.YtamelcgamlcliaaW.PrintMore
open Go.Proofs.YtamelcgamlcliaaW.PrintWords renaming below_alloc → ba, below_drew1 → bd, pw_below_drewN → bn
open Go.Proofs.YtamelcgamlcliaaW.PrintWords.Aside0 renaming mk → am
open Go.Proofs.YtamelcgamlcliaaW.PrintWords.Kd renaming R_alloc → ra, R_drewN → rn, R_drew → rd
attribute [local go_sem] max2_int min2_int max_two min_two max_three min_three max_four min_four   -- for this text's walks alone
set_option linter.unusedVariables false
set_option linter.unusedSimpArgs false

/-! ### crierref6_shows: function 36 -/
def crierref6_shows.f (k : Nat) (l0 : List ByteArray) (a1 : ByteArray) (a2 : ByteArray) : Option (ByteArray × Bool) := (crierref6_right.f k l0).bind fun bt230 => (if bt230.2 = true then ((crierref5_Match.f k a1 bt230.1).bind fun t232 => (if t232 = true then ((crierref5_Match.f k a2 bt230.1).bind fun t233 => (if t233 = true then (some ((⟨#[]⟩ : ByteArray), false)) else (some (bt230.1, true)))) else (some ((⟨#[]⟩ : ByteArray), false)))) else (some ((⟨#[]⟩ : ByteArray), false)))
set_option maxHeartbeats 8000000 in
set_option maxRecDepth 100000 in
theorem crierref6_shows.calls (k : Nat) (A0 : Option Addr) (c0 : Nat) (l0 : List ByteArray) (a1 : ByteArray) (a2 : ByteArray) (r1 : ByteArray) (r2 : Bool) (w : World) (hr0 : Kd.C Kd.string w A0 l0.length l0) (hc0 : l0.length ≤ c0) (h : crierref6_shows.f k l0 a1 a2 = some (r1, r2)) :
  Calls Try.prog 36 #[.slice A0 l0.length c0, .string a1, .string a2] w fun e w' => e = .returned (.tuple #[.string r1, .bool r2]) ∧ Below w.heap.size w w' := by
 have HR0 := am hr0
 have HC0 := am hc0
 clear hr0 hc0
 have HB := am (Below.refl w.heap.size w)
 have H : ((crierref6_right.f k l0).bind fun bt230 => (if bt230.2 = true then ((crierref5_Match.f k a1 bt230.1).bind fun t232 => (if t232 = true then ((crierref5_Match.f k a2 bt230.1).bind fun t233 => (if t233 = true then (some ((⟨#[]⟩ : ByteArray), false)) else (some (bt230.1, true)))) else (some ((⟨#[]⟩ : ByteArray), false)))) else (some ((⟨#[]⟩ : ByteArray), false)))) = some (r1, r2) := h
 clear h
 replace H := Option.bind_eq_some_iff.mp H
 obtain ⟨⟨t230, t231⟩, A40, H⟩ := H
 try dsimp only at H
 have A4 := am A40
 clear A40
 by_cases c5 : t231 = true
 ·subst c5
  rw [if_pos rfl] at H
  replace H := Option.bind_eq_some_iff.mp H
  obtain ⟨t232, A60, H⟩ := H
  try dsimp only at H
  have A6 := am A60
  clear A60
  by_cases c7 : t232 = true
  ·subst c7
   rw [if_pos rfl] at H
   replace H := Option.bind_eq_some_iff.mp H
   obtain ⟨t233, A80, H⟩ := H
   try dsimp only at H
   have A8 := am A80
   clear A80
   by_cases c9 : t233 = true
   ·subst c9
    rw [if_pos rfl] at H
    simp only [Option.some.injEq, Prod.mk.injEq] at H
    obtain ⟨rfl, rfl⟩ := H
    go_enter Try.func36, Try.ntmps36
    go_wp2_with (first | ((with_reducible refine gate_callee (f := 47) rfl ?_); refine goesL_ (some 12) rfl rfl Try.func47 (by kernel_rfl) rfl #[.slice A0 l0.length c0] rfl (by (try simp only [List.map_toArray, List.map_cons, List.map_nil]); first | done | rfl) ?_; (with_reducible refine (crierref6_right.calls k _ _ l0 t230 true _ ?side1 ?side2 A4.out).mono ?_); (case side1 => repeat (first | exact HR0.out | (with_reducible refine Kd.C_alloc ?_ _) | (with_reducible refine Kd.C_drewN ?_ _) | (with_reducible refine Kd.C_drew ?_))); (case side2 => exact HC0.out); rintro e w10 ⟨rfl, hb⟩; refine ⟨_, rfl, ?_⟩; have n0_ := am (below_step (by repeat (with_reducible first | exact HB.out | apply ba | apply bn | apply bd)) hb); clear HB; have HB := n0_; clear n0_; (try clear hb)) | (go_at_call 9; (with_reducible refine (crierref5_Match.calls k a1 t230 true _ A6.out).mono ?_); rintro e w11 ⟨rfl, hb⟩; have n0_ := am (below_step (by repeat (with_reducible first | exact HB.out | apply ba | apply bn | apply bd)) hb); clear HB; have HB := n0_; clear n0_; (try clear hb)) | (go_at_call 9; (with_reducible refine (crierref5_Match.calls k a2 t230 true _ A8.out).mono ?_); rintro e w12 ⟨rfl, hb⟩; have n0_ := am (below_step (by repeat (with_reducible first | exact HB.out | apply ba | apply bn | apply bd)) hb); clear HB; have HB := n0_; clear n0_; (try clear hb)))
    go_ret2
    exact ⟨by first | rfl | (simp [*] <;> rfl), by repeat (with_reducible first | exact HB.out | apply ba | apply bn | apply bd)⟩
   ·replace c9 := Bool.eq_false_iff.mpr c9
    subst c9
    rw [if_neg (show ¬ (false = true) by decide)] at H
    simp only [Option.some.injEq, Prod.mk.injEq] at H
    obtain ⟨rfl, rfl⟩ := H
    go_enter Try.func36, Try.ntmps36
    go_wp2_with (first | ((with_reducible refine gate_callee (f := 47) rfl ?_); refine goesL_ (some 12) rfl rfl Try.func47 (by kernel_rfl) rfl #[.slice A0 l0.length c0] rfl (by (try simp only [List.map_toArray, List.map_cons, List.map_nil]); first | done | rfl) ?_; (with_reducible refine (crierref6_right.calls k _ _ l0 t230 true _ ?side1 ?side2 A4.out).mono ?_); (case side1 => repeat (first | exact HR0.out | (with_reducible refine Kd.C_alloc ?_ _) | (with_reducible refine Kd.C_drewN ?_ _) | (with_reducible refine Kd.C_drew ?_))); (case side2 => exact HC0.out); rintro e w13 ⟨rfl, hb⟩; refine ⟨_, rfl, ?_⟩; have n0_ := am (below_step (by repeat (with_reducible first | exact HB.out | apply ba | apply bn | apply bd)) hb); clear HB; have HB := n0_; clear n0_; (try clear hb)) | (go_at_call 9; (with_reducible refine (crierref5_Match.calls k a1 t230 true _ A6.out).mono ?_); rintro e w14 ⟨rfl, hb⟩; have n0_ := am (below_step (by repeat (with_reducible first | exact HB.out | apply ba | apply bn | apply bd)) hb); clear HB; have HB := n0_; clear n0_; (try clear hb)) | (go_at_call 9; (with_reducible refine (crierref5_Match.calls k a2 t230 false _ A8.out).mono ?_); rintro e w15 ⟨rfl, hb⟩; have n0_ := am (below_step (by repeat (with_reducible first | exact HB.out | apply ba | apply bn | apply bd)) hb); clear HB; have HB := n0_; clear n0_; (try clear hb)))
    go_ret2
    exact ⟨by first | rfl | (simp [*] <;> rfl), by repeat (with_reducible first | exact HB.out | apply ba | apply bn | apply bd)⟩
  ·replace c7 := Bool.eq_false_iff.mpr c7
   subst c7
   rw [if_neg (show ¬ (false = true) by decide)] at H
   simp only [Option.some.injEq, Prod.mk.injEq] at H
   obtain ⟨rfl, rfl⟩ := H
   go_enter Try.func36, Try.ntmps36
   go_wp2_with (first | ((with_reducible refine gate_callee (f := 47) rfl ?_); refine goesL_ (some 12) rfl rfl Try.func47 (by kernel_rfl) rfl #[.slice A0 l0.length c0] rfl (by (try simp only [List.map_toArray, List.map_cons, List.map_nil]); first | done | rfl) ?_; (with_reducible refine (crierref6_right.calls k _ _ l0 t230 true _ ?side1 ?side2 A4.out).mono ?_); (case side1 => repeat (first | exact HR0.out | (with_reducible refine Kd.C_alloc ?_ _) | (with_reducible refine Kd.C_drewN ?_ _) | (with_reducible refine Kd.C_drew ?_))); (case side2 => exact HC0.out); rintro e w16 ⟨rfl, hb⟩; refine ⟨_, rfl, ?_⟩; have n0_ := am (below_step (by repeat (with_reducible first | exact HB.out | apply ba | apply bn | apply bd)) hb); clear HB; have HB := n0_; clear n0_; (try clear hb)) | (go_at_call 9; (with_reducible refine (crierref5_Match.calls k a1 t230 false _ A6.out).mono ?_); rintro e w17 ⟨rfl, hb⟩; have n0_ := am (below_step (by repeat (with_reducible first | exact HB.out | apply ba | apply bn | apply bd)) hb); clear HB; have HB := n0_; clear n0_; (try clear hb)))
   go_ret2
   exact ⟨by first | rfl | (simp [*] <;> rfl), by repeat (with_reducible first | exact HB.out | apply ba | apply bn | apply bd)⟩
 ·replace c5 := Bool.eq_false_iff.mpr c5
  subst c5
  rw [if_neg (show ¬ (false = true) by decide)] at H
  simp only [Option.some.injEq, Prod.mk.injEq] at H
  obtain ⟨rfl, rfl⟩ := H
  go_enter Try.func36, Try.ntmps36
  go_wp2_with (first | ((with_reducible refine gate_callee (f := 47) rfl ?_); refine goesL_ (some 12) rfl rfl Try.func47 (by kernel_rfl) rfl #[.slice A0 l0.length c0] rfl (by (try simp only [List.map_toArray, List.map_cons, List.map_nil]); first | done | rfl) ?_; (with_reducible refine (crierref6_right.calls k _ _ l0 t230 false _ ?side1 ?side2 A4.out).mono ?_); (case side1 => repeat (first | exact HR0.out | (with_reducible refine Kd.C_alloc ?_ _) | (with_reducible refine Kd.C_drewN ?_ _) | (with_reducible refine Kd.C_drew ?_))); (case side2 => exact HC0.out); rintro e w18 ⟨rfl, hb⟩; refine ⟨_, rfl, ?_⟩; have n0_ := am (below_step (by repeat (with_reducible first | exact HB.out | apply ba | apply bn | apply bd)) hb); clear HB; have HB := n0_; clear n0_; (try clear hb)))
  go_ret2
  exact ⟨by first | rfl | (simp [*] <;> rfl), by repeat (with_reducible first | exact HB.out | apply ba | apply bn | apply bd)⟩

end Go.Proofs.Ytamelcgamlcliaa.LCoverTwo
