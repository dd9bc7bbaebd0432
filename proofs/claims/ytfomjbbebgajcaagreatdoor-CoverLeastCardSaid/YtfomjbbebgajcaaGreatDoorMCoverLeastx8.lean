-- Printed by a program of this session's own (wip/mkprint.py): contracts of the functions that a law uses. Not trusted: Lean checks it.
import Derived.Test.YtfomjbbebgajcaaGreatDoorMCoverLeastx0
import Derived.Test.YtfomjbbebgajcaaGreatDoorMCoverLeastx7
namespace Go.Proofs.YtfomjbbebgajcaaGreatDoor.MCoverLeast
open Go.RowKit Go.Proofs.YtfomjbbebgajcaaGreatDoor.Giv Go.Proofs.YtfomjbbebgajcaaGreatDoorW.PrintWords Go.Proofs.YtfomjbbebgajcaaGreatDoorW.PrintLast Go.Proofs.YtfomjbbebgajcaaGreatDoorW.PrintMore
open Go.Proofs.YtfomjbbebgajcaaGreatDoorW.PrintWords renaming below_alloc → ba, below_drew1 → bd, pw_below_drewN → bn
open Go.Proofs.YtfomjbbebgajcaaGreatDoorW.PrintWords.Aside0 renaming mk → am
open Go.Proofs.YtfomjbbebgajcaaGreatDoorW.PrintWords.Kd renaming R_alloc → ra, R_drewN → rn, R_drew → rd
attribute [local go_sem] max2_int min2_int max_two min_two max_three min_three max_four min_four   -- for this text's walks alone
set_option linter.unusedVariables false
set_option linter.unusedSimpArgs false

/-! ### cover_levels: function 86 -/
def cover_levels.f (k : Nat) (a0 : ByteArray) : Option (List ByteArray × Bool) := (topic_Shared.f k a0).bind fun bt137 => (if bt137.2.2 = true then (some (([] : List ByteArray), false)) else ((topic_CheckFilter.f a0).bind fun t140 => (if t140 = 0 then ((topic_Levels.f a0).bind fun t141 => (some (t141, true))) else (some (([] : List ByteArray), false)))))
set_option maxHeartbeats 8000000 in
set_option maxRecDepth 100000 in
theorem cover_levels.calls (k : Nat) (a0 : ByteArray) (r1 : List ByteArray) (r2 : Bool) (w : World) (h : cover_levels.f k a0 = some (r1, r2)) :
  Calls Tryz.prog 86 #[.string a0] w fun e w' => ∃ v0_ : Value, e = .returned (.tuple #[v0_, .bool r2]) ∧ Kd.R Kd.string 9 w' w.heap.size (fun _ => True) v0_ r1 ∧ Below w.heap.size w w' := by
 have HB := am (Below.refl w.heap.size w)
 have H : ((topic_Shared.f k a0).bind fun bt137 => (if bt137.2.2 = true then (some (([] : List ByteArray), false)) else ((topic_CheckFilter.f a0).bind fun t140 => (if t140 = 0 then ((topic_Levels.f a0).bind fun t141 => (some (t141, true))) else (some (([] : List ByteArray), false)))))) = some (r1, r2) := h
 clear h
 replace H := Option.bind_eq_some_iff.mp H
 obtain ⟨⟨t137, t138, t139⟩, A20, H⟩ := H
 try dsimp only at H
 have A2 := am A20
 clear A20
 by_cases c3 : t139 = true
 ·subst c3
  rw [if_pos rfl] at H
  simp only [Option.some.injEq, Prod.mk.injEq] at H
  obtain ⟨rfl, rfl⟩ := H
  go_enter Tryz.func86, Tryz.ntmps86
  go_wp2_with (first | ((with_reducible refine gate_callee (f := 148) rfl ?_); refine goesL_ (some 9) rfl rfl Tryz.func148 (by kernel_rfl) rfl #[.string a0] rfl (by (try simp only [List.map_toArray, List.map_cons, List.map_nil]); first | done | rfl | (simp only [List.length_drop, List.length_take]; rfl)) ?_; (with_reducible refine (topic_Shared.calls k a0 t137 t138 true _ A2.out).mono ?_); rintro e w4 ⟨rfl, hb⟩; refine ⟨_, rfl, ?_⟩; have n0_ := am (below_step (by repeat (with_reducible first | exact HB.out | apply ba | apply bn | apply bd)) hb); clear HB; have HB := n0_; clear n0_; (try clear hb)))
  go_ret2
  exact ⟨_, by first | rfl | (simp [*] <;> rfl), by first | exact Kd.R_nil _ _ _ _ _ | exact Kd.N_nil _ _ _ _ _ | exact Kd.V_nil _ _ _ _ _ | exact Kd.Q_nil _ _ _ _ _ | exact Kd.S_nil _ _ _ _ _, by repeat (with_reducible first | exact HB.out | apply ba | apply bn | apply bd)⟩
 ·replace c3 := Bool.eq_false_iff.mpr c3
  subst c3
  rw [if_neg (show ¬ (false = true) by decide)] at H
  replace H := Option.bind_eq_some_iff.mp H
  obtain ⟨t140, A50, H⟩ := H
  try dsimp only at H
  have A5 := am A50
  clear A50
  by_cases c6 : t140 = 0
  ·rw [if_pos c6] at H
   have c6b0 : (t140 == 0) = true := beq_iff_eq.mpr c6
   have c6b1 : (t140 != 0) = false := bne_eq_false_iff_eq.mpr c6
   clear c6
   replace H := Option.bind_eq_some_iff.mp H
   obtain ⟨t141, A70, H⟩ := H
   try dsimp only at H
   have A7 := am A70
   clear A70
   simp only [Option.some.injEq, Prod.mk.injEq] at H
   obtain ⟨rfl, rfl⟩ := H
   go_enter Tryz.func86, Tryz.ntmps86
   go_wp2_with (first | ((with_reducible refine gate_callee (f := 148) rfl ?_); refine goesL_ (some 9) rfl rfl Tryz.func148 (by kernel_rfl) rfl #[.string a0] rfl (by (try simp only [List.map_toArray, List.map_cons, List.map_nil]); first | done | rfl | (simp only [List.length_drop, List.length_take]; rfl)) ?_; (with_reducible refine (topic_Shared.calls k a0 t137 t138 false _ A2.out).mono ?_); rintro e w8 ⟨rfl, hb⟩; refine ⟨_, rfl, ?_⟩; have n0_ := am (below_step (by repeat (with_reducible first | exact HB.out | apply ba | apply bn | apply bd)) hb); clear HB; have HB := n0_; clear n0_; (try clear hb)) | (go_at_call 149; (with_reducible refine (topic_CheckFilter.calls a0 t140 _ A5.out).mono ?_); rintro e w9 ⟨rfl, hb⟩; have n0_ := am (below_step (by repeat (with_reducible first | exact HB.out | apply ba | apply bn | apply bd)) hb); clear HB; have HB := n0_; clear n0_; (try clear hb)) | ((with_reducible refine gate_callee (f := 150) rfl ?_); refine goesL_ (some 20) rfl rfl Tryz.func150 (by kernel_rfl) rfl #[.string a0] rfl (by (try simp only [List.map_toArray, List.map_cons, List.map_nil]); first | done | rfl | (simp only [List.length_drop, List.length_take]; rfl)) ?_; (with_reducible refine (topic_Levels.calls a0 t141 _ A7.out).mono ?_); rintro e w10 ⟨v142, rfl, ho0, hb⟩; refine ⟨_, rfl, ?_⟩; have n0_ := am (Kd.R_lower ho0 (below_size (by repeat (with_reducible first | exact HB.out | apply ba | apply bn | apply bd)))); have n1_ := am (below_step (by repeat (with_reducible first | exact HB.out | apply ba | apply bn | apply bd)) hb); clear HB; have HO143 := n0_; have HB := n1_; clear n0_ n1_; (try clear hb); (try clear ho0)))
   go_ret2
   exact ⟨_, by first | rfl | (simp [*] <;> rfl), by (with_reducible repeat (first | apply ra | apply rn | apply rd)); exact HO143.out, by repeat (with_reducible first | exact HB.out | apply ba | apply bn | apply bd)⟩
  ·rw [if_neg c6] at H
   have c6b0 : (t140 == 0) = false := beq_eq_false_iff_ne.mpr c6
   have c6b1 : (t140 != 0) = true := bne_iff_ne.mpr c6
   simp only [Option.some.injEq, Prod.mk.injEq] at H
   obtain ⟨rfl, rfl⟩ := H
   go_enter Tryz.func86, Tryz.ntmps86
   go_wp2_with (first | ((with_reducible refine gate_callee (f := 148) rfl ?_); refine goesL_ (some 9) rfl rfl Tryz.func148 (by kernel_rfl) rfl #[.string a0] rfl (by (try simp only [List.map_toArray, List.map_cons, List.map_nil]); first | done | rfl | (simp only [List.length_drop, List.length_take]; rfl)) ?_; (with_reducible refine (topic_Shared.calls k a0 t137 t138 false _ A2.out).mono ?_); rintro e w11 ⟨rfl, hb⟩; refine ⟨_, rfl, ?_⟩; have n0_ := am (below_step (by repeat (with_reducible first | exact HB.out | apply ba | apply bn | apply bd)) hb); clear HB; have HB := n0_; clear n0_; (try clear hb)) | (go_at_call 149; (with_reducible refine (topic_CheckFilter.calls a0 t140 _ A5.out).mono ?_); rintro e w12 ⟨rfl, hb⟩; have n0_ := am (below_step (by repeat (with_reducible first | exact HB.out | apply ba | apply bn | apply bd)) hb); clear HB; have HB := n0_; clear n0_; (try clear hb)))
   go_ret2
   exact ⟨_, by first | rfl | (simp [*] <;> rfl), by first | exact Kd.R_nil _ _ _ _ _ | exact Kd.N_nil _ _ _ _ _ | exact Kd.V_nil _ _ _ _ _ | exact Kd.Q_nil _ _ _ _ _ | exact Kd.S_nil _ _ _ _ _, by repeat (with_reducible first | exact HB.out | apply ba | apply bn | apply bd)⟩

/-! ### cover_sign: function 87 -/
def cover_sign.f (a0 : ByteArray) : Option (Bool) := if a0.toList = ([43] : List UInt8) then (some true) else (some (a0.toList == ([35] : List UInt8)))
set_option maxHeartbeats 8000000 in
set_option maxRecDepth 100000 in
theorem cover_sign.calls (a0 : ByteArray) (r : Bool) (w : World) (h : cover_sign.f a0 = some r) :
  Calls Tryz.prog 87 #[.string a0] w fun e w' => e = .returned (.bool r) ∧ Drawn0 w w' := by
 have H : (if a0.toList = ([43] : List UInt8) then (some true) else (some (a0.toList == ([35] : List UInt8)))) = some r := h
 clear h
 by_cases c2 : a0.toList = ([43] : List UInt8)
 ·rw [if_pos c2] at H
  have c2b0 : (a0.toList == ([43] : List UInt8)) = true := beq_iff_eq.mpr c2
  have c2b1 : (a0.toList != ([43] : List UInt8)) = false := bne_eq_false_iff_eq.mpr c2
  clear c2
  obtain rfl := Option.some.inj H
  go_enter Tryz.func87, Tryz.ntmps87
  go_wp2
  go_ret
  exact ⟨by first | rfl | (simp; done) | (simp [*]; done), by repeat (first | exact Drawn0.refl _ | apply Drawn0.step)⟩
 ·rw [if_neg c2] at H
  have c2b0 : (a0.toList == ([43] : List UInt8)) = false := beq_eq_false_iff_ne.mpr c2
  have c2b1 : (a0.toList != ([43] : List UInt8)) = true := bne_iff_ne.mpr c2
  obtain rfl := Option.some.inj H
  go_enter Tryz.func87, Tryz.ntmps87
  go_wp2
  go_ret
  exact ⟨by first | rfl | (simp; done) | (simp [*]; done), by repeat (first | exact Drawn0.refl _ | apply Drawn0.step)⟩

/-! ### cover_dollar: function 88 -/
def cover_dollar.f (a0 : ByteArray) : Option (Bool) := (strings_HasPrefix.f a0 (⟨#[36]⟩ : ByteArray)).bind fun t144 => (some t144)
set_option maxHeartbeats 8000000 in
set_option maxRecDepth 100000 in
theorem cover_dollar.calls (a0 : ByteArray) (r : Bool) (w : World) (h : cover_dollar.f a0 = some r) :
  Calls Tryz.prog 88 #[.string a0] w fun e w' => e = .returned (.bool r) ∧ Drawn0 w w' := by
 have H : ((strings_HasPrefix.f a0 (⟨#[36]⟩ : ByteArray)).bind fun t144 => (some t144)) = some r := h
 clear h
 replace H := Option.bind_eq_some_iff.mp H
 obtain ⟨t144, A20, H⟩ := H
 try dsimp only at H
 have A2 := am A20
 clear A20
 obtain rfl := Option.some.inj H
 go_enter Tryz.func88, Tryz.ntmps88
 go_wp2_with (first | ((with_reducible refine gate_callee (f := 151) rfl ?_); refine goesL_ (some 4) rfl rfl Tryz.func151 (by kernel_rfl) rfl #[.string a0, .string (⟨#[36]⟩ : ByteArray)] rfl (by (try simp only [List.map_toArray, List.map_cons, List.map_nil]); first | done | rfl | (simp only [List.length_drop, List.length_take]; rfl)) ?_; (with_reducible refine (strings_HasPrefix.calls a0 (⟨#[36]⟩ : ByteArray) t144 _ A2.out).mono ?_); rintro e w' ⟨rfl, ⟨nd, rfl⟩⟩; refine ⟨_, rfl, ?_⟩))
 go_ret
 exact ⟨by first | rfl | (simp; done) | (simp [*]; done), by repeat (first | exact Drawn0.refl _ | apply Drawn0.step)⟩

/-! ### cover_answer: function 89 -/
def cover_answer.f (a0 : ByteArray) (a1 : Bool) : Option (ByteArray × Bool) := if a1 = true then (some (a0, true)) else (some ((⟨#[]⟩ : ByteArray), false))
set_option maxHeartbeats 8000000 in
set_option maxRecDepth 100000 in
theorem cover_answer.calls (a0 : ByteArray) (a1 : Bool) (r1 : ByteArray) (r2 : Bool) (w : World) (h : cover_answer.f a0 a1 = some (r1, r2)) :
  Calls Tryz.prog 89 #[.string a0, .bool a1] w fun e w' => e = .returned (.tuple #[.string r1, .bool r2]) ∧ Drawn0 w w' := by
 have H : (if a1 = true then (some (a0, true)) else (some ((⟨#[]⟩ : ByteArray), false))) = some (r1, r2) := h
 clear h
 by_cases c3 : a1 = true
 ·subst c3
  rw [if_pos rfl] at H
  simp only [Option.some.injEq, Prod.mk.injEq] at H
  obtain ⟨rfl, rfl⟩ := H
  go_enter Tryz.func89, Tryz.ntmps89
  go_wp2
  go_ret2
  exact ⟨by first | rfl | (simp; done) | (simp [*]; done), by repeat (first | exact Drawn0.refl _ | apply Drawn0.step)⟩
 ·replace c3 := Bool.eq_false_iff.mpr c3
  subst c3
  rw [if_neg (show ¬ (false = true) by decide)] at H
  simp only [Option.some.injEq, Prod.mk.injEq] at H
  obtain ⟨rfl, rfl⟩ := H
  go_enter Tryz.func89, Tryz.ntmps89
  go_wp2
  go_ret2
  exact ⟨by first | rfl | (simp; done) | (simp [*]; done), by repeat (first | exact Drawn0.refl _ | apply Drawn0.step)⟩

end Go.Proofs.YtfomjbbebgajcaaGreatDoor.MCoverLeast
