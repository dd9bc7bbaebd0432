-- Printed by a program of this session's own (wip/mkprint.py): contracts of the functions that a law uses. Not trusted: Lean checks it.
import Derived.Test.YtamelcgamlcliaaLCoverTwox0
import Derived.Test.YtamelcgamlcliaaLCoverTwox4
import Derived.Test.YtamelcgamlcliaaLCoverTwox6
import Derived.Test.YtamelcgamlcliaaLCoverTwox8
namespace Go.Proofs.Ytamelcgamlcliaa.LCoverTwo
open Go.RowKit Go.Proofs.Ytamelcgamlcliaa.Giv Go.Proofs.Ytamelcgamlcliaa.MCoverTopics Go.Proofs.YtamelcgamlcliaaW.PrintWords Go.Proofs.YtamelcgamlcliaaW.PrintLast Go.Proofs.YtamelcgamlcliaaW.PrintMore
open Go.Proofs.YtamelcgamlcliaaW.PrintWords renaming below_alloc → ba, below_drew1 → bd, pw_below_drewN → bn
open Go.Proofs.YtamelcgamlcliaaW.PrintWords.Aside0 renaming mk → am
open Go.Proofs.YtamelcgamlcliaaW.PrintWords.Kd renaming R_alloc → ra, R_drewN → rn, R_drew → rd
attribute [local go_sem] max2_int min2_int max_two min_two max_three min_three max_four min_four   -- for this text's walks alone
set_option linter.unusedVariables false
set_option linter.unusedSimpArgs false

/-! ### crierlaw6_CoverTwo: function 3 -/
mutual
def crierlaw6_CoverTwo.l0 : Nat → ByteArray → ByteArray → Int → Option (Bool)
 | 0, _, _, _ => none
 | k + 1, x0, x1, x5 => if x5 < 2 then ((cover_Meet.f k x0 x1).bind fun bt281 => ((crierref6_Meet.f k x0 x1).bind fun bt283 => (if (bt281.2 != bt283.2) = true then (crierlaw6_CoverTwo.j1 k x0 x1 x5 true) else (if bt281.2 = true then ((crierref5_Match.f k x0 bt281.1).bind fun t285 => (if t285 = true then ((crierref5_Match.f k x1 bt281.1).bind fun t286 => (if t286 = true then (crierlaw6_CoverTwo.j1 k x0 x1 x5 false) else (crierlaw6_CoverTwo.j1 k x0 x1 x5 true))) else (crierlaw6_CoverTwo.j1 k x0 x1 x5 true))) else (crierlaw6_CoverTwo.j1 k x0 x1 x5 (bt281.1.toList != ([] : List UInt8))))))) else (some true)
def crierlaw6_CoverTwo.j1 : Nat → ByteArray → ByteArray → Int → Bool → Option (Bool)
 | 0, _, _, _, _ => none
 | k + 1, x0, x1, x5, x61 => if x61 = true then (some false) else ((cover_Outside.f x0 x1).bind fun bt287 => ((crierref6_Outside.f k x0 x1).bind fun bt289 => (if (bt287.2 != bt289.2) = true then (some false) else (if bt287.2 = true then ((crierref5_Match.f k x0 bt287.1).bind fun t291 => (if t291 = true then ((crierref5_Match.f k x1 bt287.1).bind fun t292 => (if t292 = true then (some false) else ((cover_Within.f x0 x1).bind fun t293 => (if (t293 == bt287.2) = true then (some false) else (crierlaw6_CoverTwo.l0 k x1 x0 (wrap64 (x5 + 1))))))) else (some false))) else (if bt287.1.toList = ([] : List UInt8) then ((cover_Within.f x0 x1).bind fun t294 => (if (t294 == bt287.2) = true then (some false) else (crierlaw6_CoverTwo.l0 k x1 x0 (wrap64 (x5 + 1))))) else (some false))))))
end
def crierlaw6_CoverTwo.f (k : Nat) (a0 : ByteArray) (a1 : ByteArray) : Option (Bool) := if (wrap64 ((a0.size : Int) + (a1.size : Int))) > 140000 then (some true) else (crierlaw6_CoverTwo.l0 k a0 a1 0)
set_option maxHeartbeats 8000000 in
set_option maxRecDepth 100000 in
theorem crierlaw6_CoverTwo.calls (k : Nat) (a0 : ByteArray) (a1 : ByteArray) (r : Bool) (w : World) (h : crierlaw6_CoverTwo.f k a0 a1 = some r) :
  Calls Try.prog 3 #[.string a0, .string a1] w fun e w' => e = .returned (.bool r) ∧ Below w.heap.size w w' := by
 have HB := am (Below.refl w.heap.size w)
 have H : (if (wrap64 ((a0.size : Int) + (a1.size : Int))) > 140000 then (some true) else (crierlaw6_CoverTwo.l0 k a0 a1 0)) = some r := h
 clear h
 by_cases c3 : (wrap64 ((a0.size : Int) + (a1.size : Int))) > 140000
 ·rw [if_pos c3] at H
  have c3b0 : decide (140000 < (wrap64 ((a0.size : Int) + (a1.size : Int)))) = true := decide_eq_true c3
  clear c3
  obtain rfl := Option.some.inj H
  go_enter Try.func3, Try.ntmps3
  go_wp2
  go_ret
  exact ⟨by first | rfl | (simp [*] <;> rfl), by repeat (with_reducible first | exact HB.out | apply ba | apply bn | apply bd)⟩
 ·rw [if_neg c3] at H
  have c3b0 : decide (140000 < (wrap64 ((a0.size : Int) + (a1.size : Int)))) = false := decide_eq_false c3
  clear c3
  have H' := am H
  clear H
  go_enter Try.func3, Try.ntmps3
  go_wp2
  go_loopg [0, 1, 5] k (fun kq v0 v1 v5 w' => ∃ (x0_1 : ByteArray) (x1_1 : ByteArray) (x5_1 : Int), v0 = .string x0_1 ∧ v1 = .string x1_1 ∧ v5 = .int .i64 x5_1 ∧ Aside0 (crierlaw6_CoverTwo.l0 kq x0_1 x1_1 x5_1 = some r) ∧ Aside0 (kq ≤ k) ∧ Aside0 (Below w.heap.size w w'))
  case atStart => exact ⟨(a0), (a1), (0), (by first | rfl | (simp; done) | (simp [*]; done) | (generalize t281.toList = z_; cases z_ <;> rfl)), (by first | rfl | (simp; done) | (simp [*]; done)), (by first | rfl | (simp; done) | (simp [*]; done)), H', ⟨Nat.le_refl _⟩, ⟨by repeat (with_reducible first | exact HB.out | apply ba | apply bn | apply bd)⟩⟩
  case round =>
   clear H'
   try clear p2
   try clear c3
   try clear c3b0
   obtain ⟨x0_1, x1_1, x5_1, rfl, rfl, rfl, HA, HK1, HB⟩ := hrel
   cases gk with
   | zero => exact absurd HA.out (by simp [crierlaw6_CoverTwo.l0])
   | succ k1 =>
    have H := HA.out
    clear HA
    simp only [crierlaw6_CoverTwo.l0] at H
    by_cases c4 : x5_1 < 2
    ·rw [if_pos c4] at H
     have c4b0 : decide (x5_1 < 2) = true := decide_eq_true c4
     clear c4
     replace H := Option.bind_eq_some_iff.mp H
     obtain ⟨⟨t281, t282⟩, A50, H⟩ := H
     try dsimp only at H
     have A5 := am A50
     clear A50
     replace H := Option.bind_eq_some_iff.mp H
     obtain ⟨⟨t283, t284⟩, A60, H⟩ := H
     try dsimp only at H
     have A6 := am A60
     clear A60
     have HC7 := am H
     clear H
     go_upto_region 8 with (first | ((with_reducible refine gate_callee (f := 7) rfl ?_); refine goesL_ (some 27) rfl rfl Try.func7 (by kernel_rfl) rfl #[.string x0_1, .string x1_1] rfl (by (try simp only [List.map_toArray, List.map_cons, List.map_nil]); first | done | rfl) ?_; (with_reducible refine (cover_Meet.calls k1 x0_1 x1_1 t281 t282 _ A5.out).mono ?_); rintro e w8 ⟨rfl, hb⟩; refine ⟨_, rfl, ?_⟩; have n0_ := am (below_step (by repeat (with_reducible first | exact HB.out | apply ba | apply bn | apply bd)) hb); clear HB; have HB := n0_; clear n0_; (try clear hb)) | ((with_reducible refine gate_callee (f := 8) rfl ?_); refine goesL_ (some 33) rfl rfl Try.func8 (by kernel_rfl) rfl #[.string x0_1, .string x1_1] rfl (by (try simp only [List.map_toArray, List.map_cons, List.map_nil]); first | done | rfl) ?_; (with_reducible refine (crierref6_Meet.calls k1 x0_1 x1_1 t283 t284 _ A6.out).mono ?_); rintro e w9 ⟨rfl, hb⟩; refine ⟨_, rfl, ?_⟩; have n0_ := am (below_step (by repeat (with_reducible first | exact HB.out | apply ba | apply bn | apply bd)) hb); clear HB; have HB := n0_; clear n0_; (try clear hb)))
     (try simp only [Act.put, List.setIfInBounds_toArray, List.set_cons_zero, List.set_cons_succ])
     go_cut [61] (fun v61 wc => ∃ (kq : Nat) (x61_6 : Bool), v61 = .bool x61_6 ∧ Aside0 (crierlaw6_CoverTwo.j1 kq x0_1 x1_1 x5_1 x61_6 = some r) ∧ Aside0 (kq ≤ k1) ∧ Aside0 (Below w.heap.size w wc))
     case first =>
      have H := HC7.out
      clear HC7
      by_cases c10 : (t282 != t284) = true
      ·rw [if_pos c10] at H
       have c10b0 : (t282 != t284) = true := c10
       (try (have c10b1 : decide (t282 = t284) = false := by simpa using c10))
       (try (have c10b2 : (t282 == t284) = false := by simpa using c10))
       (try (have c10b3 : ¬ (t282 = t284) := by simpa using c10))
       clear c10
       (first | rw [c10b0] | (simp only [i64_w, i32_w]; rw [c10b0]) | skip)
       have H' := am H
       clear H
       go_wp2
       go_meet
       case rel => exact ⟨_, (true), (by first | rfl | (simp; done) | (simp [*]; done) | (generalize t281.toList = z_; cases z_ <;> rfl)), H', ⟨by have := HK1.out; first | omega | exact Nat.le_refl _⟩, ⟨by repeat (with_reducible first | exact HB.out | apply ba | apply bn | apply bd)⟩⟩
      ·rw [if_neg c10] at H
       have c10b0 : (t282 != t284) = false := by simpa using c10
       (try (have c10b1 : decide (t282 = t284) = true := by simpa using c10))
       (try (have c10b2 : (t282 == t284) = true := by simpa using c10))
       clear c10
       (first | rw [c10b0] | (simp only [i64_w, i32_w]; rw [c10b0]) | skip)
       by_cases c11 : t282 = true
       ·subst c11
        rw [if_pos rfl] at H
        replace H := Option.bind_eq_some_iff.mp H
        obtain ⟨t285, A120, H⟩ := H
        try dsimp only at H
        have A12 := am A120
        clear A120
        by_cases c13 : t285 = true
        ·subst c13
         rw [if_pos rfl] at H
         replace H := Option.bind_eq_some_iff.mp H
         obtain ⟨t286, A140, H⟩ := H
         try dsimp only at H
         have A14 := am A140
         clear A140
         by_cases c15 : t286 = true
         ·subst c15
          rw [if_pos rfl] at H
          have H' := am H
          clear H
          go_wp2_with (first | (go_at_call 9; (with_reducible refine (crierref5_Match.calls k1 x0_1 t281 true _ A12.out).mono ?_); rintro e w16 ⟨rfl, hb⟩; have n0_ := am (below_step (by repeat (with_reducible first | exact HB.out | apply ba | apply bn | apply bd)) hb); clear HB; have HB := n0_; clear n0_; (try clear hb)) | (go_at_call 9; (with_reducible refine (crierref5_Match.calls k1 x1_1 t281 true _ A14.out).mono ?_); rintro e w17 ⟨rfl, hb⟩; have n0_ := am (below_step (by repeat (with_reducible first | exact HB.out | apply ba | apply bn | apply bd)) hb); clear HB; have HB := n0_; clear n0_; (try clear hb)))
          go_meet
          case rel => exact ⟨_, (false), (by first | rfl | (simp; done) | (simp [*]; done) | (generalize t281.toList = z_; cases z_ <;> rfl)), H', ⟨by have := HK1.out; first | omega | exact Nat.le_refl _⟩, ⟨by repeat (with_reducible first | exact HB.out | apply ba | apply bn | apply bd)⟩⟩
         ·replace c15 := Bool.eq_false_iff.mpr c15
          subst c15
          rw [if_neg (show ¬ (false = true) by decide)] at H
          have H' := am H
          clear H
          go_wp2_with (first | (go_at_call 9; (with_reducible refine (crierref5_Match.calls k1 x0_1 t281 true _ A12.out).mono ?_); rintro e w18 ⟨rfl, hb⟩; have n0_ := am (below_step (by repeat (with_reducible first | exact HB.out | apply ba | apply bn | apply bd)) hb); clear HB; have HB := n0_; clear n0_; (try clear hb)) | (go_at_call 9; (with_reducible refine (crierref5_Match.calls k1 x1_1 t281 false _ A14.out).mono ?_); rintro e w19 ⟨rfl, hb⟩; have n0_ := am (below_step (by repeat (with_reducible first | exact HB.out | apply ba | apply bn | apply bd)) hb); clear HB; have HB := n0_; clear n0_; (try clear hb)))
          go_meet
          case rel => exact ⟨_, (true), (by first | rfl | (simp; done) | (simp [*]; done) | (generalize t281.toList = z_; cases z_ <;> rfl)), H', ⟨by have := HK1.out; first | omega | exact Nat.le_refl _⟩, ⟨by repeat (with_reducible first | exact HB.out | apply ba | apply bn | apply bd)⟩⟩
        ·replace c13 := Bool.eq_false_iff.mpr c13
         subst c13
         rw [if_neg (show ¬ (false = true) by decide)] at H
         have H' := am H
         clear H
         go_wp2_with (first | (go_at_call 9; (with_reducible refine (crierref5_Match.calls k1 x0_1 t281 false _ A12.out).mono ?_); rintro e w20 ⟨rfl, hb⟩; have n0_ := am (below_step (by repeat (with_reducible first | exact HB.out | apply ba | apply bn | apply bd)) hb); clear HB; have HB := n0_; clear n0_; (try clear hb)))
         go_meet
         case rel => exact ⟨_, (true), (by first | rfl | (simp; done) | (simp [*]; done) | (generalize t281.toList = z_; cases z_ <;> rfl)), H', ⟨by have := HK1.out; first | omega | exact Nat.le_refl _⟩, ⟨by repeat (with_reducible first | exact HB.out | apply ba | apply bn | apply bd)⟩⟩
       ·replace c11 := Bool.eq_false_iff.mpr c11
        subst c11
        rw [if_neg (show ¬ (false = true) by decide)] at H
        have H' := am H
        clear H
        go_wp2
        go_meet
        case rel => exact ⟨_, ((t281.toList != ([] : List UInt8))), (by first | rfl | (simp; done) | (simp [*]; done) | (generalize t281.toList = z_; cases z_ <;> rfl)), H', ⟨by have := HK1.out; first | omega | exact Nat.le_refl _⟩, ⟨by repeat (with_reducible first | exact HB.out | apply ba | apply bn | apply bd)⟩⟩
     case rest =>
      clear HC7
      try clear c1
      try clear p2
      try clear c3
      try clear c3b0
      try clear c4
      try clear c4b0
      try clear p6
      try clear c7
      try clear c8
      try clear c10
      try clear c10b0
      try clear c10b1
      try clear c10b2
      try clear c11
      try clear c13
      try clear c15
      try clear p2
      obtain ⟨kq, x61_6, rfl, HA, HJ6, HB⟩ := hcut
      cases kq with
      | zero => exact absurd HA.out (by simp [crierlaw6_CoverTwo.j1])
      | succ kj6 =>
       have H := HA.out
       clear HA
       simp only [crierlaw6_CoverTwo.j1] at H
       by_cases c21 : x61_6 = true
       ·subst c21
        rw [if_pos rfl] at H
        obtain rfl := Option.some.inj H
        go_wp2
        go_ret
        exact ⟨by first | rfl | (simp [*] <;> rfl), by repeat (with_reducible first | exact HB.out | apply ba | apply bn | apply bd)⟩
       ·replace c21 := Bool.eq_false_iff.mpr c21
        subst c21
        rw [if_neg (show ¬ (false = true) by decide)] at H
        replace H := Option.bind_eq_some_iff.mp H
        obtain ⟨⟨t287, t288⟩, A220, H⟩ := H
        try dsimp only at H
        have A22 := am A220
        clear A220
        replace H := Option.bind_eq_some_iff.mp H
        obtain ⟨⟨t289, t290⟩, A230, H⟩ := H
        try dsimp only at H
        have A23 := am A230
        clear A230
        by_cases c24 : (t288 != t290) = true
        ·rw [if_pos c24] at H
         have c24b0 : (t288 != t290) = true := c24
         (try (have c24b1 : decide (t288 = t290) = false := by simpa using c24))
         (try (have c24b2 : (t288 == t290) = false := by simpa using c24))
         (try (have c24b3 : ¬ (t288 = t290) := by simpa using c24))
         clear c24
         obtain rfl := Option.some.inj H
         go_wp2_with (first | ((with_reducible refine gate_callee (f := 10) rfl ?_); refine goesL_ (some 65) rfl rfl Try.func10 (by kernel_rfl) rfl #[.string x0_1, .string x1_1] rfl (by (try simp only [List.map_toArray, List.map_cons, List.map_nil]); first | done | rfl) ?_; (with_reducible refine (cover_Outside.calls x0_1 x1_1 t287 t288 _ A22.out).mono ?_); rintro e w25 ⟨rfl, hb⟩; refine ⟨_, rfl, ?_⟩; have n0_ := am (below_step (by repeat (with_reducible first | exact HB.out | apply ba | apply bn | apply bd)) hb); clear HB; have HB := n0_; clear n0_; (try clear hb)) | ((with_reducible refine gate_callee (f := 11) rfl ?_); refine goesL_ (some 71) rfl rfl Try.func11 (by kernel_rfl) rfl #[.string x0_1, .string x1_1] rfl (by (try simp only [List.map_toArray, List.map_cons, List.map_nil]); first | done | rfl) ?_; (with_reducible refine (crierref6_Outside.calls kj6 x0_1 x1_1 t289 t290 _ A23.out).mono ?_); rintro e w26 ⟨rfl, hb⟩; refine ⟨_, rfl, ?_⟩; have n0_ := am (below_step (by repeat (with_reducible first | exact HB.out | apply ba | apply bn | apply bd)) hb); clear HB; have HB := n0_; clear n0_; (try clear hb)))
         go_ret
         exact ⟨by first | rfl | (simp [*] <;> rfl), by repeat (with_reducible first | exact HB.out | apply ba | apply bn | apply bd)⟩
        ·rw [if_neg c24] at H
         have c24b0 : (t288 != t290) = false := by simpa using c24
         (try (have c24b1 : decide (t288 = t290) = true := by simpa using c24))
         (try (have c24b2 : (t288 == t290) = true := by simpa using c24))
         clear c24
         by_cases c27 : t288 = true
         ·subst c27
          rw [if_pos rfl] at H
          replace H := Option.bind_eq_some_iff.mp H
          obtain ⟨t291, A280, H⟩ := H
          try dsimp only at H
          have A28 := am A280
          clear A280
          by_cases c29 : t291 = true
          ·subst c29
           rw [if_pos rfl] at H
           replace H := Option.bind_eq_some_iff.mp H
           obtain ⟨t292, A300, H⟩ := H
           try dsimp only at H
           have A30 := am A300
           clear A300
           by_cases c31 : t292 = true
           ·subst c31
            rw [if_pos rfl] at H
            obtain rfl := Option.some.inj H
            go_wp2_with (first | ((with_reducible refine gate_callee (f := 10) rfl ?_); refine goesL_ (some 65) rfl rfl Try.func10 (by kernel_rfl) rfl #[.string x0_1, .string x1_1] rfl (by (try simp only [List.map_toArray, List.map_cons, List.map_nil]); first | done | rfl) ?_; (with_reducible refine (cover_Outside.calls x0_1 x1_1 t287 true _ A22.out).mono ?_); rintro e w32 ⟨rfl, hb⟩; refine ⟨_, rfl, ?_⟩; have n0_ := am (below_step (by repeat (with_reducible first | exact HB.out | apply ba | apply bn | apply bd)) hb); clear HB; have HB := n0_; clear n0_; (try clear hb)) | ((with_reducible refine gate_callee (f := 11) rfl ?_); refine goesL_ (some 71) rfl rfl Try.func11 (by kernel_rfl) rfl #[.string x0_1, .string x1_1] rfl (by (try simp only [List.map_toArray, List.map_cons, List.map_nil]); first | done | rfl) ?_; (with_reducible refine (crierref6_Outside.calls kj6 x0_1 x1_1 t289 t290 _ A23.out).mono ?_); rintro e w33 ⟨rfl, hb⟩; refine ⟨_, rfl, ?_⟩; have n0_ := am (below_step (by repeat (with_reducible first | exact HB.out | apply ba | apply bn | apply bd)) hb); clear HB; have HB := n0_; clear n0_; (try clear hb)) | (go_at_call 9; (with_reducible refine (crierref5_Match.calls kj6 x0_1 t287 true _ A28.out).mono ?_); rintro e w34 ⟨rfl, hb⟩; have n0_ := am (below_step (by repeat (with_reducible first | exact HB.out | apply ba | apply bn | apply bd)) hb); clear HB; have HB := n0_; clear n0_; (try clear hb)) | (go_at_call 9; (with_reducible refine (crierref5_Match.calls kj6 x1_1 t287 true _ A30.out).mono ?_); rintro e w35 ⟨rfl, hb⟩; have n0_ := am (below_step (by repeat (with_reducible first | exact HB.out | apply ba | apply bn | apply bd)) hb); clear HB; have HB := n0_; clear n0_; (try clear hb)))
            go_ret
            exact ⟨by first | rfl | (simp [*] <;> rfl), by repeat (with_reducible first | exact HB.out | apply ba | apply bn | apply bd)⟩
           ·replace c31 := Bool.eq_false_iff.mpr c31
            subst c31
            rw [if_neg (show ¬ (false = true) by decide)] at H
            replace H := Option.bind_eq_some_iff.mp H
            obtain ⟨t293, A360, H⟩ := H
            try dsimp only at H
            have A36 := am A360
            clear A360
            by_cases c37 : (t293 == true) = true
            ·rw [if_pos c37] at H
             have c37b0 : (t293 == true) = true := c37
             (try (have c37b1 : decide (t293 = true) = true := by simpa using c37))
             (try (have c37b2 : (t293 == true) = true := by simpa using c37))
             clear c37
             obtain rfl := Option.some.inj H
             go_wp2_with (first | ((with_reducible refine gate_callee (f := 10) rfl ?_); refine goesL_ (some 65) rfl rfl Try.func10 (by kernel_rfl) rfl #[.string x0_1, .string x1_1] rfl (by (try simp only [List.map_toArray, List.map_cons, List.map_nil]); first | done | rfl) ?_; (with_reducible refine (cover_Outside.calls x0_1 x1_1 t287 true _ A22.out).mono ?_); rintro e w38 ⟨rfl, hb⟩; refine ⟨_, rfl, ?_⟩; have n0_ := am (below_step (by repeat (with_reducible first | exact HB.out | apply ba | apply bn | apply bd)) hb); clear HB; have HB := n0_; clear n0_; (try clear hb)) | ((with_reducible refine gate_callee (f := 11) rfl ?_); refine goesL_ (some 71) rfl rfl Try.func11 (by kernel_rfl) rfl #[.string x0_1, .string x1_1] rfl (by (try simp only [List.map_toArray, List.map_cons, List.map_nil]); first | done | rfl) ?_; (with_reducible refine (crierref6_Outside.calls kj6 x0_1 x1_1 t289 t290 _ A23.out).mono ?_); rintro e w39 ⟨rfl, hb⟩; refine ⟨_, rfl, ?_⟩; have n0_ := am (below_step (by repeat (with_reducible first | exact HB.out | apply ba | apply bn | apply bd)) hb); clear HB; have HB := n0_; clear n0_; (try clear hb)) | (go_at_call 9; (with_reducible refine (crierref5_Match.calls kj6 x0_1 t287 true _ A28.out).mono ?_); rintro e w40 ⟨rfl, hb⟩; have n0_ := am (below_step (by repeat (with_reducible first | exact HB.out | apply ba | apply bn | apply bd)) hb); clear HB; have HB := n0_; clear n0_; (try clear hb)) | (go_at_call 9; (with_reducible refine (crierref5_Match.calls kj6 x1_1 t287 false _ A30.out).mono ?_); rintro e w41 ⟨rfl, hb⟩; have n0_ := am (below_step (by repeat (with_reducible first | exact HB.out | apply ba | apply bn | apply bd)) hb); clear HB; have HB := n0_; clear n0_; (try clear hb)) | (go_at_call 12; (with_reducible refine (cover_Within.calls x0_1 x1_1 t293 _ A36.out).mono ?_); rintro e w42 ⟨rfl, hb⟩; have n0_ := am (below_step (by repeat (with_reducible first | exact HB.out | apply ba | apply bn | apply bd)) hb); clear HB; have HB := n0_; clear n0_; (try clear hb)))
             go_ret
             exact ⟨by first | rfl | (simp [*] <;> rfl), by repeat (with_reducible first | exact HB.out | apply ba | apply bn | apply bd)⟩
            ·rw [if_neg c37] at H
             have c37b0 : (t293 == true) = false := by simpa using c37
             (try (have c37b1 : decide (t293 = true) = false := by simpa using c37))
             (try (have c37b2 : (t293 == true) = false := by simpa using c37))
             (try (have c37b3 : ¬ (t293 = true) := by simpa using c37))
             clear c37
             have H' := am H
             clear H
             go_wp2_with (first | ((with_reducible refine gate_callee (f := 10) rfl ?_); refine goesL_ (some 65) rfl rfl Try.func10 (by kernel_rfl) rfl #[.string x0_1, .string x1_1] rfl (by (try simp only [List.map_toArray, List.map_cons, List.map_nil]); first | done | rfl) ?_; (with_reducible refine (cover_Outside.calls x0_1 x1_1 t287 true _ A22.out).mono ?_); rintro e w43 ⟨rfl, hb⟩; refine ⟨_, rfl, ?_⟩; have n0_ := am (below_step (by repeat (with_reducible first | exact HB.out | apply ba | apply bn | apply bd)) hb); clear HB; have HB := n0_; clear n0_; (try clear hb)) | ((with_reducible refine gate_callee (f := 11) rfl ?_); refine goesL_ (some 71) rfl rfl Try.func11 (by kernel_rfl) rfl #[.string x0_1, .string x1_1] rfl (by (try simp only [List.map_toArray, List.map_cons, List.map_nil]); first | done | rfl) ?_; (with_reducible refine (crierref6_Outside.calls kj6 x0_1 x1_1 t289 t290 _ A23.out).mono ?_); rintro e w44 ⟨rfl, hb⟩; refine ⟨_, rfl, ?_⟩; have n0_ := am (below_step (by repeat (with_reducible first | exact HB.out | apply ba | apply bn | apply bd)) hb); clear HB; have HB := n0_; clear n0_; (try clear hb)) | (go_at_call 9; (with_reducible refine (crierref5_Match.calls kj6 x0_1 t287 true _ A28.out).mono ?_); rintro e w45 ⟨rfl, hb⟩; have n0_ := am (below_step (by repeat (with_reducible first | exact HB.out | apply ba | apply bn | apply bd)) hb); clear HB; have HB := n0_; clear n0_; (try clear hb)) | (go_at_call 9; (with_reducible refine (crierref5_Match.calls kj6 x1_1 t287 false _ A30.out).mono ?_); rintro e w46 ⟨rfl, hb⟩; have n0_ := am (below_step (by repeat (with_reducible first | exact HB.out | apply ba | apply bn | apply bd)) hb); clear HB; have HB := n0_; clear n0_; (try clear hb)) | (go_at_call 12; (with_reducible refine (cover_Within.calls x0_1 x1_1 t293 _ A36.out).mono ?_); rintro e w47 ⟨rfl, hb⟩; have n0_ := am (below_step (by repeat (with_reducible first | exact HB.out | apply ba | apply bn | apply bd)) hb); clear HB; have HB := n0_; clear n0_; (try clear hb)))
             go_roundg kj6
             case measure => have := HK1.out; have := HJ6.out; omega
             case rel => exact ⟨(x1_1), (x0_1), (wrap64 (x5_1 + 1)), (by first | rfl | (simp; done) | (simp [*]; done) | (generalize t281.toList = z_; cases z_ <;> rfl)), (by first | rfl | (simp; done) | (simp [*]; done)), (by first | rfl | (simp; done) | (simp [*]; done)), H', ⟨by have := HK1.out; have := HJ6.out; omega⟩, ⟨by repeat (with_reducible first | exact HB.out | apply ba | apply bn | apply bd)⟩⟩
          ·replace c29 := Bool.eq_false_iff.mpr c29
           subst c29
           rw [if_neg (show ¬ (false = true) by decide)] at H
           obtain rfl := Option.some.inj H
           go_wp2_with (first | ((with_reducible refine gate_callee (f := 10) rfl ?_); refine goesL_ (some 65) rfl rfl Try.func10 (by kernel_rfl) rfl #[.string x0_1, .string x1_1] rfl (by (try simp only [List.map_toArray, List.map_cons, List.map_nil]); first | done | rfl) ?_; (with_reducible refine (cover_Outside.calls x0_1 x1_1 t287 true _ A22.out).mono ?_); rintro e w48 ⟨rfl, hb⟩; refine ⟨_, rfl, ?_⟩; have n0_ := am (below_step (by repeat (with_reducible first | exact HB.out | apply ba | apply bn | apply bd)) hb); clear HB; have HB := n0_; clear n0_; (try clear hb)) | ((with_reducible refine gate_callee (f := 11) rfl ?_); refine goesL_ (some 71) rfl rfl Try.func11 (by kernel_rfl) rfl #[.string x0_1, .string x1_1] rfl (by (try simp only [List.map_toArray, List.map_cons, List.map_nil]); first | done | rfl) ?_; (with_reducible refine (crierref6_Outside.calls kj6 x0_1 x1_1 t289 t290 _ A23.out).mono ?_); rintro e w49 ⟨rfl, hb⟩; refine ⟨_, rfl, ?_⟩; have n0_ := am (below_step (by repeat (with_reducible first | exact HB.out | apply ba | apply bn | apply bd)) hb); clear HB; have HB := n0_; clear n0_; (try clear hb)) | (go_at_call 9; (with_reducible refine (crierref5_Match.calls kj6 x0_1 t287 false _ A28.out).mono ?_); rintro e w50 ⟨rfl, hb⟩; have n0_ := am (below_step (by repeat (with_reducible first | exact HB.out | apply ba | apply bn | apply bd)) hb); clear HB; have HB := n0_; clear n0_; (try clear hb)))
           go_ret
           exact ⟨by first | rfl | (simp [*] <;> rfl), by repeat (with_reducible first | exact HB.out | apply ba | apply bn | apply bd)⟩
         ·replace c27 := Bool.eq_false_iff.mpr c27
          subst c27
          rw [if_neg (show ¬ (false = true) by decide)] at H
          by_cases c51 : t287.toList = ([] : List UInt8)
          ·rw [if_pos c51] at H
           have c51b0 : (t287.toList == ([] : List UInt8)) = true := beq_iff_eq.mpr c51
           have c51b1 : (t287.toList != ([] : List UInt8)) = false := bne_eq_false_iff_eq.mpr c51
           clear c51
           replace H := Option.bind_eq_some_iff.mp H
           obtain ⟨t294, A520, H⟩ := H
           try dsimp only at H
           have A52 := am A520
           clear A520
           by_cases c53 : (t294 == false) = true
           ·rw [if_pos c53] at H
            have c53b0 : (t294 == false) = true := c53
            (try (have c53b1 : decide (t294 = false) = true := by simpa using c53))
            (try (have c53b2 : (t294 == false) = true := by simpa using c53))
            clear c53
            obtain rfl := Option.some.inj H
            go_wp2_with (first | ((with_reducible refine gate_callee (f := 10) rfl ?_); refine goesL_ (some 65) rfl rfl Try.func10 (by kernel_rfl) rfl #[.string x0_1, .string x1_1] rfl (by (try simp only [List.map_toArray, List.map_cons, List.map_nil]); first | done | rfl) ?_; (with_reducible refine (cover_Outside.calls x0_1 x1_1 t287 false _ A22.out).mono ?_); rintro e w54 ⟨rfl, hb⟩; refine ⟨_, rfl, ?_⟩; have n0_ := am (below_step (by repeat (with_reducible first | exact HB.out | apply ba | apply bn | apply bd)) hb); clear HB; have HB := n0_; clear n0_; (try clear hb)) | ((with_reducible refine gate_callee (f := 11) rfl ?_); refine goesL_ (some 71) rfl rfl Try.func11 (by kernel_rfl) rfl #[.string x0_1, .string x1_1] rfl (by (try simp only [List.map_toArray, List.map_cons, List.map_nil]); first | done | rfl) ?_; (with_reducible refine (crierref6_Outside.calls kj6 x0_1 x1_1 t289 t290 _ A23.out).mono ?_); rintro e w55 ⟨rfl, hb⟩; refine ⟨_, rfl, ?_⟩; have n0_ := am (below_step (by repeat (with_reducible first | exact HB.out | apply ba | apply bn | apply bd)) hb); clear HB; have HB := n0_; clear n0_; (try clear hb)) | (go_at_call 12; (with_reducible refine (cover_Within.calls x0_1 x1_1 t294 _ A52.out).mono ?_); rintro e w56 ⟨rfl, hb⟩; have n0_ := am (below_step (by repeat (with_reducible first | exact HB.out | apply ba | apply bn | apply bd)) hb); clear HB; have HB := n0_; clear n0_; (try clear hb)))
            go_ret
            exact ⟨by first | rfl | (simp [*] <;> rfl), by repeat (with_reducible first | exact HB.out | apply ba | apply bn | apply bd)⟩
           ·rw [if_neg c53] at H
            have c53b0 : (t294 == false) = false := by simpa using c53
            (try (have c53b1 : decide (t294 = false) = false := by simpa using c53))
            (try (have c53b2 : (t294 == false) = false := by simpa using c53))
            (try (have c53b3 : ¬ (t294 = false) := by simpa using c53))
            clear c53
            have H' := am H
            clear H
            go_wp2_with (first | ((with_reducible refine gate_callee (f := 10) rfl ?_); refine goesL_ (some 65) rfl rfl Try.func10 (by kernel_rfl) rfl #[.string x0_1, .string x1_1] rfl (by (try simp only [List.map_toArray, List.map_cons, List.map_nil]); first | done | rfl) ?_; (with_reducible refine (cover_Outside.calls x0_1 x1_1 t287 false _ A22.out).mono ?_); rintro e w57 ⟨rfl, hb⟩; refine ⟨_, rfl, ?_⟩; have n0_ := am (below_step (by repeat (with_reducible first | exact HB.out | apply ba | apply bn | apply bd)) hb); clear HB; have HB := n0_; clear n0_; (try clear hb)) | ((with_reducible refine gate_callee (f := 11) rfl ?_); refine goesL_ (some 71) rfl rfl Try.func11 (by kernel_rfl) rfl #[.string x0_1, .string x1_1] rfl (by (try simp only [List.map_toArray, List.map_cons, List.map_nil]); first | done | rfl) ?_; (with_reducible refine (crierref6_Outside.calls kj6 x0_1 x1_1 t289 t290 _ A23.out).mono ?_); rintro e w58 ⟨rfl, hb⟩; refine ⟨_, rfl, ?_⟩; have n0_ := am (below_step (by repeat (with_reducible first | exact HB.out | apply ba | apply bn | apply bd)) hb); clear HB; have HB := n0_; clear n0_; (try clear hb)) | (go_at_call 12; (with_reducible refine (cover_Within.calls x0_1 x1_1 t294 _ A52.out).mono ?_); rintro e w59 ⟨rfl, hb⟩; have n0_ := am (below_step (by repeat (with_reducible first | exact HB.out | apply ba | apply bn | apply bd)) hb); clear HB; have HB := n0_; clear n0_; (try clear hb)))
            go_roundg kj6
            case measure => have := HK1.out; have := HJ6.out; omega
            case rel => exact ⟨(x1_1), (x0_1), (wrap64 (x5_1 + 1)), (by first | rfl | (simp; done) | (simp [*]; done) | (generalize t281.toList = z_; cases z_ <;> rfl)), (by first | rfl | (simp; done) | (simp [*]; done)), (by first | rfl | (simp; done) | (simp [*]; done)), H', ⟨by have := HK1.out; have := HJ6.out; omega⟩, ⟨by repeat (with_reducible first | exact HB.out | apply ba | apply bn | apply bd)⟩⟩
          ·rw [if_neg c51] at H
           have c51b0 : (t287.toList == ([] : List UInt8)) = false := beq_eq_false_iff_ne.mpr c51
           have c51b1 : (t287.toList != ([] : List UInt8)) = true := bne_iff_ne.mpr c51
           obtain rfl := Option.some.inj H
           go_wp2_with (first | ((with_reducible refine gate_callee (f := 10) rfl ?_); refine goesL_ (some 65) rfl rfl Try.func10 (by kernel_rfl) rfl #[.string x0_1, .string x1_1] rfl (by (try simp only [List.map_toArray, List.map_cons, List.map_nil]); first | done | rfl) ?_; (with_reducible refine (cover_Outside.calls x0_1 x1_1 t287 false _ A22.out).mono ?_); rintro e w60 ⟨rfl, hb⟩; refine ⟨_, rfl, ?_⟩; have n0_ := am (below_step (by repeat (with_reducible first | exact HB.out | apply ba | apply bn | apply bd)) hb); clear HB; have HB := n0_; clear n0_; (try clear hb)) | ((with_reducible refine gate_callee (f := 11) rfl ?_); refine goesL_ (some 71) rfl rfl Try.func11 (by kernel_rfl) rfl #[.string x0_1, .string x1_1] rfl (by (try simp only [List.map_toArray, List.map_cons, List.map_nil]); first | done | rfl) ?_; (with_reducible refine (crierref6_Outside.calls kj6 x0_1 x1_1 t289 t290 _ A23.out).mono ?_); rintro e w61 ⟨rfl, hb⟩; refine ⟨_, rfl, ?_⟩; have n0_ := am (below_step (by repeat (with_reducible first | exact HB.out | apply ba | apply bn | apply bd)) hb); clear HB; have HB := n0_; clear n0_; (try clear hb)))
           go_ret
           exact ⟨by first | rfl | (simp [*] <;> rfl), by repeat (with_reducible first | exact HB.out | apply ba | apply bn | apply bd)⟩
    ·rw [if_neg c4] at H
     have c4b0 : decide (x5_1 < 2) = false := decide_eq_false c4
     clear c4
     obtain rfl := Option.some.inj H
     go_wp2
     go_ret
     exact ⟨by first | rfl | (simp [*] <;> rfl), by repeat (with_reducible first | exact HB.out | apply ba | apply bn | apply bd)⟩

/-- THE ONE PURE STATEMENT of crierlaw6_CoverTwo: yours. -/
def crierlaw6_CoverTwo.Pure : Prop := ∀ (a0 : ByteArray) (a1 : ByteArray), a0.size ≤ 140737488351232 → a1.size ≤ 140737488351232 → ∃ k, crierlaw6_CoverTwo.f k a0 a1 = some true
theorem crierlaw6_CoverTwo.walk (P : crierlaw6_CoverTwo.Pure) (a0 : ByteArray) (a1 : ByteArray) (w : World) (w0 : a0.size ≤ 140737488351232) (w1 : a1.size ≤ 140737488351232) :
  Calls Try.prog 3 #[.string a0, .string a1] w fun e w' => e = .returned (.bool true) ∧ Below w.heap.size w w' := by
 obtain ⟨k, h⟩ := P a0 a1 w0 w1
 refine (crierlaw6_CoverTwo.calls k a0 a1 true w h).mono ?_
 rintro e w' ⟨rfl, hd⟩
 exact ⟨rfl, hd⟩

end Go.Proofs.Ytamelcgamlcliaa.LCoverTwo
