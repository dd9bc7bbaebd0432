-- Printed by a program of this session's own (wip/mkprint.py): contracts of the functions that a law uses. Not trusted: Lean checks it.
import Derived.Test.YtfomjbbebgajcaaGreatDoorMCoverLeastx0
import Derived.Test.YtfomjbbebgajcaaGreatDoorMCoverLeastx11
import Derived.Test.YtfomjbbebgajcaaGreatDoorMCoverLeastx12
namespace Go.Proofs.YtfomjbbebgajcaaGreatDoor.MCoverLeast
open Go.RowKit Go.Proofs.YtfomjbbebgajcaaGreatDoor.Giv Go.Proofs.YtfomjbbebgajcaaGreatDoorW.PrintWords Go.Proofs.YtfomjbbebgajcaaGreatDoorW.PrintLast Go.Proofs.YtfomjbbebgajcaaGreatDoorW.PrintMore
open Go.Proofs.YtfomjbbebgajcaaGreatDoorW.PrintWords renaming below_alloc → ba, below_drew1 → bd, pw_below_drewN → bn
open Go.Proofs.YtfomjbbebgajcaaGreatDoorW.PrintWords.Aside0 renaming mk → am
open Go.Proofs.YtfomjbbebgajcaaGreatDoorW.PrintWords.Kd renaming R_alloc → ra, R_drewN → rn, R_drew → rd
attribute [local go_sem] max2_int min2_int max_two min_two max_three min_three max_four min_four   -- for this text's walks alone
set_option linter.unusedVariables false
set_option linter.unusedSimpArgs false

/-! ### crierref5_CheckFilter: function 156 -/
def crierref5_CheckFilter.l0 : Nat → List ByteArray → Int → Option (Int)
 | 0, _, _ => none
 | k + 1, x3, x4 => if x4 < (x3.length : Int) then (if 0 ≤ x4 then ((crierref5_sign.f k (rdOf ByteArray.empty x3 x4)).bind fun t253 => (if t253 = true then (if ((rdOf ByteArray.empty x3 x4).size : Int) > 1 then (some 52) else (if (rdOf ByteArray.empty x3 x4).toList = ([35] : List UInt8) then (if (wrap64 (x4 + 1)) < (x3.length : Int) then (some 52) else (crierref5_CheckFilter.l0 k x3 (wrap64 (x4 + 1)))) else (crierref5_CheckFilter.l0 k x3 (wrap64 (x4 + 1))))) else (if (rdOf ByteArray.empty x3 x4).toList = ([35] : List UInt8) then (if (wrap64 (x4 + 1)) < (x3.length : Int) then (some 52) else (crierref5_CheckFilter.l0 k x3 (wrap64 (x4 + 1)))) else (crierref5_CheckFilter.l0 k x3 (wrap64 (x4 + 1)))))) else (none)) else (some 0)
def crierref5_CheckFilter.f (k : Nat) (a0 : ByteArray) : Option (Int) := if (a0.size : Int) = 0 then (some 50) else ((crierref5_Text.f k a0).bind fun t248 => (if t248 = true then ((crierref5_Levels.f k a0).bind fun t249 => (crierref5_CheckFilter.l0 k t249 0)) else (some 51)))
set_option maxHeartbeats 8000000 in
set_option maxRecDepth 100000 in
theorem crierref5_CheckFilter.calls (k : Nat) (a0 : ByteArray) (r : Int) (w : World) (h : crierref5_CheckFilter.f k a0 = some r) :
  Calls Tryz.prog 156 #[.string a0] w fun e w' => e = .returned (.int .i64 r) ∧ Below w.heap.size w w' := by
 have HB := am (Below.refl w.heap.size w)
 have H : (if (a0.size : Int) = 0 then (some 50) else ((crierref5_Text.f k a0).bind fun t248 => (if t248 = true then ((crierref5_Levels.f k a0).bind fun t249 => (crierref5_CheckFilter.l0 k t249 0)) else (some 51)))) = some r := h
 clear h
 by_cases c2 : (a0.size : Int) = 0
 ·rw [if_pos c2] at H
  have c2b0 : ((a0.size : Int) == 0) = true := beq_iff_eq.mpr c2
  have c2b1 : ((a0.size : Int) != 0) = false := bne_eq_false_iff_eq.mpr c2
  clear c2
  obtain rfl := Option.some.inj H
  go_enter Tryz.func156, Tryz.ntmps156
  go_wp2
  go_ret
  exact ⟨by first | rfl | (simp [*] <;> rfl), by repeat (with_reducible first | exact HB.out | apply ba | apply bn | apply bd)⟩
 ·rw [if_neg c2] at H
  have c2b0 : ((a0.size : Int) == 0) = false := beq_eq_false_iff_ne.mpr c2
  have c2b1 : ((a0.size : Int) != 0) = true := bne_iff_ne.mpr c2
  replace H := Option.bind_eq_some_iff.mp H
  obtain ⟨t248, A30, H⟩ := H
  try dsimp only at H
  have A3 := am A30
  clear A30
  by_cases c4 : t248 = true
  ·subst c4
   rw [if_pos rfl] at H
   replace H := Option.bind_eq_some_iff.mp H
   obtain ⟨t249, A50, H⟩ := H
   try dsimp only at H
   have A5 := am A50
   clear A50
   have H' := am H
   clear H
   go_enter Tryz.func156, Tryz.ntmps156
   go_wp2_with (first | ((with_reducible refine gate_callee (f := 171) rfl ?_); refine goesL_ (some 9) rfl rfl Tryz.func171 (by kernel_rfl) rfl #[.string a0] rfl (by (try simp only [List.map_toArray, List.map_cons, List.map_nil]); first | done | rfl | (simp only [List.length_drop, List.length_take]; rfl)) ?_; (with_reducible refine (crierref5_Text.calls k a0 true _ A3.out).mono ?_); rintro e w' ⟨rfl, ⟨nd, rfl⟩⟩; refine ⟨_, rfl, ?_⟩) | ((with_reducible refine gate_callee (f := 157) rfl ?_); refine goesL_ (some 12) rfl rfl Tryz.func157 (by kernel_rfl) rfl #[.string a0] rfl (by (try simp only [List.map_toArray, List.map_cons, List.map_nil]); first | done | rfl | (simp only [List.length_drop, List.length_take]; rfl)) ?_; (with_reducible refine (crierref5_Levels.calls k a0 t249 _ A5.out).mono ?_); rintro e w6 ⟨v250, rfl, ho0, hb⟩; refine ⟨_, rfl, ?_⟩; have n0_ := am (Kd.R_lower ho0 (below_size (by repeat (with_reducible first | exact HB.out | apply ba | apply bn | apply bd)))); have n1_ := am (below_step (by repeat (with_reducible first | exact HB.out | apply ba | apply bn | apply bd)) hb); clear HB; have HO251 := n0_; have HB := n1_; clear n0_ n1_; (try clear hb); (try clear ho0)))
   go_loopg [4] k (fun kq v4 w' => ∃ (x4_1 : Int), v4 = .int .i64 x4_1 ∧ Aside0 (crierref5_CheckFilter.l0 kq t249 x4_1 = some r) ∧ Aside0 (kq ≤ k) ∧ Aside0 (Kd.R Kd.string 9 w' w.heap.size (fun _ => True) v250 t249) ∧ Aside0 (Below w.heap.size w w'))
   case atStart => exact ⟨(0), (by first | rfl | (simp; done) | (simp [*]; done)), H', ⟨Nat.le_refl _⟩, ⟨by (with_reducible repeat (first | apply ra | apply rn | apply rd)); exact HO251.out⟩, ⟨by repeat (with_reducible first | exact HB.out | apply ba | apply bn | apply bd)⟩⟩
   case round =>
    clear H'
    try clear c1
    try clear c2
    try clear c2b0
    try clear c2b1
    try clear p2
    try clear c4
    obtain ⟨x4_1, rfl, HA, HK1, HO_3, HB⟩ := hrel
    cases gk with
    | zero => exact absurd HA.out (by simp [crierref5_CheckFilter.l0])
    | succ k1 =>
     have H := HA.out
     clear HA
     simp only [crierref5_CheckFilter.l0] at H
     by_cases c7 : x4_1 < (t249.length : Int)
     ·rw [if_pos c7] at H
      have c7b0 : decide (x4_1 < (t249.length : Int)) = true := decide_eq_true c7
      clear c7
      by_cases c8 : 0 ≤ x4_1
      ·rw [if_pos c8] at H
       have c8b0 : decide (0 ≤ x4_1) = true := decide_eq_true c8
       clear c8
       replace H := Option.bind_eq_some_iff.mp H
       obtain ⟨t253, A90, H⟩ := H
       try dsimp only at H
       have A9 := am A90
       clear A90
       by_cases c10 : t253 = true
       ·subst c10
        rw [if_pos rfl] at H
        by_cases c11 : ((rdOf ByteArray.empty t249 x4_1).size : Int) > 1
        ·rw [if_pos c11] at H
         have c11b0 : decide (1 < ((rdOf ByteArray.empty t249 x4_1).size : Int)) = true := decide_eq_true c11
         have c11b1 : decide (1 < (rdOf ByteArray.empty t249 x4_1).size) = true := decide_eq_true (by omega)
         clear c11
         obtain rfl := Option.some.inj H
         obtain ⟨Ao12, co12, eo12⟩ := Kd.R_slice HO_3.out
         subst eo12
         have p252 : 0 ≤ (x4_1 : Int) := of_decide_eq_true (by assumption)
         have q252 : x4_1 < (t249.length : Int) := of_decide_eq_true (by assumption)
         obtain ⟨ad252, e252, hx252_0⟩ := Kd.at_string (Kd.R_reads' HO_3.out).2.2 x4_1 p252 q252
         cases e252
         replace p252 := eq_true p252
         replace q252 := eq_true q252
         go_wp2_with (first | ((with_reducible refine gate_callee (f := 169) rfl ?_); refine goesL_ (some 23) rfl rfl Tryz.func169 (by kernel_rfl) rfl #[.string (rdOf ByteArray.empty t249 x4_1)] rfl (by (try simp only [List.map_toArray, List.map_cons, List.map_nil]); first | done | rfl | (simp only [List.length_drop, List.length_take]; rfl)) ?_; (with_reducible refine (crierref5_sign.calls k1 (rdOf ByteArray.empty t249 x4_1) true _ A9.out).mono ?_); rintro e w' ⟨rfl, ⟨nd, rfl⟩⟩; refine ⟨_, rfl, ?_⟩; have p254 : 0 ≤ (x4_1 : Int) := of_decide_eq_true (by assumption); have q254 : x4_1 < (t249.length : Int) := of_decide_eq_true (by assumption); obtain ⟨ad254, e254, hx254_0⟩ := Kd.at_string (Kd.R_reads' HO_3.out).2.2 x4_1 p254 q254; obtain rfl : ad252 = ad254 := (by injection e254); replace p254 := eq_true p254; replace q254 := eq_true q254))
         go_ret
         exact ⟨by first | rfl | (simp [*] <;> rfl), by repeat (with_reducible first | exact HB.out | apply ba | apply bn | apply bd)⟩
        ·rw [if_neg c11] at H
         have c11b0 : decide (1 < ((rdOf ByteArray.empty t249 x4_1).size : Int)) = false := decide_eq_false c11
         have c11b1 : decide (1 < (rdOf ByteArray.empty t249 x4_1).size) = false := decide_eq_false (by omega)
         clear c11
         by_cases c13 : (rdOf ByteArray.empty t249 x4_1).toList = ([35] : List UInt8)
         ·rw [if_pos c13] at H
          have c13b0 : ((rdOf ByteArray.empty t249 x4_1).toList == ([35] : List UInt8)) = true := beq_iff_eq.mpr c13
          have c13b1 : ((rdOf ByteArray.empty t249 x4_1).toList != ([35] : List UInt8)) = false := bne_eq_false_iff_eq.mpr c13
          clear c13
          by_cases c14 : (wrap64 (x4_1 + 1)) < (t249.length : Int)
          ·rw [if_pos c14] at H
           have c14b0 : decide ((wrap64 (x4_1 + 1)) < (t249.length : Int)) = true := decide_eq_true c14
           clear c14
           obtain rfl := Option.some.inj H
           obtain ⟨Ao15, co15, eo15⟩ := Kd.R_slice HO_3.out
           subst eo15
           have p252 : 0 ≤ (x4_1 : Int) := of_decide_eq_true (by assumption)
           have q252 : x4_1 < (t249.length : Int) := of_decide_eq_true (by assumption)
           obtain ⟨ad252, e252, hx252_0⟩ := Kd.at_string (Kd.R_reads' HO_3.out).2.2 x4_1 p252 q252
           cases e252
           replace p252 := eq_true p252
           replace q252 := eq_true q252
           go_wp2_with (first | ((with_reducible refine gate_callee (f := 169) rfl ?_); refine goesL_ (some 23) rfl rfl Tryz.func169 (by kernel_rfl) rfl #[.string (rdOf ByteArray.empty t249 x4_1)] rfl (by (try simp only [List.map_toArray, List.map_cons, List.map_nil]); first | done | rfl | (simp only [List.length_drop, List.length_take]; rfl)) ?_; (with_reducible refine (crierref5_sign.calls k1 (rdOf ByteArray.empty t249 x4_1) true _ A9.out).mono ?_); rintro e w' ⟨rfl, ⟨nd, rfl⟩⟩; refine ⟨_, rfl, ?_⟩; have p254 : 0 ≤ (x4_1 : Int) := of_decide_eq_true (by assumption); have q254 : x4_1 < (t249.length : Int) := of_decide_eq_true (by assumption); obtain ⟨ad254, e254, hx254_0⟩ := Kd.at_string (Kd.R_reads' HO_3.out).2.2 x4_1 p254 q254; obtain rfl : ad252 = ad254 := (by injection e254); replace p254 := eq_true p254; replace q254 := eq_true q254; have p255 : 0 ≤ (x4_1 : Int) := of_decide_eq_true (by assumption); have q255 : x4_1 < (t249.length : Int) := of_decide_eq_true (by assumption); obtain ⟨ad255, e255, hx255_0⟩ := Kd.at_string (Kd.R_reads' HO_3.out).2.2 x4_1 p255 q255; obtain rfl : ad252 = ad255 := (by injection e255); replace p255 := eq_true p255; replace q255 := eq_true q255))
           go_ret
           exact ⟨by first | rfl | (simp [*] <;> rfl), by repeat (with_reducible first | exact HB.out | apply ba | apply bn | apply bd)⟩
          ·rw [if_neg c14] at H
           have c14b0 : decide ((wrap64 (x4_1 + 1)) < (t249.length : Int)) = false := decide_eq_false c14
           clear c14
           have H' := am H
           clear H
           obtain ⟨Ao16, co16, eo16⟩ := Kd.R_slice HO_3.out
           subst eo16
           have p252 : 0 ≤ (x4_1 : Int) := of_decide_eq_true (by assumption)
           have q252 : x4_1 < (t249.length : Int) := of_decide_eq_true (by assumption)
           obtain ⟨ad252, e252, hx252_0⟩ := Kd.at_string (Kd.R_reads' HO_3.out).2.2 x4_1 p252 q252
           cases e252
           replace p252 := eq_true p252
           replace q252 := eq_true q252
           go_wp2_with (first | ((with_reducible refine gate_callee (f := 169) rfl ?_); refine goesL_ (some 23) rfl rfl Tryz.func169 (by kernel_rfl) rfl #[.string (rdOf ByteArray.empty t249 x4_1)] rfl (by (try simp only [List.map_toArray, List.map_cons, List.map_nil]); first | done | rfl | (simp only [List.length_drop, List.length_take]; rfl)) ?_; (with_reducible refine (crierref5_sign.calls k1 (rdOf ByteArray.empty t249 x4_1) true _ A9.out).mono ?_); rintro e w' ⟨rfl, ⟨nd, rfl⟩⟩; refine ⟨_, rfl, ?_⟩; have p254 : 0 ≤ (x4_1 : Int) := of_decide_eq_true (by assumption); have q254 : x4_1 < (t249.length : Int) := of_decide_eq_true (by assumption); obtain ⟨ad254, e254, hx254_0⟩ := Kd.at_string (Kd.R_reads' HO_3.out).2.2 x4_1 p254 q254; obtain rfl : ad252 = ad254 := (by injection e254); replace p254 := eq_true p254; replace q254 := eq_true q254; have p255 : 0 ≤ (x4_1 : Int) := of_decide_eq_true (by assumption); have q255 : x4_1 < (t249.length : Int) := of_decide_eq_true (by assumption); obtain ⟨ad255, e255, hx255_0⟩ := Kd.at_string (Kd.R_reads' HO_3.out).2.2 x4_1 p255 q255; obtain rfl : ad252 = ad255 := (by injection e255); replace p255 := eq_true p255; replace q255 := eq_true q255))
           go_roundg k1
           case measure => have := HK1.out; omega
           case rel => exact ⟨(wrap64 (x4_1 + 1)), (by first | rfl | (simp; done) | (simp [*]; done)), H', ⟨by have := HK1.out; omega⟩, ⟨by (with_reducible repeat (first | apply ra | apply rn | apply rd)); exact HO_3.out⟩, ⟨by repeat (with_reducible first | exact HB.out | apply ba | apply bn | apply bd)⟩⟩
         ·rw [if_neg c13] at H
          have c13b0 : ((rdOf ByteArray.empty t249 x4_1).toList == ([35] : List UInt8)) = false := beq_eq_false_iff_ne.mpr c13
          have c13b1 : ((rdOf ByteArray.empty t249 x4_1).toList != ([35] : List UInt8)) = true := bne_iff_ne.mpr c13
          have H' := am H
          clear H
          obtain ⟨Ao17, co17, eo17⟩ := Kd.R_slice HO_3.out
          subst eo17
          have p252 : 0 ≤ (x4_1 : Int) := of_decide_eq_true (by assumption)
          have q252 : x4_1 < (t249.length : Int) := of_decide_eq_true (by assumption)
          obtain ⟨ad252, e252, hx252_0⟩ := Kd.at_string (Kd.R_reads' HO_3.out).2.2 x4_1 p252 q252
          cases e252
          replace p252 := eq_true p252
          replace q252 := eq_true q252
          go_wp2_with (first | ((with_reducible refine gate_callee (f := 169) rfl ?_); refine goesL_ (some 23) rfl rfl Tryz.func169 (by kernel_rfl) rfl #[.string (rdOf ByteArray.empty t249 x4_1)] rfl (by (try simp only [List.map_toArray, List.map_cons, List.map_nil]); first | done | rfl | (simp only [List.length_drop, List.length_take]; rfl)) ?_; (with_reducible refine (crierref5_sign.calls k1 (rdOf ByteArray.empty t249 x4_1) true _ A9.out).mono ?_); rintro e w' ⟨rfl, ⟨nd, rfl⟩⟩; refine ⟨_, rfl, ?_⟩; have p254 : 0 ≤ (x4_1 : Int) := of_decide_eq_true (by assumption); have q254 : x4_1 < (t249.length : Int) := of_decide_eq_true (by assumption); obtain ⟨ad254, e254, hx254_0⟩ := Kd.at_string (Kd.R_reads' HO_3.out).2.2 x4_1 p254 q254; obtain rfl : ad252 = ad254 := (by injection e254); replace p254 := eq_true p254; replace q254 := eq_true q254; have p255 : 0 ≤ (x4_1 : Int) := of_decide_eq_true (by assumption); have q255 : x4_1 < (t249.length : Int) := of_decide_eq_true (by assumption); obtain ⟨ad255, e255, hx255_0⟩ := Kd.at_string (Kd.R_reads' HO_3.out).2.2 x4_1 p255 q255; obtain rfl : ad252 = ad255 := (by injection e255); replace p255 := eq_true p255; replace q255 := eq_true q255))
          go_roundg k1
          case measure => have := HK1.out; omega
          case rel => exact ⟨(wrap64 (x4_1 + 1)), (by first | rfl | (simp; done) | (simp [*]; done)), H', ⟨by have := HK1.out; omega⟩, ⟨by (with_reducible repeat (first | apply ra | apply rn | apply rd)); exact HO_3.out⟩, ⟨by repeat (with_reducible first | exact HB.out | apply ba | apply bn | apply bd)⟩⟩
       ·replace c10 := Bool.eq_false_iff.mpr c10
        subst c10
        rw [if_neg (show ¬ (false = true) by decide)] at H
        by_cases c18 : (rdOf ByteArray.empty t249 x4_1).toList = ([35] : List UInt8)
        ·rw [if_pos c18] at H
         have c18b0 : ((rdOf ByteArray.empty t249 x4_1).toList == ([35] : List UInt8)) = true := beq_iff_eq.mpr c18
         have c18b1 : ((rdOf ByteArray.empty t249 x4_1).toList != ([35] : List UInt8)) = false := bne_eq_false_iff_eq.mpr c18
         clear c18
         by_cases c19 : (wrap64 (x4_1 + 1)) < (t249.length : Int)
         ·rw [if_pos c19] at H
          have c19b0 : decide ((wrap64 (x4_1 + 1)) < (t249.length : Int)) = true := decide_eq_true c19
          clear c19
          obtain rfl := Option.some.inj H
          obtain ⟨Ao20, co20, eo20⟩ := Kd.R_slice HO_3.out
          subst eo20
          have p252 : 0 ≤ (x4_1 : Int) := of_decide_eq_true (by assumption)
          have q252 : x4_1 < (t249.length : Int) := of_decide_eq_true (by assumption)
          obtain ⟨ad252, e252, hx252_0⟩ := Kd.at_string (Kd.R_reads' HO_3.out).2.2 x4_1 p252 q252
          cases e252
          replace p252 := eq_true p252
          replace q252 := eq_true q252
          go_wp2_with (first | ((with_reducible refine gate_callee (f := 169) rfl ?_); refine goesL_ (some 23) rfl rfl Tryz.func169 (by kernel_rfl) rfl #[.string (rdOf ByteArray.empty t249 x4_1)] rfl (by (try simp only [List.map_toArray, List.map_cons, List.map_nil]); first | done | rfl | (simp only [List.length_drop, List.length_take]; rfl)) ?_; (with_reducible refine (crierref5_sign.calls k1 (rdOf ByteArray.empty t249 x4_1) false _ A9.out).mono ?_); rintro e w' ⟨rfl, ⟨nd, rfl⟩⟩; refine ⟨_, rfl, ?_⟩; have p256 : 0 ≤ (x4_1 : Int) := of_decide_eq_true (by assumption); have q256 : x4_1 < (t249.length : Int) := of_decide_eq_true (by assumption); obtain ⟨ad256, e256, hx256_0⟩ := Kd.at_string (Kd.R_reads' HO_3.out).2.2 x4_1 p256 q256; obtain rfl : ad252 = ad256 := (by injection e256); replace p256 := eq_true p256; replace q256 := eq_true q256))
          go_ret
          exact ⟨by first | rfl | (simp [*] <;> rfl), by repeat (with_reducible first | exact HB.out | apply ba | apply bn | apply bd)⟩
         ·rw [if_neg c19] at H
          have c19b0 : decide ((wrap64 (x4_1 + 1)) < (t249.length : Int)) = false := decide_eq_false c19
          clear c19
          have H' := am H
          clear H
          obtain ⟨Ao21, co21, eo21⟩ := Kd.R_slice HO_3.out
          subst eo21
          have p252 : 0 ≤ (x4_1 : Int) := of_decide_eq_true (by assumption)
          have q252 : x4_1 < (t249.length : Int) := of_decide_eq_true (by assumption)
          obtain ⟨ad252, e252, hx252_0⟩ := Kd.at_string (Kd.R_reads' HO_3.out).2.2 x4_1 p252 q252
          cases e252
          replace p252 := eq_true p252
          replace q252 := eq_true q252
          go_wp2_with (first | ((with_reducible refine gate_callee (f := 169) rfl ?_); refine goesL_ (some 23) rfl rfl Tryz.func169 (by kernel_rfl) rfl #[.string (rdOf ByteArray.empty t249 x4_1)] rfl (by (try simp only [List.map_toArray, List.map_cons, List.map_nil]); first | done | rfl | (simp only [List.length_drop, List.length_take]; rfl)) ?_; (with_reducible refine (crierref5_sign.calls k1 (rdOf ByteArray.empty t249 x4_1) false _ A9.out).mono ?_); rintro e w' ⟨rfl, ⟨nd, rfl⟩⟩; refine ⟨_, rfl, ?_⟩; have p256 : 0 ≤ (x4_1 : Int) := of_decide_eq_true (by assumption); have q256 : x4_1 < (t249.length : Int) := of_decide_eq_true (by assumption); obtain ⟨ad256, e256, hx256_0⟩ := Kd.at_string (Kd.R_reads' HO_3.out).2.2 x4_1 p256 q256; obtain rfl : ad252 = ad256 := (by injection e256); replace p256 := eq_true p256; replace q256 := eq_true q256))
          go_roundg k1
          case measure => have := HK1.out; omega
          case rel => exact ⟨(wrap64 (x4_1 + 1)), (by first | rfl | (simp; done) | (simp [*]; done)), H', ⟨by have := HK1.out; omega⟩, ⟨by (with_reducible repeat (first | apply ra | apply rn | apply rd)); exact HO_3.out⟩, ⟨by repeat (with_reducible first | exact HB.out | apply ba | apply bn | apply bd)⟩⟩
        ·rw [if_neg c18] at H
         have c18b0 : ((rdOf ByteArray.empty t249 x4_1).toList == ([35] : List UInt8)) = false := beq_eq_false_iff_ne.mpr c18
         have c18b1 : ((rdOf ByteArray.empty t249 x4_1).toList != ([35] : List UInt8)) = true := bne_iff_ne.mpr c18
         have H' := am H
         clear H
         obtain ⟨Ao22, co22, eo22⟩ := Kd.R_slice HO_3.out
         subst eo22
         have p252 : 0 ≤ (x4_1 : Int) := of_decide_eq_true (by assumption)
         have q252 : x4_1 < (t249.length : Int) := of_decide_eq_true (by assumption)
         obtain ⟨ad252, e252, hx252_0⟩ := Kd.at_string (Kd.R_reads' HO_3.out).2.2 x4_1 p252 q252
         cases e252
         replace p252 := eq_true p252
         replace q252 := eq_true q252
         go_wp2_with (first | ((with_reducible refine gate_callee (f := 169) rfl ?_); refine goesL_ (some 23) rfl rfl Tryz.func169 (by kernel_rfl) rfl #[.string (rdOf ByteArray.empty t249 x4_1)] rfl (by (try simp only [List.map_toArray, List.map_cons, List.map_nil]); first | done | rfl | (simp only [List.length_drop, List.length_take]; rfl)) ?_; (with_reducible refine (crierref5_sign.calls k1 (rdOf ByteArray.empty t249 x4_1) false _ A9.out).mono ?_); rintro e w' ⟨rfl, ⟨nd, rfl⟩⟩; refine ⟨_, rfl, ?_⟩; have p256 : 0 ≤ (x4_1 : Int) := of_decide_eq_true (by assumption); have q256 : x4_1 < (t249.length : Int) := of_decide_eq_true (by assumption); obtain ⟨ad256, e256, hx256_0⟩ := Kd.at_string (Kd.R_reads' HO_3.out).2.2 x4_1 p256 q256; obtain rfl : ad252 = ad256 := (by injection e256); replace p256 := eq_true p256; replace q256 := eq_true q256))
         go_roundg k1
         case measure => have := HK1.out; omega
         case rel => exact ⟨(wrap64 (x4_1 + 1)), (by first | rfl | (simp; done) | (simp [*]; done)), H', ⟨by have := HK1.out; omega⟩, ⟨by (with_reducible repeat (first | apply ra | apply rn | apply rd)); exact HO_3.out⟩, ⟨by repeat (with_reducible first | exact HB.out | apply ba | apply bn | apply bd)⟩⟩
      ·rw [if_neg c8] at H
       exact absurd H (by simp)
     ·rw [if_neg c7] at H
      have c7b0 : decide (x4_1 < (t249.length : Int)) = false := decide_eq_false c7
      clear c7
      obtain rfl := Option.some.inj H
      obtain ⟨Ao23, co23, eo23⟩ := Kd.R_slice HO_3.out
      subst eo23
      go_wp2
      go_ret
      exact ⟨by first | rfl | (simp [*] <;> rfl), by repeat (with_reducible first | exact HB.out | apply ba | apply bn | apply bd)⟩
  ·replace c4 := Bool.eq_false_iff.mpr c4
   subst c4
   rw [if_neg (show ¬ (false = true) by decide)] at H
   obtain rfl := Option.some.inj H
   go_enter Tryz.func156, Tryz.ntmps156
   go_wp2_with (first | ((with_reducible refine gate_callee (f := 171) rfl ?_); refine goesL_ (some 9) rfl rfl Tryz.func171 (by kernel_rfl) rfl #[.string a0] rfl (by (try simp only [List.map_toArray, List.map_cons, List.map_nil]); first | done | rfl | (simp only [List.length_drop, List.length_take]; rfl)) ?_; (with_reducible refine (crierref5_Text.calls k a0 false _ A3.out).mono ?_); rintro e w' ⟨rfl, ⟨nd, rfl⟩⟩; refine ⟨_, rfl, ?_⟩))
   go_ret
   exact ⟨by first | rfl | (simp [*] <;> rfl), by repeat (with_reducible first | exact HB.out | apply ba | apply bn | apply bd)⟩

/-! ### crierref5_Join: function 170 -/
def crierref5_Join.l0 : Nat → List ByteArray → List Int → Int → Option (ByteArray)
 | 0, _, _, _ => none
 | k + 1, x0, x3, x4 => if x4 < (x0.length : Int) then (if x4 > 0 then (if x3.length < 140737488355328 then ((some (x3 ++ [47] : List Int)).bind fun y257 => (if 0 ≤ x4 then (if y257.length + (rdOf ByteArray.empty x0 x4).size < 140737488355328 then (crierref5_Join.l0 k x0 (y257 ++ bytesOf (rdOf ByteArray.empty x0 x4)) (wrap64 (x4 + 1))) else (none)) else (none))) else (none)) else (if 0 ≤ x4 then (if x3.length + (rdOf ByteArray.empty x0 x4).size < 140737488355328 then (crierref5_Join.l0 k x0 (x3 ++ bytesOf (rdOf ByteArray.empty x0 x4)) (wrap64 (x4 + 1))) else (none)) else (none))) else (some (strOfNums x3))
def crierref5_Join.f (k : Nat) (l0 : List ByteArray) : Option (ByteArray) := crierref5_Join.l0 k l0 ([] : List Int) 0
set_option maxHeartbeats 8000000 in
set_option maxRecDepth 100000 in
theorem crierref5_Join.calls (k : Nat) (A0 : Option Addr) (c0 : Nat) (l0 : List ByteArray) (r : ByteArray) (w : World) (hr0 : Kd.C Kd.string w A0 l0.length l0) (hc0 : l0.length ≤ c0) (h : crierref5_Join.f k l0 = some r) :
  Calls Tryz.prog 170 #[.slice A0 l0.length c0] w fun e w' => e = .returned (.string r) ∧ Below w.heap.size w w' := by
 have HR0 := am hr0
 have HC0 := am hc0
 clear hr0 hc0
 have HB := am (Below.refl w.heap.size w)
 have H : (crierref5_Join.l0 k l0 ([] : List Int) 0) = some r := h
 clear h
 have H' := am H
 clear H
 go_enter Tryz.func170, Tryz.ntmps170
 go_wp2
 go_loopg [3, 4] k (fun kq v3 v4 w' => ∃ (x3_1 : List Int) (x4_1 : Int), v4 = .int .i64 x4_1 ∧ Aside0 (crierref5_Join.l0 kq l0 x3_1 x4_1 = some r) ∧ Aside0 (kq ≤ k) ∧ Aside0 (Kd.R (Kd.int .u8) 5 w' w.heap.size (fun _ => True) v3 x3_1) ∧ Aside0 (Below w.heap.size w w'))
 case atStart => exact ⟨(([] : List Int)), (0), (by first | rfl | (simp; done) | (simp [*]; done)), H', ⟨Nat.le_refl _⟩, ⟨by first | exact Kd.R_nil _ _ _ _ _ | exact Kd.N_nil _ _ _ _ _ | exact Kd.V_nil _ _ _ _ _ | exact Kd.Q_nil _ _ _ _ _ | exact Kd.S_nil _ _ _ _ _⟩, ⟨by repeat (with_reducible first | exact HB.out | apply ba | apply bn | apply bd)⟩⟩
 case round =>
  clear H'
  try clear c1
  obtain ⟨x3_1, x4_1, rfl, HA, HK1, HO_3, HB⟩ := hrel
  cases gk with
  | zero => exact absurd HA.out (by simp [crierref5_Join.l0])
  | succ k1 =>
   have H := HA.out
   clear HA
   simp only [crierref5_Join.l0] at H
   by_cases c2 : x4_1 < (l0.length : Int)
   ·rw [if_pos c2] at H
    have c2b0 : decide (x4_1 < (l0.length : Int)) = true := decide_eq_true c2
    clear c2
    by_cases c3 : x4_1 > 0
    ·rw [if_pos c3] at H
     have c3b0 : decide (0 < x4_1) = true := decide_eq_true c3
     clear c3
     by_cases c4 : x3_1.length < 140737488355328
     ·rw [if_pos c4] at H
      have LMc4 := am c4
      clear c4
      obtain ⟨y257, hy257⟩ : ∃ y_ : List Int, y_ = (x3_1 ++ [47]) := ⟨_, rfl⟩
      replace H : (if 0 ≤ x4_1 then (if y257.length + (rdOf ByteArray.empty l0 x4_1).size < 140737488355328 then (crierref5_Join.l0 k1 l0 (y257 ++ bytesOf (rdOf ByteArray.empty l0 x4_1)) (wrap64 (x4_1 + 1))) else (none)) else (none)) = some r := by first | (rw [hy257]; with_reducible exact H) | (have H2_ := (Option.bind_some _ _).symm.trans H; rw [hy257]; with_reducible exact H2_) | (have H2_ := (Option.bind_some _ _).symm.trans H; with_reducible exact H2_) | with_reducible exact H | (rw [hy257]; exact H) | exact H
      have Ny257 := am hy257
      clear hy257
      by_cases c5 : 0 ≤ x4_1
      ·rw [if_pos c5] at H
       have c5b0 : decide (0 ≤ x4_1) = true := decide_eq_true c5
       clear c5
       by_cases c6 : y257.length + (rdOf ByteArray.empty l0 x4_1).size < 140737488355328
       ·rw [if_pos c6] at H
        have LMc6 := am c6
        clear c6
        obtain ⟨y261, hy261⟩ : ∃ y_ : List Int, y_ = (y257 ++ bytesOf (rdOf ByteArray.empty l0 x4_1)) := ⟨_, rfl⟩
        replace H : (crierref5_Join.l0 k1 l0 y261 (wrap64 (x4_1 + 1))) = some r := by first | (rw [hy261]; with_reducible exact H) | (have H2_ := (Option.bind_some _ _).symm.trans H; rw [hy261]; with_reducible exact H2_) | (have H2_ := (Option.bind_some _ _).symm.trans H; with_reducible exact H2_) | with_reducible exact H | (rw [hy261]; exact H) | exact H
        have Ny261 := am hy261
        clear hy261
        have H' := am H
        clear H
        go_wp2_with (first | ((with_reducible refine gate_builtin (b := .append) (xs := #[.tmp 13, .tmp 14]) rfl ?_); at_builtin; refine Kd.R_append (Kd.int .u8) (w0 := w) w.heap.size rfl (.tmp 13) (.tmp 14) 72 5 (.int .u8 0) 1 rfl Tryz.underlying72 info5 rfl (by decide) (by omega) u3 x3_1 47 [.int .u8 47] (fun _ => True) (fun _ => False) rfl rfl ?aP (fun _ hk => hk.elim) ?aF ?aO ?aB ?aS ?aL ?_; (case aP => exact rfl); (case aB => exact (by repeat (with_reducible first | exact HB.out | apply ba | apply bn | apply bd))); (case aF => exact (fun _ _ => trivial)); (case aO => exact (by (with_reducible repeat (first | apply ra | apply rn | apply rd)); exact HO_3.out)); (case aS => exact (below_size (by repeat (with_reducible first | exact HB.out | apply ba | apply bn | apply bd)))); (case aL => have := LMc4.out; omega); intro v258 w7 ho hb hg hat; rw [← Ny257.out] at ho; have n0_ := am (hb); have n1_ := am (ho); clear HB; clear HO_3; have HB := n0_; have HO259 := n1_; clear n0_ n1_; clear ho hb hg hat; have p260 : 0 ≤ (x4_1 : Int) := of_decide_eq_true (by assumption); have q260 : x4_1 < (l0.length : Int) := of_decide_eq_true (by assumption); obtain ⟨ad260, e260, hx260_0⟩ := Kd.at_string HR0.out x4_1 p260 q260; cases e260; replace hx260_0 := (HB.out.cell (World.block_lt_of_cell? w _ hx260_0)).trans hx260_0; replace p260 := eq_true p260; replace q260 := eq_true q260) | (at_builtin; refine print_append_str (w0 := w) w.heap.size rfl (.tmp 16) _ 72 9 5 rfl Tryz.underlying72 Tryz.underlying9 info5 v258 y257 (rdOf ByteArray.empty l0 x4_1) rfl rfl ?aO ?aB ?aS ?aL ?_; (case aB => exact (by repeat (with_reducible first | exact HB.out | apply ba | apply bn | apply bd))); (case aO => exact (Kd.own_of_R (by (with_reducible repeat (first | apply ra | apply rn | apply rd)); exact HO259.out))); (case aS => exact (below_size (by repeat (with_reducible first | exact HB.out | apply ba | apply bn | apply bd)))); (case aL => have := LMc6.out; omega); intro v262 w8 ho0 hb hg; have ho := Kd.R_of_own (h1 := fun _ => rfl) (ok := fun _ => True) ho0 (fun _ _ => trivial); clear ho0; have hat := True.intro; rw [← Ny261.out] at ho; change Kd.R (Kd.int .u8) 5 w8 w.heap.size (fun _ => True) v262 y261 at ho; have n0_ := am (hb); have n1_ := am (ho); clear HB; clear HO259; have HB := n0_; have HO263 := n1_; clear n0_ n1_; clear ho hb hg hat))
        go_roundg k1
        case measure => have := HK1.out; omega
        case rel => exact ⟨(y261), (wrap64 (x4_1 + 1)), (by first | rfl | (simp; done) | (simp [*]; done)), H', ⟨by have := HK1.out; omega⟩, ⟨by (with_reducible repeat (first | apply ra | apply rn | apply rd)); exact HO263.out⟩, ⟨by repeat (with_reducible first | exact HB.out | apply ba | apply bn | apply bd)⟩⟩
       ·rw [if_neg c6] at H
        exact absurd H (by simp)
      ·rw [if_neg c5] at H
       exact absurd H (by simp)
     ·rw [if_neg c4] at H
      exact absurd H (by simp)
    ·rw [if_neg c3] at H
     have c3b0 : decide (0 < x4_1) = false := decide_eq_false c3
     clear c3
     by_cases c9 : 0 ≤ x4_1
     ·rw [if_pos c9] at H
      have c9b0 : decide (0 ≤ x4_1) = true := decide_eq_true c9
      clear c9
      by_cases c10 : x3_1.length + (rdOf ByteArray.empty l0 x4_1).size < 140737488355328
      ·rw [if_pos c10] at H
       have LMc10 := am c10
       clear c10
       obtain ⟨y265, hy265⟩ : ∃ y_ : List Int, y_ = (x3_1 ++ bytesOf (rdOf ByteArray.empty l0 x4_1)) := ⟨_, rfl⟩
       replace H : (crierref5_Join.l0 k1 l0 y265 (wrap64 (x4_1 + 1))) = some r := by first | (rw [hy265]; with_reducible exact H) | (have H2_ := (Option.bind_some _ _).symm.trans H; rw [hy265]; with_reducible exact H2_) | (have H2_ := (Option.bind_some _ _).symm.trans H; with_reducible exact H2_) | with_reducible exact H | (rw [hy265]; exact H) | exact H
       have Ny265 := am hy265
       clear hy265
       have H' := am H
       clear H
       have p264 : 0 ≤ (x4_1 : Int) := of_decide_eq_true (by assumption)
       have q264 : x4_1 < (l0.length : Int) := of_decide_eq_true (by assumption)
       obtain ⟨ad264, e264, hx264_0⟩ := Kd.at_string HR0.out x4_1 p264 q264
       cases e264
       replace hx264_0 := (HB.out.cell (World.block_lt_of_cell? w _ hx264_0)).trans hx264_0
       replace p264 := eq_true p264
       replace q264 := eq_true q264
       go_wp2_with (first | (at_builtin; refine print_append_str (w0 := w) w.heap.size rfl (.tmp 16) _ 72 9 5 rfl Tryz.underlying72 Tryz.underlying9 info5 u3 x3_1 (rdOf ByteArray.empty l0 x4_1) rfl rfl ?aO ?aB ?aS ?aL ?_; (case aB => exact (by repeat (with_reducible first | exact HB.out | apply ba | apply bn | apply bd))); (case aO => exact (Kd.own_of_R (by (with_reducible repeat (first | apply ra | apply rn | apply rd)); exact HO_3.out))); (case aS => exact (below_size (by repeat (with_reducible first | exact HB.out | apply ba | apply bn | apply bd)))); (case aL => have := LMc10.out; omega); intro v266 w11 ho0 hb hg; have ho := Kd.R_of_own (h1 := fun _ => rfl) (ok := fun _ => True) ho0 (fun _ _ => trivial); clear ho0; have hat := True.intro; rw [← Ny265.out] at ho; change Kd.R (Kd.int .u8) 5 w11 w.heap.size (fun _ => True) v266 y265 at ho; have n0_ := am (hb); have n1_ := am (ho); clear HB; clear HO_3; have HB := n0_; have HO267 := n1_; clear n0_ n1_; clear ho hb hg hat))
       go_roundg k1
       case measure => have := HK1.out; omega
       case rel => exact ⟨(y265), (wrap64 (x4_1 + 1)), (by first | rfl | (simp; done) | (simp [*]; done)), H', ⟨by have := HK1.out; omega⟩, ⟨by (with_reducible repeat (first | apply ra | apply rn | apply rd)); exact HO267.out⟩, ⟨by repeat (with_reducible first | exact HB.out | apply ba | apply bn | apply bd)⟩⟩
      ·rw [if_neg c10] at H
       exact absurd H (by simp)
     ·rw [if_neg c9] at H
      exact absurd H (by simp)
   ·rw [if_neg c2] at H
    have c2b0 : decide (x4_1 < (l0.length : Int)) = false := decide_eq_false c2
    clear c2
    obtain rfl := Option.some.inj H
    have hcv12 := own_string (P := Tryz.prog) Tryz.underlying72 Tryz.underlying5 Tryz.underlying9 (Kd.own_of_R HO_3.out)
    go_wp2
    go_ret
    exact ⟨by first | rfl | (simp [*] <;> rfl), by repeat (with_reducible first | exact HB.out | apply ba | apply bn | apply bd)⟩

/-! ### crierref5_Shared: function 155 -/
def crierref5_Shared.j0 : Nat → List ByteArray → Bool → Option (ByteArray × ByteArray × Bool)
 | 0, _, _ => none
 | k + 1, x5, x34 => if x34 = true then (some ((⟨#[]⟩ : ByteArray), (⟨#[]⟩ : ByteArray), false)) else (if 2 ≤ (x5.length : Int) then ((crierref5_Join.f k (x5.drop 2)).bind fun t280 => ((crierref5_CheckFilter.f k t280).bind fun t281 => (if t281 = 0 then (if 1 < (x5.length : Int) then (some (rdOf ByteArray.empty x5 1, t280, true)) else (none)) else (some ((⟨#[]⟩ : ByteArray), (⟨#[]⟩ : ByteArray), false))))) else (none))
def crierref5_Shared.f (k : Nat) (a0 : ByteArray) : Option (ByteArray × ByteArray × Bool) := (crierref5_Levels.f k a0).bind fun t268 => ((crierref5_CheckFilter.f k a0).bind fun t271 => (if t271 = 0 then (if (t268.length : Int) < 3 then (crierref5_Shared.j0 k t268 true) else (if 0 < (t268.length : Int) then (if (rdOf ByteArray.empty t268 0).toList = ([36, 115, 104, 97, 114, 101] : List UInt8) then (if 1 < (t268.length : Int) then (if (rdOf ByteArray.empty t268 1).toList = ([] : List UInt8) then (crierref5_Shared.j0 k t268 true) else ((crierref5_sign.f k (rdOf ByteArray.empty t268 1)).bind fun t275 => (crierref5_Shared.j0 k t268 t275))) else (none)) else (crierref5_Shared.j0 k t268 true)) else (none))) else (crierref5_Shared.j0 k t268 true)))
set_option maxHeartbeats 8000000 in
set_option maxRecDepth 100000 in
theorem crierref5_Shared.calls (k : Nat) (a0 : ByteArray) (r1 : ByteArray) (r2 : ByteArray) (r3 : Bool) (w : World) (h : crierref5_Shared.f k a0 = some (r1, r2, r3)) :
  Calls Tryz.prog 155 #[.string a0] w fun e w' => e = .returned (.tuple #[.string r1, .string r2, .bool r3]) ∧ Below w.heap.size w w' := by
 have HB := am (Below.refl w.heap.size w)
 have H : ((crierref5_Levels.f k a0).bind fun t268 => ((crierref5_CheckFilter.f k a0).bind fun t271 => (if t271 = 0 then (if (t268.length : Int) < 3 then (crierref5_Shared.j0 k t268 true) else (if 0 < (t268.length : Int) then (if (rdOf ByteArray.empty t268 0).toList = ([36, 115, 104, 97, 114, 101] : List UInt8) then (if 1 < (t268.length : Int) then (if (rdOf ByteArray.empty t268 1).toList = ([] : List UInt8) then (crierref5_Shared.j0 k t268 true) else ((crierref5_sign.f k (rdOf ByteArray.empty t268 1)).bind fun t275 => (crierref5_Shared.j0 k t268 t275))) else (none)) else (crierref5_Shared.j0 k t268 true)) else (none))) else (crierref5_Shared.j0 k t268 true)))) = some (r1, r2, r3) := h
 clear h
 replace H := Option.bind_eq_some_iff.mp H
 obtain ⟨t268, A20, H⟩ := H
 try dsimp only at H
 have A2 := am A20
 clear A20
 have HC3 := am H
 clear H
 go_enter Tryz.func155, Tryz.ntmps155
 go_upto_region 2 with (first | ((with_reducible refine gate_callee (f := 157) rfl ?_); refine goesL_ (some 8) rfl rfl Tryz.func157 (by kernel_rfl) rfl #[.string a0] rfl (by (try simp only [List.map_toArray, List.map_cons, List.map_nil]); first | done | rfl | (simp only [List.length_drop, List.length_take]; rfl)) ?_; (with_reducible refine (crierref5_Levels.calls k a0 t268 _ A2.out).mono ?_); rintro e w4 ⟨v269, rfl, ho0, hb⟩; refine ⟨_, rfl, ?_⟩; have n0_ := am (Kd.R_lower ho0 (below_size (by repeat (with_reducible first | exact HB.out | apply ba | apply bn | apply bd)))); have n1_ := am (below_step (by repeat (with_reducible first | exact HB.out | apply ba | apply bn | apply bd)) hb); clear HB; have HO270 := n0_; have HB := n1_; clear n0_ n1_; (try clear hb); (try clear ho0)))
 (try simp only [Act.put, List.setIfInBounds_toArray, List.set_cons_zero, List.set_cons_succ])
 go_cut [34] (fun v34 wc => ∃ (kq : Nat) (x34_2 : Bool), v34 = .bool x34_2 ∧ Aside0 (crierref5_Shared.j0 kq t268 x34_2 = some (r1, r2, r3)) ∧ Aside0 (kq ≤ k) ∧ Aside0 (Kd.R Kd.string 9 wc w.heap.size (fun _ => True) v269 t268) ∧ Aside0 (Below w.heap.size w wc))
 case first =>
  have H := HC3.out
  clear HC3
  replace H := Option.bind_eq_some_iff.mp H
  obtain ⟨t271, A50, H⟩ := H
  try dsimp only at H
  have A5 := am A50
  clear A50
  by_cases c6 : t271 = 0
  ·rw [if_pos c6] at H
   have c6b0 : (t271 == 0) = true := beq_iff_eq.mpr c6
   have c6b1 : (t271 != 0) = false := bne_eq_false_iff_eq.mpr c6
   clear c6
   (first | rw [c6b0] | (simp only [i64_w, i32_w]; rw [c6b0]) | skip)
   by_cases c7 : (t268.length : Int) < 3
   ·rw [if_pos c7] at H
    have c7b0 : decide ((t268.length : Int) < 3) = true := decide_eq_true c7
    have c7b1 : decide (t268.length < 3) = true := decide_eq_true (by omega)
    clear c7
    have H' := am H
    clear H
    go_wp2_with (first | ((with_reducible refine gate_callee (f := 156) rfl ?_); refine goesL_ (some 10) rfl rfl Tryz.func156 (by kernel_rfl) rfl #[.string a0] rfl (by (try simp only [List.map_toArray, List.map_cons, List.map_nil]); first | done | rfl | (simp only [List.length_drop, List.length_take]; rfl)) ?_; (with_reducible refine (crierref5_CheckFilter.calls k a0 t271 _ A5.out).mono ?_); rintro e w8 ⟨rfl, hb⟩; refine ⟨_, rfl, ?_⟩; have n0_ := am (Kd.R_below (by (with_reducible repeat (first | apply ra | apply rn | apply rd)); exact HO270.out) hb); have n1_ := am (below_step (by repeat (with_reducible first | exact HB.out | apply ba | apply bn | apply bd)) hb); clear HO270; clear HB; have HO270 := n0_; have HB := n1_; clear n0_ n1_; (try clear hb); obtain ⟨Ao9, co9, eo9⟩ := Kd.R_slice HO270.out; subst eo9))
    go_meet
    case rel => exact ⟨_, (true), (by first | rfl | (simp; done) | (simp [*]; done)), H', ⟨by first | omega | exact Nat.le_refl _⟩, ⟨by (with_reducible repeat (first | apply ra | apply rn | apply rd)); exact HO270.out⟩, ⟨by repeat (with_reducible first | exact HB.out | apply ba | apply bn | apply bd)⟩⟩
   ·rw [if_neg c7] at H
    have c7b0 : decide ((t268.length : Int) < 3) = false := decide_eq_false c7
    have c7b1 : decide (t268.length < 3) = false := decide_eq_false (by omega)
    clear c7
    by_cases c10 : 0 < (t268.length : Int)
    ·rw [if_pos c10] at H
     have c10b0 : decide (0 < (t268.length : Int)) = true := decide_eq_true c10
     have c10b1 : decide (0 < t268.length) = true := decide_eq_true (by omega)
     clear c10
     by_cases c11 : (rdOf ByteArray.empty t268 0).toList = ([36, 115, 104, 97, 114, 101] : List UInt8)
     ·rw [if_pos c11] at H
      have c11b0 : ((rdOf ByteArray.empty t268 0).toList == ([36, 115, 104, 97, 114, 101] : List UInt8)) = true := beq_iff_eq.mpr c11
      have c11b1 : ((rdOf ByteArray.empty t268 0).toList != ([36, 115, 104, 97, 114, 101] : List UInt8)) = false := bne_eq_false_iff_eq.mpr c11
      clear c11
      by_cases c12 : 1 < (t268.length : Int)
      ·rw [if_pos c12] at H
       have c12b0 : decide (1 < (t268.length : Int)) = true := decide_eq_true c12
       have c12b1 : decide (1 < t268.length) = true := decide_eq_true (by omega)
       clear c12
       by_cases c13 : (rdOf ByteArray.empty t268 1).toList = ([] : List UInt8)
       ·rw [if_pos c13] at H
        have c13b0 : ((rdOf ByteArray.empty t268 1).toList == ([] : List UInt8)) = true := beq_iff_eq.mpr c13
        have c13b1 : ((rdOf ByteArray.empty t268 1).toList != ([] : List UInt8)) = false := bne_eq_false_iff_eq.mpr c13
        clear c13
        have H' := am H
        clear H
        go_wp2_with (first | ((with_reducible refine gate_callee (f := 156) rfl ?_); refine goesL_ (some 10) rfl rfl Tryz.func156 (by kernel_rfl) rfl #[.string a0] rfl (by (try simp only [List.map_toArray, List.map_cons, List.map_nil]); first | done | rfl | (simp only [List.length_drop, List.length_take]; rfl)) ?_; (with_reducible refine (crierref5_CheckFilter.calls k a0 t271 _ A5.out).mono ?_); rintro e w14 ⟨rfl, hb⟩; refine ⟨_, rfl, ?_⟩; have n0_ := am (Kd.R_below (by (with_reducible repeat (first | apply ra | apply rn | apply rd)); exact HO270.out) hb); have n1_ := am (below_step (by repeat (with_reducible first | exact HB.out | apply ba | apply bn | apply bd)) hb); clear HO270; clear HB; have HO270 := n0_; have HB := n1_; clear n0_ n1_; (try clear hb); obtain ⟨Ao15, co15, eo15⟩ := Kd.R_slice HO270.out; subst eo15; have p272 : 0 ≤ (0 : Int) := (by omega); have q272 : 0 < (t268.length : Int) := of_decide_eq_true (by assumption); obtain ⟨ad272, e272, hx272_0⟩ := Kd.at_string (Kd.R_reads' HO270.out).2.2 0 p272 q272; cases e272; have qi272 : (0 < t268.length) = True := eq_true (by omega); (try rw [show ((0 : Int)).toNat = 0 from rfl] at hx272_0); (try rw [Addr.add_zero'] at hx272_0); replace p272 := eq_true p272; replace q272 := eq_true q272; have p273 : 0 ≤ (1 : Int) := (by omega); have q273 : 1 < (t268.length : Int) := of_decide_eq_true (by assumption); obtain ⟨ad273, e273, hx273_0⟩ := Kd.at_string (Kd.R_reads' HO270.out).2.2 1 p273 q273; obtain rfl : ad272 = ad273 := (by injection e273); (try simp only [show (1 : Int).toNat = 1 from rfl, Nat.reduceMul, Nat.reduceEqDiff, Go.Addr.add, ↓reduceIte] at hx273_0); have qi273 : (1 < t268.length) = True := eq_true (by omega); (try rw [show ((1 : Int)).toNat = 1 from rfl] at hx273_0); replace p273 := eq_true p273; replace q273 := eq_true q273))
        go_meet
        case rel => exact ⟨_, (true), (by first | rfl | (simp; done) | (simp [*]; done)), H', ⟨by first | omega | exact Nat.le_refl _⟩, ⟨by (with_reducible repeat (first | apply ra | apply rn | apply rd)); exact HO270.out⟩, ⟨by repeat (with_reducible first | exact HB.out | apply ba | apply bn | apply bd)⟩⟩
       ·rw [if_neg c13] at H
        have c13b0 : ((rdOf ByteArray.empty t268 1).toList == ([] : List UInt8)) = false := beq_eq_false_iff_ne.mpr c13
        have c13b1 : ((rdOf ByteArray.empty t268 1).toList != ([] : List UInt8)) = true := bne_iff_ne.mpr c13
        replace H := Option.bind_eq_some_iff.mp H
        obtain ⟨t275, A160, H⟩ := H
        try dsimp only at H
        have A16 := am A160
        clear A160
        have H' := am H
        clear H
        go_wp2_with (first | ((with_reducible refine gate_callee (f := 156) rfl ?_); refine goesL_ (some 10) rfl rfl Tryz.func156 (by kernel_rfl) rfl #[.string a0] rfl (by (try simp only [List.map_toArray, List.map_cons, List.map_nil]); first | done | rfl | (simp only [List.length_drop, List.length_take]; rfl)) ?_; (with_reducible refine (crierref5_CheckFilter.calls k a0 t271 _ A5.out).mono ?_); rintro e w17 ⟨rfl, hb⟩; refine ⟨_, rfl, ?_⟩; have n0_ := am (Kd.R_below (by (with_reducible repeat (first | apply ra | apply rn | apply rd)); exact HO270.out) hb); have n1_ := am (below_step (by repeat (with_reducible first | exact HB.out | apply ba | apply bn | apply bd)) hb); clear HO270; clear HB; have HO270 := n0_; have HB := n1_; clear n0_ n1_; (try clear hb); obtain ⟨Ao18, co18, eo18⟩ := Kd.R_slice HO270.out; subst eo18; have p272 : 0 ≤ (0 : Int) := (by omega); have q272 : 0 < (t268.length : Int) := of_decide_eq_true (by assumption); obtain ⟨ad272, e272, hx272_0⟩ := Kd.at_string (Kd.R_reads' HO270.out).2.2 0 p272 q272; cases e272; have qi272 : (0 < t268.length) = True := eq_true (by omega); (try rw [show ((0 : Int)).toNat = 0 from rfl] at hx272_0); (try rw [Addr.add_zero'] at hx272_0); replace p272 := eq_true p272; replace q272 := eq_true q272; have p273 : 0 ≤ (1 : Int) := (by omega); have q273 : 1 < (t268.length : Int) := of_decide_eq_true (by assumption); obtain ⟨ad273, e273, hx273_0⟩ := Kd.at_string (Kd.R_reads' HO270.out).2.2 1 p273 q273; obtain rfl : ad272 = ad273 := (by injection e273); (try simp only [show (1 : Int).toNat = 1 from rfl, Nat.reduceMul, Nat.reduceEqDiff, Go.Addr.add, ↓reduceIte] at hx273_0); have qi273 : (1 < t268.length) = True := eq_true (by omega); (try rw [show ((1 : Int)).toNat = 1 from rfl] at hx273_0); replace p273 := eq_true p273; replace q273 := eq_true q273; have p274 : 0 ≤ (1 : Int) := (by omega); have q274 : 1 < (t268.length : Int) := of_decide_eq_true (by assumption); obtain ⟨ad274, e274, hx274_0⟩ := Kd.at_string (Kd.R_reads' HO270.out).2.2 1 p274 q274; obtain rfl : ad272 = ad274 := (by injection e274); (try simp only [show (1 : Int).toNat = 1 from rfl, Nat.reduceMul, Nat.reduceEqDiff, Go.Addr.add, ↓reduceIte] at hx274_0); have qi274 : (1 < t268.length) = True := eq_true (by omega); (try rw [show ((1 : Int)).toNat = 1 from rfl] at hx274_0); replace p274 := eq_true p274; replace q274 := eq_true q274) | (go_at_call 169; (with_reducible refine (crierref5_sign.calls k (rdOf ByteArray.empty t268 1) t275 _ A16.out).mono ?_); rintro e w' ⟨rfl, ⟨nd, rfl⟩⟩))
        go_meet
        case rel => exact ⟨_, (t275), (by first | rfl | (simp; done) | (simp [*]; done)), H', ⟨by first | omega | exact Nat.le_refl _⟩, ⟨by (with_reducible repeat (first | apply ra | apply rn | apply rd)); exact HO270.out⟩, ⟨by repeat (with_reducible first | exact HB.out | apply ba | apply bn | apply bd)⟩⟩
      ·rw [if_neg c12] at H
       exact absurd H (by simp)
     ·rw [if_neg c11] at H
      have c11b0 : ((rdOf ByteArray.empty t268 0).toList == ([36, 115, 104, 97, 114, 101] : List UInt8)) = false := beq_eq_false_iff_ne.mpr c11
      have c11b1 : ((rdOf ByteArray.empty t268 0).toList != ([36, 115, 104, 97, 114, 101] : List UInt8)) = true := bne_iff_ne.mpr c11
      have H' := am H
      clear H
      go_wp2_with (first | ((with_reducible refine gate_callee (f := 156) rfl ?_); refine goesL_ (some 10) rfl rfl Tryz.func156 (by kernel_rfl) rfl #[.string a0] rfl (by (try simp only [List.map_toArray, List.map_cons, List.map_nil]); first | done | rfl | (simp only [List.length_drop, List.length_take]; rfl)) ?_; (with_reducible refine (crierref5_CheckFilter.calls k a0 t271 _ A5.out).mono ?_); rintro e w19 ⟨rfl, hb⟩; refine ⟨_, rfl, ?_⟩; have n0_ := am (Kd.R_below (by (with_reducible repeat (first | apply ra | apply rn | apply rd)); exact HO270.out) hb); have n1_ := am (below_step (by repeat (with_reducible first | exact HB.out | apply ba | apply bn | apply bd)) hb); clear HO270; clear HB; have HO270 := n0_; have HB := n1_; clear n0_ n1_; (try clear hb); obtain ⟨Ao20, co20, eo20⟩ := Kd.R_slice HO270.out; subst eo20; have p272 : 0 ≤ (0 : Int) := (by omega); have q272 : 0 < (t268.length : Int) := of_decide_eq_true (by assumption); obtain ⟨ad272, e272, hx272_0⟩ := Kd.at_string (Kd.R_reads' HO270.out).2.2 0 p272 q272; cases e272; have qi272 : (0 < t268.length) = True := eq_true (by omega); (try rw [show ((0 : Int)).toNat = 0 from rfl] at hx272_0); (try rw [Addr.add_zero'] at hx272_0); replace p272 := eq_true p272; replace q272 := eq_true q272))
      go_meet
      case rel => exact ⟨_, (true), (by first | rfl | (simp; done) | (simp [*]; done)), H', ⟨by first | omega | exact Nat.le_refl _⟩, ⟨by (with_reducible repeat (first | apply ra | apply rn | apply rd)); exact HO270.out⟩, ⟨by repeat (with_reducible first | exact HB.out | apply ba | apply bn | apply bd)⟩⟩
    ·rw [if_neg c10] at H
     exact absurd H (by simp)
  ·rw [if_neg c6] at H
   have c6b0 : (t271 == 0) = false := beq_eq_false_iff_ne.mpr c6
   have c6b1 : (t271 != 0) = true := bne_iff_ne.mpr c6
   (first | rw [c6b0] | (simp only [i64_w, i32_w]; rw [c6b0]) | skip)
   have H' := am H
   clear H
   go_wp2_with (first | ((with_reducible refine gate_callee (f := 156) rfl ?_); refine goesL_ (some 10) rfl rfl Tryz.func156 (by kernel_rfl) rfl #[.string a0] rfl (by (try simp only [List.map_toArray, List.map_cons, List.map_nil]); first | done | rfl | (simp only [List.length_drop, List.length_take]; rfl)) ?_; (with_reducible refine (crierref5_CheckFilter.calls k a0 t271 _ A5.out).mono ?_); rintro e w21 ⟨rfl, hb⟩; refine ⟨_, rfl, ?_⟩; have n0_ := am (Kd.R_below (by (with_reducible repeat (first | apply ra | apply rn | apply rd)); exact HO270.out) hb); have n1_ := am (below_step (by repeat (with_reducible first | exact HB.out | apply ba | apply bn | apply bd)) hb); clear HO270; clear HB; have HO270 := n0_; have HB := n1_; clear n0_ n1_; (try clear hb)))
   go_meet
   case rel => exact ⟨_, (true), (by first | rfl | (simp; done) | (simp [*]; done)), H', ⟨by first | omega | exact Nat.le_refl _⟩, ⟨by (with_reducible repeat (first | apply ra | apply rn | apply rd)); exact HO270.out⟩, ⟨by repeat (with_reducible first | exact HB.out | apply ba | apply bn | apply bd)⟩⟩
 case rest =>
  clear HC3
  try clear c1
  try clear p2
  try clear q2
  try clear hx2
  try clear qi2
  try clear c6
  try clear c6b0
  try clear c6b1
  try clear c7
  try clear c7b0
  try clear c7b1
  try clear c10
  try clear c10b0
  try clear c10b1
  try clear c11
  try clear c11b0
  try clear c11b1
  try clear c12
  try clear c12b0
  try clear c12b1
  try clear c13
  try clear c13b0
  try clear c13b1
  try clear c15
  try clear hx272_0
  try clear hx273_0
  try clear hx274_0
  try clear p272
  try clear p273
  try clear p274
  try clear q272
  try clear q273
  try clear q274
  obtain ⟨kq, x34_2, rfl, HA, HJ2, HO_5, HB⟩ := hcut
  cases kq with
  | zero => exact absurd HA.out (by simp [crierref5_Shared.j0])
  | succ kj2 =>
   have H := HA.out
   clear HA
   simp only [crierref5_Shared.j0] at H
   by_cases c22 : x34_2 = true
   ·subst c22
    rw [if_pos rfl] at H
    simp only [Option.some.injEq, Prod.mk.injEq] at H
    obtain ⟨rfl, rfl, rfl⟩ := H
    go_wp2
    go_ret3
    exact ⟨by first | rfl | (simp [*] <;> rfl), by repeat (with_reducible first | exact HB.out | apply ba | apply bn | apply bd)⟩
   ·replace c22 := Bool.eq_false_iff.mpr c22
    subst c22
    rw [if_neg (show ¬ (false = true) by decide)] at H
    by_cases c23 : 2 ≤ (t268.length : Int)
    ·rw [if_pos c23] at H
     have c23b0 := eq_true c23
     have c23b1 : decide (2 ≤ (t268.length : Int)) = true := decide_eq_true c23
     clear c23
     obtain ⟨y276, hy276⟩ : ∃ y_ : List ByteArray, y_ = (t268.drop 2) := ⟨_, rfl⟩
     replace H : ((crierref5_Join.f kj2 y276).bind fun t280 => ((crierref5_CheckFilter.f kj2 t280).bind fun t281 => (if t281 = 0 then (if 1 < (t268.length : Int) then (some (rdOf ByteArray.empty t268 1, t280, true)) else (none)) else (some ((⟨#[]⟩ : ByteArray), (⟨#[]⟩ : ByteArray), false))))) = some (r1, r2, r3) := by first | (rw [hy276]; with_reducible exact H) | (have H2_ := (Option.bind_some _ _).symm.trans H; rw [hy276]; with_reducible exact H2_) | (have H2_ := (Option.bind_some _ _).symm.trans H; with_reducible exact H2_) | with_reducible exact H | (rw [hy276]; exact H) | exact H
     have Ny276 := am hy276
     clear hy276
     replace H := Option.bind_eq_some_iff.mp H
     obtain ⟨t280, A240, H⟩ := H
     try dsimp only at H
     have A24 := am A240
     clear A240
     replace H := Option.bind_eq_some_iff.mp H
     obtain ⟨t281, A250, H⟩ := H
     try dsimp only at H
     have A25 := am A250
     clear A250
     by_cases c26 : t281 = 0
     ·rw [if_pos c26] at H
      have c26b0 : (t281 == 0) = true := beq_iff_eq.mpr c26
      have c26b1 : (t281 != 0) = false := bne_eq_false_iff_eq.mpr c26
      clear c26
      by_cases c27 : 1 < (t268.length : Int)
      ·rw [if_pos c27] at H
       have c27b0 : decide (1 < (t268.length : Int)) = true := decide_eq_true c27
       have c27b1 : decide (1 < t268.length) = true := decide_eq_true (by omega)
       clear c27
       simp only [Option.some.injEq, Prod.mk.injEq] at H
       obtain ⟨rfl, rfl, rfl⟩ := H
       obtain ⟨Ao29, co29, eo29⟩ := Kd.R_slice HO_5.out
       subst eo29
       have q28 : (2 : Int) ≤ ((t268.length : Int) : Int) := of_decide_eq_true (by assumption)
       obtain ⟨i028, hi028, _, hsz28, _⟩ := info_parts info9
       have hroom28 : t268.length ≤ co29 := (Kd.R_reads' HO_5.out).2.1
       have hC28 : Kd.C Kd.string _ Ao29 t268.length t268 := (Kd.R_reads' HO_5.out).2.2
       have hcut28 := cut_from (P := Tryz.prog) 22 9 .i64 Tryz.underlying22 hi028 1 hsz28 Ao29 t268.length co29 2 (by omega) q28
       have hr28 := Kd.C_drop (m := (2 : Int).toNat) (c := co29) hC28 (by omega) hroom28
       obtain ⟨A28, hA28⟩ : ∃ A1, A1 = (if co29 = (2 : Int).toNat then Ao29 else (Ao29 : Option Addr).map (·.add ((2 : Int).toNat * 1))) := ⟨_, rfl⟩
       obtain ⟨c28, hc28⟩ : ∃ c1, c1 = co29 - (2 : Int).toNat := ⟨_, rfl⟩
       have hy28 : y276.length = t268.length - (2 : Int).toNat := (by rw [Ny276.out, List.length_drop] <;> omega)
       rw [show (t268).drop (2 : Int).toNat = y276 from Ny276.out.symm] at hr28
       replace hr28 : Kd.C Kd.string _ A28 y276.length y276 := (by rw [hA28]; exact hr28)
       rw [← hy28, ← hA28, ← hc28] at hcut28
       have HR279 := am hr28
       have HC279 := am (show y276.length ≤ c28 from by rw [hy28, hc28]; exact Nat.sub_le_sub_right hroom28 _)
       clear hr28 hC28 hroom28 hi028 hsz28 hc28
       have KY28 := am hy28
       have KA28 := am hA28
       clear hy28 hA28
       have KL28 := am (show 2 ≤ t268.length from by omega)
       replace q28 := eq_true q28
       go_wp2_with (first | ((with_reducible refine gate_callee (f := 170) rfl ?_); refine goesL_ (some 37) rfl rfl Tryz.func170 (by kernel_rfl) rfl #[.slice A28 y276.length c28] rfl (by (try simp only [List.map_toArray, List.map_cons, List.map_nil]); first | done | rfl | (simp only [List.length_drop, List.length_take]; rfl)) ?_; (with_reducible refine (crierref5_Join.calls kj2 _ _ y276 t280 _ ?side1 ?side2 A24.out).mono ?_); (case side1 => repeat (first | exact (by repeat (first | (with_reducible exact HR279.out) | (with_reducible refine Kd.C_alloc ?_ _) | (with_reducible refine Kd.C_drewN ?_ _) | (with_reducible refine Kd.C_drew ?_) | exact HR279.out)) | (with_reducible refine Kd.C_alloc ?_ _) | (with_reducible refine Kd.C_drewN ?_ _) | (with_reducible refine Kd.C_drew ?_))); (case side2 => exact HC279.out); rintro e w30 ⟨rfl, hb⟩; refine ⟨_, rfl, ?_⟩; have n0_ := am (Kd.R_below (by (with_reducible repeat (first | apply ra | apply rn | apply rd)); exact HO_5.out) hb); have n1_ := am (Kd.C_below (by repeat (first | (with_reducible exact HR279.out) | (with_reducible refine Kd.C_alloc ?_ _) | (with_reducible refine Kd.C_drewN ?_ _) | (with_reducible refine Kd.C_drew ?_) | exact HR279.out)) hb); have n2_ := am (below_step (by repeat (with_reducible first | exact HB.out | apply ba | apply bn | apply bd)) hb); clear HO_5; clear HR279; clear HB; have HO_5 := n0_; have HR279 := n1_; have HB := n2_; clear n0_ n1_ n2_; (try clear hb)) | ((with_reducible refine gate_callee (f := 156) rfl ?_); refine goesL_ (some 39) rfl rfl Tryz.func156 (by kernel_rfl) rfl #[.string t280] rfl (by (try simp only [List.map_toArray, List.map_cons, List.map_nil]); first | done | rfl | (simp only [List.length_drop, List.length_take]; rfl)) ?_; (with_reducible refine (crierref5_CheckFilter.calls kj2 t280 t281 _ A25.out).mono ?_); rintro e w31 ⟨rfl, hb⟩; refine ⟨_, rfl, ?_⟩; have n0_ := am (Kd.R_below (by (with_reducible repeat (first | apply ra | apply rn | apply rd)); exact HO_5.out) hb); have n1_ := am (Kd.C_below (by repeat (first | (with_reducible exact HR279.out) | (with_reducible refine Kd.C_alloc ?_ _) | (with_reducible refine Kd.C_drewN ?_ _) | (with_reducible refine Kd.C_drew ?_) | exact HR279.out)) hb); have n2_ := am (below_step (by repeat (with_reducible first | exact HB.out | apply ba | apply bn | apply bd)) hb); clear HO_5; clear HR279; clear HB; have HO_5 := n0_; have HR279 := n1_; have HB := n2_; clear n0_ n1_ n2_; (try clear hb); have p282 : 0 ≤ (1 : Int) := (by omega); have q282 : 1 < (t268.length : Int) := of_decide_eq_true (by assumption); obtain ⟨ad282, e282, hx282_0⟩ := Kd.at_string (Kd.R_reads' HO_5.out).2.2 1 p282 q282; cases e282; (try simp only [show (1 : Int).toNat = 1 from rfl, Nat.reduceMul, Nat.reduceEqDiff, Go.Addr.add, ↓reduceIte] at hx282_0); have qi282 : (1 < t268.length) = True := eq_true (by omega); (try rw [show ((1 : Int)).toNat = 1 from rfl] at hx282_0); replace p282 := eq_true p282; replace q282 := eq_true q282))
       go_ret3
       exact ⟨by first | rfl | (simp [*] <;> rfl), by repeat (with_reducible first | exact HB.out | apply ba | apply bn | apply bd)⟩
      ·rw [if_neg c27] at H
       exact absurd H (by simp)
     ·rw [if_neg c26] at H
      have c26b0 : (t281 == 0) = false := beq_eq_false_iff_ne.mpr c26
      have c26b1 : (t281 != 0) = true := bne_iff_ne.mpr c26
      simp only [Option.some.injEq, Prod.mk.injEq] at H
      obtain ⟨rfl, rfl, rfl⟩ := H
      obtain ⟨Ao33, co33, eo33⟩ := Kd.R_slice HO_5.out
      subst eo33
      have q32 : (2 : Int) ≤ ((t268.length : Int) : Int) := of_decide_eq_true (by assumption)
      obtain ⟨i032, hi032, _, hsz32, _⟩ := info_parts info9
      have hroom32 : t268.length ≤ co33 := (Kd.R_reads' HO_5.out).2.1
      have hC32 : Kd.C Kd.string _ Ao33 t268.length t268 := (Kd.R_reads' HO_5.out).2.2
      have hcut32 := cut_from (P := Tryz.prog) 22 9 .i64 Tryz.underlying22 hi032 1 hsz32 Ao33 t268.length co33 2 (by omega) q32
      have hr32 := Kd.C_drop (m := (2 : Int).toNat) (c := co33) hC32 (by omega) hroom32
      obtain ⟨A32, hA32⟩ : ∃ A1, A1 = (if co33 = (2 : Int).toNat then Ao33 else (Ao33 : Option Addr).map (·.add ((2 : Int).toNat * 1))) := ⟨_, rfl⟩
      obtain ⟨c32, hc32⟩ : ∃ c1, c1 = co33 - (2 : Int).toNat := ⟨_, rfl⟩
      have hy32 : y276.length = t268.length - (2 : Int).toNat := (by rw [Ny276.out, List.length_drop] <;> omega)
      rw [show (t268).drop (2 : Int).toNat = y276 from Ny276.out.symm] at hr32
      replace hr32 : Kd.C Kd.string _ A32 y276.length y276 := (by rw [hA32]; exact hr32)
      rw [← hy32, ← hA32, ← hc32] at hcut32
      have HR279 := am hr32
      have HC279 := am (show y276.length ≤ c32 from by rw [hy32, hc32]; exact Nat.sub_le_sub_right hroom32 _)
      clear hr32 hC32 hroom32 hi032 hsz32 hc32
      have KY32 := am hy32
      have KA32 := am hA32
      clear hy32 hA32
      have KL32 := am (show 2 ≤ t268.length from by omega)
      replace q32 := eq_true q32
      go_wp2_with (first | ((with_reducible refine gate_callee (f := 170) rfl ?_); refine goesL_ (some 37) rfl rfl Tryz.func170 (by kernel_rfl) rfl #[.slice A32 y276.length c32] rfl (by (try simp only [List.map_toArray, List.map_cons, List.map_nil]); first | done | rfl | (simp only [List.length_drop, List.length_take]; rfl)) ?_; (with_reducible refine (crierref5_Join.calls kj2 _ _ y276 t280 _ ?side1 ?side2 A24.out).mono ?_); (case side1 => repeat (first | exact (by repeat (first | (with_reducible exact HR279.out) | (with_reducible refine Kd.C_alloc ?_ _) | (with_reducible refine Kd.C_drewN ?_ _) | (with_reducible refine Kd.C_drew ?_) | exact HR279.out)) | (with_reducible refine Kd.C_alloc ?_ _) | (with_reducible refine Kd.C_drewN ?_ _) | (with_reducible refine Kd.C_drew ?_))); (case side2 => exact HC279.out); rintro e w34 ⟨rfl, hb⟩; refine ⟨_, rfl, ?_⟩; have n0_ := am (Kd.R_below (by (with_reducible repeat (first | apply ra | apply rn | apply rd)); exact HO_5.out) hb); have n1_ := am (Kd.C_below (by repeat (first | (with_reducible exact HR279.out) | (with_reducible refine Kd.C_alloc ?_ _) | (with_reducible refine Kd.C_drewN ?_ _) | (with_reducible refine Kd.C_drew ?_) | exact HR279.out)) hb); have n2_ := am (below_step (by repeat (with_reducible first | exact HB.out | apply ba | apply bn | apply bd)) hb); clear HO_5; clear HR279; clear HB; have HO_5 := n0_; have HR279 := n1_; have HB := n2_; clear n0_ n1_ n2_; (try clear hb)) | ((with_reducible refine gate_callee (f := 156) rfl ?_); refine goesL_ (some 39) rfl rfl Tryz.func156 (by kernel_rfl) rfl #[.string t280] rfl (by (try simp only [List.map_toArray, List.map_cons, List.map_nil]); first | done | rfl | (simp only [List.length_drop, List.length_take]; rfl)) ?_; (with_reducible refine (crierref5_CheckFilter.calls kj2 t280 t281 _ A25.out).mono ?_); rintro e w35 ⟨rfl, hb⟩; refine ⟨_, rfl, ?_⟩; have n0_ := am (Kd.R_below (by (with_reducible repeat (first | apply ra | apply rn | apply rd)); exact HO_5.out) hb); have n1_ := am (Kd.C_below (by repeat (first | (with_reducible exact HR279.out) | (with_reducible refine Kd.C_alloc ?_ _) | (with_reducible refine Kd.C_drewN ?_ _) | (with_reducible refine Kd.C_drew ?_) | exact HR279.out)) hb); have n2_ := am (below_step (by repeat (with_reducible first | exact HB.out | apply ba | apply bn | apply bd)) hb); clear HO_5; clear HR279; clear HB; have HO_5 := n0_; have HR279 := n1_; have HB := n2_; clear n0_ n1_ n2_; (try clear hb)))
      go_ret3
      exact ⟨by first | rfl | (simp [*] <;> rfl), by repeat (with_reducible first | exact HB.out | apply ba | apply bn | apply bd)⟩
    ·rw [if_neg c23] at H
     exact absurd H (by simp)

/-! ### crierref5_Plain: function 96 -/
def crierref5_Plain.f (k : Nat) (a0 : ByteArray) : Option (Bool) := (crierref5_Shared.f k a0).bind fun bt283 => ((crierref5_CheckFilter.f k a0).bind fun t286 => (if t286 = 0 then (some (!bt283.2.2)) else (some false)))
set_option maxHeartbeats 8000000 in
set_option maxRecDepth 100000 in
theorem crierref5_Plain.calls (k : Nat) (a0 : ByteArray) (r : Bool) (w : World) (h : crierref5_Plain.f k a0 = some r) :
  Calls Tryz.prog 96 #[.string a0] w fun e w' => e = .returned (.bool r) ∧ Below w.heap.size w w' := by
 have HB := am (Below.refl w.heap.size w)
 have H : ((crierref5_Shared.f k a0).bind fun bt283 => ((crierref5_CheckFilter.f k a0).bind fun t286 => (if t286 = 0 then (some (!bt283.2.2)) else (some false)))) = some r := h
 clear h
 replace H := Option.bind_eq_some_iff.mp H
 obtain ⟨⟨t283, t284, t285⟩, A20, H⟩ := H
 try dsimp only at H
 have A2 := am A20
 clear A20
 replace H := Option.bind_eq_some_iff.mp H
 obtain ⟨t286, A30, H⟩ := H
 try dsimp only at H
 have A3 := am A30
 clear A30
 by_cases c4 : t286 = 0
 ·rw [if_pos c4] at H
  have c4b0 : (t286 == 0) = true := beq_iff_eq.mpr c4
  have c4b1 : (t286 != 0) = false := bne_eq_false_iff_eq.mpr c4
  clear c4
  obtain rfl := Option.some.inj H
  go_enter Tryz.func96, Tryz.ntmps96
  go_wp2_with (first | ((with_reducible refine gate_callee (f := 155) rfl ?_); refine goesL_ (some 8) rfl rfl Tryz.func155 (by kernel_rfl) rfl #[.string a0] rfl (by (try simp only [List.map_toArray, List.map_cons, List.map_nil]); first | done | rfl | (simp only [List.length_drop, List.length_take]; rfl)) ?_; (with_reducible refine (crierref5_Shared.calls k a0 t283 t284 t285 _ A2.out).mono ?_); rintro e w5 ⟨rfl, hb⟩; refine ⟨_, rfl, ?_⟩; have n0_ := am (below_step (by repeat (with_reducible first | exact HB.out | apply ba | apply bn | apply bd)) hb); clear HB; have HB := n0_; clear n0_; (try clear hb)) | ((with_reducible refine gate_callee (f := 156) rfl ?_); refine goesL_ (some 13) rfl rfl Tryz.func156 (by kernel_rfl) rfl #[.string a0] rfl (by (try simp only [List.map_toArray, List.map_cons, List.map_nil]); first | done | rfl | (simp only [List.length_drop, List.length_take]; rfl)) ?_; (with_reducible refine (crierref5_CheckFilter.calls k a0 t286 _ A3.out).mono ?_); rintro e w6 ⟨rfl, hb⟩; refine ⟨_, rfl, ?_⟩; have n0_ := am (below_step (by repeat (with_reducible first | exact HB.out | apply ba | apply bn | apply bd)) hb); clear HB; have HB := n0_; clear n0_; (try clear hb)))
  go_ret
  exact ⟨by first | rfl | (simp [*] <;> rfl), by repeat (with_reducible first | exact HB.out | apply ba | apply bn | apply bd)⟩
 ·rw [if_neg c4] at H
  have c4b0 : (t286 == 0) = false := beq_eq_false_iff_ne.mpr c4
  have c4b1 : (t286 != 0) = true := bne_iff_ne.mpr c4
  obtain rfl := Option.some.inj H
  go_enter Tryz.func96, Tryz.ntmps96
  go_wp2_with (first | ((with_reducible refine gate_callee (f := 155) rfl ?_); refine goesL_ (some 8) rfl rfl Tryz.func155 (by kernel_rfl) rfl #[.string a0] rfl (by (try simp only [List.map_toArray, List.map_cons, List.map_nil]); first | done | rfl | (simp only [List.length_drop, List.length_take]; rfl)) ?_; (with_reducible refine (crierref5_Shared.calls k a0 t283 t284 t285 _ A2.out).mono ?_); rintro e w7 ⟨rfl, hb⟩; refine ⟨_, rfl, ?_⟩; have n0_ := am (below_step (by repeat (with_reducible first | exact HB.out | apply ba | apply bn | apply bd)) hb); clear HB; have HB := n0_; clear n0_; (try clear hb)) | ((with_reducible refine gate_callee (f := 156) rfl ?_); refine goesL_ (some 13) rfl rfl Tryz.func156 (by kernel_rfl) rfl #[.string a0] rfl (by (try simp only [List.map_toArray, List.map_cons, List.map_nil]); first | done | rfl | (simp only [List.length_drop, List.length_take]; rfl)) ?_; (with_reducible refine (crierref5_CheckFilter.calls k a0 t286 _ A3.out).mono ?_); rintro e w8 ⟨rfl, hb⟩; refine ⟨_, rfl, ?_⟩; have n0_ := am (below_step (by repeat (with_reducible first | exact HB.out | apply ba | apply bn | apply bd)) hb); clear HB; have HB := n0_; clear n0_; (try clear hb)))
  go_ret
  exact ⟨by first | rfl | (simp [*] <;> rfl), by repeat (with_reducible first | exact HB.out | apply ba | apply bn | apply bd)⟩

/-! ### crierref6_open: function 97 -/
def crierref6_open.f (k : Nat) (a0 : ByteArray) : Option (List ByteArray × Bool) := (crierref5_Levels.f k a0).bind fun t287 => (if 0 ≤ (wrap64 ((t287.length : Int) - 1)) then (if (wrap64 ((t287.length : Int) - 1)) < (t287.length : Int) then (if (rdOf ByteArray.empty t287 (wrap64 ((t287.length : Int) - 1))).toList = ([35] : List UInt8) then (if (wrap64 ((t287.length : Int) - 1)) ≤ (t287.length : Int) then (some ((t287.take ((wrap64 ((t287.length : Int) - 1)) : Int).toNat), true)) else (none)) else (some (t287, false))) else (none)) else (none))
set_option maxHeartbeats 8000000 in
set_option maxRecDepth 100000 in
theorem crierref6_open.calls (k : Nat) (a0 : ByteArray) (r1 : List ByteArray) (r2 : Bool) (w : World) (h : crierref6_open.f k a0 = some (r1, r2)) :
  Calls Tryz.prog 97 #[.string a0] w fun e w' => ∃ v0_ : Value, e = .returned (.tuple #[v0_, .bool r2]) ∧ Kd.R Kd.string 9 w' w.heap.size (fun _ => True) v0_ r1 ∧ Below w.heap.size w w' := by
 have HB := am (Below.refl w.heap.size w)
 have H : ((crierref5_Levels.f k a0).bind fun t287 => (if 0 ≤ (wrap64 ((t287.length : Int) - 1)) then (if (wrap64 ((t287.length : Int) - 1)) < (t287.length : Int) then (if (rdOf ByteArray.empty t287 (wrap64 ((t287.length : Int) - 1))).toList = ([35] : List UInt8) then (if (wrap64 ((t287.length : Int) - 1)) ≤ (t287.length : Int) then (some ((t287.take ((wrap64 ((t287.length : Int) - 1)) : Int).toNat), true)) else (none)) else (some (t287, false))) else (none)) else (none))) = some (r1, r2) := h
 clear h
 replace H := Option.bind_eq_some_iff.mp H
 obtain ⟨t287, A20, H⟩ := H
 try dsimp only at H
 have A2 := am A20
 clear A20
 obtain ⟨ji3, hji3⟩ : ∃ j_ : Int, (wrap64 ((t287.length : Int) - 1)) = j_ := ⟨_, rfl⟩
 replace H : (if 0 ≤ (ji3) then (if (ji3) < (t287.length : Int) then (if (rdOf ByteArray.empty t287 (ji3)).toList = ([35] : List UInt8) then (if (ji3) ≤ (t287.length : Int) then (some ((t287.take ((ji3) : Int).toNat), true)) else (none)) else (some (t287, false))) else (none)) else (none)) = some (r1, r2) := by first | (rw [hji3] at H; exact H) | (simp only [hji3] at H ⊢; exact H)
 (try rw [hji3] at A2)
 have hji3w : (IntKind.i64.wrap ((t287.length : Int) - 1)) = ji3 := (i64_w _).trans hji3
 by_cases c4 : 0 ≤ (ji3)
 ·rw [if_pos c4] at H
  have c4b0 : decide (0 ≤ (ji3)) = true := decide_eq_true c4
  clear c4
  by_cases c5 : (ji3) < (t287.length : Int)
  ·rw [if_pos c5] at H
   have c5b0 : decide ((ji3) < (t287.length : Int)) = true := decide_eq_true c5
   clear c5
   by_cases c6 : (rdOf ByteArray.empty t287 (ji3)).toList = ([35] : List UInt8)
   ·rw [if_pos c6] at H
    have c6b0 : ((rdOf ByteArray.empty t287 (ji3)).toList == ([35] : List UInt8)) = true := beq_iff_eq.mpr c6
    have c6b1 : ((rdOf ByteArray.empty t287 (ji3)).toList != ([35] : List UInt8)) = false := bne_eq_false_iff_eq.mpr c6
    clear c6
    by_cases c7 : (ji3) ≤ (t287.length : Int)
    ·rw [if_pos c7] at H
     have c7b0 := eq_true c7
     have c7b1 : decide ((ji3) ≤ (t287.length : Int)) = true := decide_eq_true c7
     clear c7
     obtain ⟨y291, hy291⟩ : ∃ y_ : List ByteArray, y_ = (t287.take ((ji3) : Int).toNat) := ⟨_, rfl⟩
     replace H : (some (y291, true)) = some (r1, r2) := by first | (rw [hy291]; with_reducible exact H) | (have H2_ := (Option.bind_some _ _).symm.trans H; rw [hy291]; with_reducible exact H2_) | (have H2_ := (Option.bind_some _ _).symm.trans H; with_reducible exact H2_) | with_reducible exact H | (rw [hy291]; exact H) | exact H
     have Ny291 := am hy291
     clear hy291
     simp only [Option.some.injEq, Prod.mk.injEq] at H
     obtain ⟨rfl, rfl⟩ := H
     go_enter Tryz.func97, Tryz.ntmps97
     go_wp2_with (first | ((with_reducible refine gate_callee (f := 157) rfl ?_); refine goesL_ (some 7) rfl rfl Tryz.func157 (by kernel_rfl) rfl #[.string a0] rfl (by (try simp only [List.map_toArray, List.map_cons, List.map_nil]); first | done | rfl | (simp only [List.length_drop, List.length_take]; rfl)) ?_; (with_reducible refine (crierref5_Levels.calls k a0 t287 _ A2.out).mono ?_); rintro e w8 ⟨v288, rfl, ho0, hb⟩; refine ⟨_, rfl, ?_⟩; have n0_ := am (Kd.R_lower ho0 (below_size (by repeat (with_reducible first | exact HB.out | apply ba | apply bn | apply bd)))); have n1_ := am (below_step (by repeat (with_reducible first | exact HB.out | apply ba | apply bn | apply bd)) hb); clear HB; have HO289 := n0_; have HB := n1_; clear n0_ n1_; (try clear hb); (try clear ho0); obtain ⟨Ao9, co9, eo9⟩ := Kd.R_slice HO289.out; subst eo9; have p290 : 0 ≤ ((ji3) : Int) := of_decide_eq_true (by assumption); have q290 : (ji3) < (t287.length : Int) := of_decide_eq_true (by assumption); obtain ⟨ad290, e290, hx290_0⟩ := Kd.at_string (Kd.R_reads' HO289.out).2.2 (ji3) p290 q290; cases e290; replace p290 := eq_true p290; replace q290 := eq_true q290; have q10 : ((ji3) : Int) ≤ ((t287.length : Int) : Int) := of_decide_eq_true (by assumption); obtain ⟨i010, hi010, _, hsz10, _⟩ := info_parts info9; have hcut10 := cut_to (P := Tryz.prog) 22 9 .i64 Tryz.underlying22 hi010 (some ad290) t287.length co9 (ji3) (of_decide_eq_true (by assumption)) q10 (Kd.R_reads' HO289.out).2.1; have hr10 := Kd.R_take (m := ((ji3) : Int).toNat) HO289.out (by omega); have hy10 : y291.length = ((ji3) : Int).toNat := (by rw [Ny291.out, List.length_take]; omega); rw [← Ny291.out] at hr10; rw [← hy10] at hr10 hcut10; clear hy10 hi010 hsz10 HO289; have HO293 := am hr10; clear hr10; replace q10 := eq_true q10))
     go_ret2
     exact ⟨_, by first | rfl | (simp [errW_none, errW_some] <;> rfl) | (simp only [← hji3]; first | rfl | (simp [errW_none, errW_some] <;> rfl)) | (simp [*, errW_none, errW_some] <;> rfl), by (with_reducible repeat (first | apply ra | apply rn | apply rd)); exact HO293.out, by repeat (with_reducible first | exact HB.out | apply ba | apply bn | apply bd)⟩
    ·rw [if_neg c7] at H
     exact absurd H (by simp)
   ·rw [if_neg c6] at H
    have c6b0 : ((rdOf ByteArray.empty t287 (ji3)).toList == ([35] : List UInt8)) = false := beq_eq_false_iff_ne.mpr c6
    have c6b1 : ((rdOf ByteArray.empty t287 (ji3)).toList != ([35] : List UInt8)) = true := bne_iff_ne.mpr c6
    simp only [Option.some.injEq, Prod.mk.injEq] at H
    obtain ⟨rfl, rfl⟩ := H
    go_enter Tryz.func97, Tryz.ntmps97
    go_wp2_with (first | ((with_reducible refine gate_callee (f := 157) rfl ?_); refine goesL_ (some 7) rfl rfl Tryz.func157 (by kernel_rfl) rfl #[.string a0] rfl (by (try simp only [List.map_toArray, List.map_cons, List.map_nil]); first | done | rfl | (simp only [List.length_drop, List.length_take]; rfl)) ?_; (with_reducible refine (crierref5_Levels.calls k a0 t287 _ A2.out).mono ?_); rintro e w11 ⟨v288, rfl, ho0, hb⟩; refine ⟨_, rfl, ?_⟩; have n0_ := am (Kd.R_lower ho0 (below_size (by repeat (with_reducible first | exact HB.out | apply ba | apply bn | apply bd)))); have n1_ := am (below_step (by repeat (with_reducible first | exact HB.out | apply ba | apply bn | apply bd)) hb); clear HB; have HO289 := n0_; have HB := n1_; clear n0_ n1_; (try clear hb); (try clear ho0); obtain ⟨Ao12, co12, eo12⟩ := Kd.R_slice HO289.out; subst eo12; have p290 : 0 ≤ ((ji3) : Int) := of_decide_eq_true (by assumption); have q290 : (ji3) < (t287.length : Int) := of_decide_eq_true (by assumption); obtain ⟨ad290, e290, hx290_0⟩ := Kd.at_string (Kd.R_reads' HO289.out).2.2 (ji3) p290 q290; cases e290; replace p290 := eq_true p290; replace q290 := eq_true q290))
    go_ret2
    exact ⟨_, by first | rfl | (simp [errW_none, errW_some] <;> rfl) | (simp only [← hji3]; first | rfl | (simp [errW_none, errW_some] <;> rfl)) | (simp [*, errW_none, errW_some] <;> rfl), by (with_reducible repeat (first | apply ra | apply rn | apply rd)); exact HO289.out, by repeat (with_reducible first | exact HB.out | apply ba | apply bn | apply bd)⟩
  ·rw [if_neg c5] at H
   exact absurd H (by simp)
 ·rw [if_neg c4] at H
  exact absurd H (by simp)

end Go.Proofs.YtfomjbbebgajcaaGreatDoor.MCoverLeast
