-- PRINTED BY print.sh 35421559b90ae4d0a3588c463048766b98c2df88dd9212a6774a882060cdf62d: not written by this session
import Derived.Test.YtpmajigbcbdlmaaDoorPPacketKindsx0
namespace Go.Proofs.YtpmajigbcbdlmaaDoor.PPacketKinds
open Go.RowKit Go.Proofs.YtpmajigbcbdlmaaDoorW.PrintWords Go.Proofs.YtpmajigbcbdlmaaDoorW.PrintLast Go.Proofs.YtpmajigbcbdlmaaDoorW.PrintMore
attribute [local go_sem] max2_int min2_int max_two min_two max_three min_three max_four min_four   -- for this text's walks alone
set_option linter.unusedVariables false
set_option linter.unusedSimpArgs false

/-! ### packet_isKind: function 8 -/
def packet_isKind.f (a0 : Int) : Option (Bool) := if a0 ≥ 1 then (some (decide (a0 ≤ 14))) else (some false)
set_option maxHeartbeats 8000000 in
set_option maxRecDepth 100000 in
theorem packet_isKind.calls (a0 : Int) (r : Bool) (w : World) (h : packet_isKind.f a0 = some r) :
    Calls Tryd.prog 8 #[.int .i64 a0] w fun e w' => e = .returned (.bool r) ∧ Drawn0 w w' := by
  have H : (if a0 ≥ 1 then (some (decide (a0 ≤ 14))) else (some false)) = some r := h
  clear h
  by_cases c2 : a0 ≥ 1
  · rw [if_pos c2] at H
    have c2b0 : decide (1 ≤ a0) = true := decide_eq_true c2
    clear c2
    obtain rfl := Option.some.inj H
    go_enter Tryd.func8, Tryd.ntmps8
    go_wp2
    go_ret
    exact ⟨by first | rfl | (simp; done) | (simp [*]; done), by repeat (first | exact Drawn0.refl _ | apply Drawn0.step)⟩
  · rw [if_neg c2] at H
    have c2b0 : decide (1 ≤ a0) = false := decide_eq_false c2
    clear c2
    obtain rfl := Option.some.inj H
    go_enter Tryd.func8, Tryd.ntmps8
    go_wp2
    go_ret
    exact ⟨by first | rfl | (simp; done) | (simp [*]; done), by repeat (first | exact Drawn0.refl _ | apply Drawn0.step)⟩

-- NOT PRINTED: function 4 (packet_May)

/-! ### crierref2_within: function 9 -/
def crierref2_within.f (a0 : Int) (a1 : Int) : Option (Bool) := if a0 ≥ 0 then (some (decide (a0 ≤ a1))) else (some false)
set_option maxHeartbeats 8000000 in
set_option maxRecDepth 100000 in
theorem crierref2_within.calls (a0 : Int) (a1 : Int) (r : Bool) (w : World) (h : crierref2_within.f a0 a1 = some r) :
    Calls Tryd.prog 9 #[.int .i64 a0, .int .i64 a1] w fun e w' => e = .returned (.bool r) ∧ Drawn0 w w' := by
  have H : (if a0 ≥ 0 then (some (decide (a0 ≤ a1))) else (some false)) = some r := h
  clear h
  by_cases c3 : a0 ≥ 0
  · rw [if_pos c3] at H
    have c3b0 : decide (0 ≤ a0) = true := decide_eq_true c3
    clear c3
    obtain rfl := Option.some.inj H
    go_enter Tryd.func9, Tryd.ntmps9
    go_wp2
    go_ret
    exact ⟨by first | rfl | (simp; done) | (simp [*]; done), by repeat (first | exact Drawn0.refl _ | apply Drawn0.step)⟩
  · rw [if_neg c3] at H
    have c3b0 : decide (0 ≤ a0) = false := decide_eq_false c3
    clear c3
    obtain rfl := Option.some.inj H
    go_enter Tryd.func9, Tryd.ntmps9
    go_wp2
    go_ret
    exact ⟨by first | rfl | (simp; done) | (simp [*]; done), by repeat (first | exact Drawn0.refl _ | apply Drawn0.step)⟩

/-! ### crierref2_May: function 5 -/
def crierref2_May.j0 : Nat → Int → Int → Bool → Option (Bool)
  | 0, _, _, _ => none
  | k + 1, x0, x1, x11 => if x11 = true then (some false) else (if x0 = 3 then ((crierref2_within.f x1 15).bind fun t102 => (if t102 = true then (if (Int.tmod (wrap64 (Int.tdiv x1 2)) 4) = 3 then (some false) else (if x1 < 8 then (some true) else (some (decide ((Int.tmod (wrap64 (Int.tdiv x1 2)) 4) > 0))))) else (some false))) else (if x0 = 6 then (some (x1 == 2)) else (if x0 = 8 then (some (x1 == 2)) else (if x0 = 10 then (some (x1 == 2)) else (some (x1 == 0))))))
def crierref2_May.f (k : Nat) (a0 : Int) (a1 : Int) : Option (Bool) := if a0 < 1 then (crierref2_May.j0 k a0 a1 true) else (crierref2_May.j0 k a0 a1 (decide (a0 > 14)))
theorem crierref2_May.mono_l : ∀ k, (∀ y0 y1 y2, LeO (crierref2_May.j0 k y0 y1 y2) (crierref2_May.j0 (k + 1) y0 y1 y2))
  | 0 => fun _ _ _ r h => by simp [crierref2_May.j0] at h
  | k + 1 => by
    have ih0 := crierref2_May.mono_l k
    · intro y0 y1 y2
      unfold crierref2_May.j0
      repeat' first
      | (with_reducible exact ih0 _ _ _)
      | (with_reducible exact LeO.refl _)
      | (with_reducible exact LeO.none _)
      | (with_reducible refine LeO.ite ?_ ?_)
      | (with_reducible refine LeO.bind ?_ (fun _ => ?_))
      | exact ih0 _ _ _
      | exact LeO.none _
      | refine LeO.ite ?_ ?_
      | refine LeO.bind ?_ (fun _ => ?_)
theorem crierref2_May.mono : ∀ a0 a1 k, LeO (crierref2_May.f k a0 a1) (crierref2_May.f (k + 1) a0 a1) := by
  intro a0 a1 k
  have ih0 := crierref2_May.mono_l k
  unfold crierref2_May.f
  repeat' first
      | (with_reducible exact ih0 _ _ _)
      | (with_reducible exact LeO.refl _)
      | (with_reducible exact LeO.none _)
      | (with_reducible refine LeO.ite ?_ ?_)
      | (with_reducible refine LeO.bind ?_ (fun _ => ?_))
      | exact ih0 _ _ _
      | exact LeO.none _
      | refine LeO.ite ?_ ?_
      | refine LeO.bind ?_ (fun _ => ?_)
set_option maxHeartbeats 8000000 in
set_option maxRecDepth 100000 in
theorem crierref2_May.calls (k : Nat) (a0 : Int) (a1 : Int) (r : Bool) (w : World) (h : crierref2_May.f k a0 a1 = some r) :
    Calls Tryd.prog 5 #[.int .i64 a0, .int .i64 a1] w fun e w' => e = .returned (.bool r) ∧ Drawn0 w w' := by
  have H : (if a0 < 1 then (crierref2_May.j0 k a0 a1 true) else (crierref2_May.j0 k a0 a1 (decide (a0 > 14)))) = some r := h
  clear h
  have HC3 := Aside0.mk H
  clear H
  go_enter Tryd.func5, Tryd.ntmps5
  go_upto_region 1 with (fail)
  go_cut [11] (fun v11 wc => ∃ (kq : Nat) (x11_2 : Bool), v11 = .bool x11_2 ∧ Aside0 (crierref2_May.j0 kq a0 a1 x11_2 = some r) ∧ Aside0 (kq ≤ k) ∧ Drawn0 w wc)
  case first =>
    have H := HC3.out
    clear HC3
    by_cases c4 : a0 < 1
    · rw [if_pos c4] at H
      have c4b0 : decide (a0 < 1) = true := decide_eq_true c4
      clear c4
      (first | rw [c4b0] | (simp only [i64_w, i32_w]; rw [c4b0]) | skip)
      have H' := Aside0.mk H
      clear H
      go_wp2
      go_meet
      case rel => exact ⟨_, (true), (by first | rfl | (simp; done) | (simp [*]; done)), H', ⟨by first | omega | exact Nat.le_refl _⟩, by repeat (first | exact Drawn0.refl _ | apply Drawn0.step)⟩
    · rw [if_neg c4] at H
      have c4b0 : decide (a0 < 1) = false := decide_eq_false c4
      clear c4
      (first | rw [c4b0] | (simp only [i64_w, i32_w]; rw [c4b0]) | skip)
      have H' := Aside0.mk H
      clear H
      go_wp2
      go_meet
      case rel => exact ⟨_, (decide (a0 > 14)), (by first | rfl | (simp; done) | (simp [*]; done)), H', ⟨by first | omega | exact Nat.le_refl _⟩, by repeat (first | exact Drawn0.refl _ | apply Drawn0.step)⟩
  case rest =>
    clear HC3
    try clear p2
    try clear c4
    try clear c4b0
    obtain ⟨kq, x11_2, rfl, HA, HJ2, ⟨mc2, rfl⟩⟩ := hcut
    cases kq with
    | zero => exact absurd HA.out (by simp [crierref2_May.j0])
    | succ kj2 =>
      have H := HA.out
      clear HA
      simp only [crierref2_May.j0] at H
      by_cases c5 : x11_2 = true
      · subst c5
        have H1 : (some false) = some r := by rw [if_pos rfl] at H; exact H
        clear H
        have H := H1
        clear H1
        obtain rfl := Option.some.inj H
        go_wp2
        go_ret
        exact ⟨by first | rfl | (simp; done) | (simp [*]; done), by repeat (first | exact Drawn0.refl _ | apply Drawn0.step)⟩
      · replace c5 := Bool.eq_false_iff.mpr c5
        subst c5
        have H1 : (if a0 = 3 then ((crierref2_within.f a1 15).bind fun t102 => (if t102 = true then (if (Int.tmod (wrap64 (Int.tdiv a1 2)) 4) = 3 then (some false) else (if a1 < 8 then (some true) else (some (decide ((Int.tmod (wrap64 (Int.tdiv a1 2)) 4) > 0))))) else (some false))) else (if a0 = 6 then (some (a1 == 2)) else (if a0 = 8 then (some (a1 == 2)) else (if a0 = 10 then (some (a1 == 2)) else (some (a1 == 0)))))) = some r := by rw [if_neg (show ¬ (false = true) by decide)] at H; exact H
        clear H
        have H := H1
        clear H1
        by_cases c6 : a0 = 3
        · rw [if_pos c6] at H
          have c6b0 : (a0 == 3) = true := beq_iff_eq.mpr c6
          have c6b1 : (a0 != 3) = false := bne_eq_false_iff_eq.mpr c6
          clear c6
          replace H := Option.bind_eq_some_iff.mp H
          obtain ⟨t102, A70, H⟩ := H
          replace H : (if t102 = true then (if (Int.tmod (wrap64 (Int.tdiv a1 2)) 4) = 3 then (some false) else (if a1 < 8 then (some true) else (some (decide ((Int.tmod (wrap64 (Int.tdiv a1 2)) 4) > 0))))) else (some false)) = some r := H
          have A7 := Aside0.mk A70
          clear A70
          by_cases c8 : t102 = true
          · subst c8
            have H1 : (if (Int.tmod (wrap64 (Int.tdiv a1 2)) 4) = 3 then (some false) else (if a1 < 8 then (some true) else (some (decide ((Int.tmod (wrap64 (Int.tdiv a1 2)) 4) > 0))))) = some r := by rw [if_pos rfl] at H; exact H
            clear H
            have H := H1
            clear H1
            by_cases c9 : (Int.tmod (wrap64 (Int.tdiv a1 2)) 4) = 3
            · rw [if_pos c9] at H
              have c9b0 : ((Int.tmod (wrap64 (Int.tdiv a1 2)) 4) == 3) = true := beq_iff_eq.mpr c9
              have c9b1 : ((Int.tmod (wrap64 (Int.tdiv a1 2)) 4) != 3) = false := bne_eq_false_iff_eq.mpr c9
              clear c9
              obtain rfl := Option.some.inj H
              go_wp2_with (first | ((with_reducible refine gate_callee (f := 9) rfl ?_); refine goesL_ (some 16) rfl rfl Tryd.func9 (by kernel_rfl) rfl #[.int .i64 a1, .int .i64 15] rfl (by (try simp only [List.map_toArray, List.map_cons, List.map_nil]); first | done | rfl | (simp only [List.length_drop, List.length_take]; rfl)) ?_; (with_reducible refine (crierref2_within.calls a1 15 true _ A7.out).mono ?_); rintro e w' ⟨rfl, ⟨nd, rfl⟩⟩; refine ⟨_, rfl, ?_⟩))
              go_ret
              exact ⟨by first | rfl | (simp; done) | (simp [*]; done), by repeat (first | exact Drawn0.refl _ | apply Drawn0.step)⟩
            · rw [if_neg c9] at H
              have c9b0 : ((Int.tmod (wrap64 (Int.tdiv a1 2)) 4) == 3) = false := beq_eq_false_iff_ne.mpr c9
              have c9b1 : ((Int.tmod (wrap64 (Int.tdiv a1 2)) 4) != 3) = true := bne_iff_ne.mpr c9
              by_cases c10 : a1 < 8
              · rw [if_pos c10] at H
                have c10b0 : decide (a1 < 8) = true := decide_eq_true c10
                clear c10
                obtain rfl := Option.some.inj H
                go_wp2_with (first | ((with_reducible refine gate_callee (f := 9) rfl ?_); refine goesL_ (some 16) rfl rfl Tryd.func9 (by kernel_rfl) rfl #[.int .i64 a1, .int .i64 15] rfl (by (try simp only [List.map_toArray, List.map_cons, List.map_nil]); first | done | rfl | (simp only [List.length_drop, List.length_take]; rfl)) ?_; (with_reducible refine (crierref2_within.calls a1 15 true _ A7.out).mono ?_); rintro e w' ⟨rfl, ⟨nd, rfl⟩⟩; refine ⟨_, rfl, ?_⟩))
                go_ret
                exact ⟨by first | rfl | (simp; done) | (simp [*]; done), by repeat (first | exact Drawn0.refl _ | apply Drawn0.step)⟩
              · rw [if_neg c10] at H
                have c10b0 : decide (a1 < 8) = false := decide_eq_false c10
                clear c10
                obtain rfl := Option.some.inj H
                go_wp2_with (first | ((with_reducible refine gate_callee (f := 9) rfl ?_); refine goesL_ (some 16) rfl rfl Tryd.func9 (by kernel_rfl) rfl #[.int .i64 a1, .int .i64 15] rfl (by (try simp only [List.map_toArray, List.map_cons, List.map_nil]); first | done | rfl | (simp only [List.length_drop, List.length_take]; rfl)) ?_; (with_reducible refine (crierref2_within.calls a1 15 true _ A7.out).mono ?_); rintro e w' ⟨rfl, ⟨nd, rfl⟩⟩; refine ⟨_, rfl, ?_⟩))
                go_ret
                exact ⟨by first | rfl | (simp; done) | (simp [*]; done), by repeat (first | exact Drawn0.refl _ | apply Drawn0.step)⟩
          · replace c8 := Bool.eq_false_iff.mpr c8
            subst c8
            have H1 : (some false) = some r := by rw [if_neg (show ¬ (false = true) by decide)] at H; exact H
            clear H
            have H := H1
            clear H1
            obtain rfl := Option.some.inj H
            go_wp2_with (first | ((with_reducible refine gate_callee (f := 9) rfl ?_); refine goesL_ (some 16) rfl rfl Tryd.func9 (by kernel_rfl) rfl #[.int .i64 a1, .int .i64 15] rfl (by (try simp only [List.map_toArray, List.map_cons, List.map_nil]); first | done | rfl | (simp only [List.length_drop, List.length_take]; rfl)) ?_; (with_reducible refine (crierref2_within.calls a1 15 false _ A7.out).mono ?_); rintro e w' ⟨rfl, ⟨nd, rfl⟩⟩; refine ⟨_, rfl, ?_⟩))
            go_ret
            exact ⟨by first | rfl | (simp; done) | (simp [*]; done), by repeat (first | exact Drawn0.refl _ | apply Drawn0.step)⟩
        · rw [if_neg c6] at H
          have c6b0 : (a0 == 3) = false := beq_eq_false_iff_ne.mpr c6
          have c6b1 : (a0 != 3) = true := bne_iff_ne.mpr c6
          by_cases c11 : a0 = 6
          · rw [if_pos c11] at H
            have c11b0 : (a0 == 6) = true := beq_iff_eq.mpr c11
            have c11b1 : (a0 != 6) = false := bne_eq_false_iff_eq.mpr c11
            clear c11
            obtain rfl := Option.some.inj H
            go_wp2
            go_ret
            exact ⟨by first | rfl | (simp; done) | (simp [*]; done), by repeat (first | exact Drawn0.refl _ | apply Drawn0.step)⟩
          · rw [if_neg c11] at H
            have c11b0 : (a0 == 6) = false := beq_eq_false_iff_ne.mpr c11
            have c11b1 : (a0 != 6) = true := bne_iff_ne.mpr c11
            by_cases c12 : a0 = 8
            · rw [if_pos c12] at H
              have c12b0 : (a0 == 8) = true := beq_iff_eq.mpr c12
              have c12b1 : (a0 != 8) = false := bne_eq_false_iff_eq.mpr c12
              clear c12
              obtain rfl := Option.some.inj H
              go_wp2
              go_ret
              exact ⟨by first | rfl | (simp; done) | (simp [*]; done), by repeat (first | exact Drawn0.refl _ | apply Drawn0.step)⟩
            · rw [if_neg c12] at H
              have c12b0 : (a0 == 8) = false := beq_eq_false_iff_ne.mpr c12
              have c12b1 : (a0 != 8) = true := bne_iff_ne.mpr c12
              by_cases c13 : a0 = 10
              · rw [if_pos c13] at H
                have c13b0 : (a0 == 10) = true := beq_iff_eq.mpr c13
                have c13b1 : (a0 != 10) = false := bne_eq_false_iff_eq.mpr c13
                clear c13
                obtain rfl := Option.some.inj H
                go_wp2
                go_ret
                exact ⟨by first | rfl | (simp; done) | (simp [*]; done), by repeat (first | exact Drawn0.refl _ | apply Drawn0.step)⟩
              · rw [if_neg c13] at H
                have c13b0 : (a0 == 10) = false := beq_eq_false_iff_ne.mpr c13
                have c13b1 : (a0 != 10) = true := bne_iff_ne.mpr c13
                obtain rfl := Option.some.inj H
                go_wp2
                go_ret
                exact ⟨by first | rfl | (simp; done) | (simp [*]; done), by repeat (first | exact Drawn0.refl _ | apply Drawn0.step)⟩

-- NOT PRINTED: function 6 (packet_Name)

/-! ### crierref2_Name: function 7 -/
def crierref2_Name.f (a0 : Int) : Option (ByteArray) := (some (([(⟨#[]⟩ : ByteArray), (⟨#[67, 111, 110, 110, 101, 99, 116]⟩ : ByteArray), (⟨#[67, 111, 110, 110, 97, 99, 107]⟩ : ByteArray), (⟨#[80, 117, 98, 108, 105, 115, 104]⟩ : ByteArray), (⟨#[80, 117, 98, 97, 99, 107]⟩ : ByteArray), (⟨#[80, 117, 98, 114, 101, 99]⟩ : ByteArray), (⟨#[80, 117, 98, 114, 101, 108]⟩ : ByteArray), (⟨#[80, 117, 98, 99, 111, 109, 112]⟩ : ByteArray), (⟨#[83, 117, 98, 115, 99, 114, 105, 98, 101]⟩ : ByteArray), (⟨#[83, 117, 98, 97, 99, 107]⟩ : ByteArray), (⟨#[85, 110, 115, 117, 98, 115, 99, 114, 105, 98, 101]⟩ : ByteArray), (⟨#[85, 110, 115, 117, 98, 97, 99, 107]⟩ : ByteArray), (⟨#[80, 105, 110, 103, 114, 101, 113]⟩ : ByteArray), (⟨#[80, 105, 110, 103, 114, 101, 115, 112]⟩ : ByteArray), (⟨#[68, 105, 115, 99, 111, 110, 110, 101, 99, 116]⟩ : ByteArray)] : List ByteArray) : List ByteArray)).bind fun y104 => (if a0 < 0 then (some (⟨#[]⟩ : ByteArray)) else (if a0 > 14 then (some (⟨#[]⟩ : ByteArray)) else (if 0 ≤ a0 then (if a0 < (y104.length : Int) then (some (rdOf ByteArray.empty y104 a0)) else (none)) else (none))))
set_option maxHeartbeats 8000000 in
set_option maxRecDepth 100000 in
theorem crierref2_Name.calls (a0 : Int) (r : ByteArray) (w : World) (h : crierref2_Name.f a0 = some r) :
    Calls Tryd.prog 7 #[.int .i64 a0] w fun e w' => e = .returned (.string r) ∧ Below w.heap.size w w' := by
  have HB := Aside0.mk (Below.refl w.heap.size w)
  have H : ((some (([(⟨#[]⟩ : ByteArray), (⟨#[67, 111, 110, 110, 101, 99, 116]⟩ : ByteArray), (⟨#[67, 111, 110, 110, 97, 99, 107]⟩ : ByteArray), (⟨#[80, 117, 98, 108, 105, 115, 104]⟩ : ByteArray), (⟨#[80, 117, 98, 97, 99, 107]⟩ : ByteArray), (⟨#[80, 117, 98, 114, 101, 99]⟩ : ByteArray), (⟨#[80, 117, 98, 114, 101, 108]⟩ : ByteArray), (⟨#[80, 117, 98, 99, 111, 109, 112]⟩ : ByteArray), (⟨#[83, 117, 98, 115, 99, 114, 105, 98, 101]⟩ : ByteArray), (⟨#[83, 117, 98, 97, 99, 107]⟩ : ByteArray), (⟨#[85, 110, 115, 117, 98, 115, 99, 114, 105, 98, 101]⟩ : ByteArray), (⟨#[85, 110, 115, 117, 98, 97, 99, 107]⟩ : ByteArray), (⟨#[80, 105, 110, 103, 114, 101, 113]⟩ : ByteArray), (⟨#[80, 105, 110, 103, 114, 101, 115, 112]⟩ : ByteArray), (⟨#[68, 105, 115, 99, 111, 110, 110, 101, 99, 116]⟩ : ByteArray)] : List ByteArray) : List ByteArray)).bind fun y104 => (if a0 < 0 then (some (⟨#[]⟩ : ByteArray)) else (if a0 > 14 then (some (⟨#[]⟩ : ByteArray)) else (if 0 ≤ a0 then (if a0 < (y104.length : Int) then (some (rdOf ByteArray.empty y104 a0)) else (none)) else (none))))) = some r := h
  clear h
  obtain ⟨y104, hy104⟩ : ∃ y_ : List ByteArray, y_ = (([(⟨#[]⟩ : ByteArray), (⟨#[67, 111, 110, 110, 101, 99, 116]⟩ : ByteArray), (⟨#[67, 111, 110, 110, 97, 99, 107]⟩ : ByteArray), (⟨#[80, 117, 98, 108, 105, 115, 104]⟩ : ByteArray), (⟨#[80, 117, 98, 97, 99, 107]⟩ : ByteArray), (⟨#[80, 117, 98, 114, 101, 99]⟩ : ByteArray), (⟨#[80, 117, 98, 114, 101, 108]⟩ : ByteArray), (⟨#[80, 117, 98, 99, 111, 109, 112]⟩ : ByteArray), (⟨#[83, 117, 98, 115, 99, 114, 105, 98, 101]⟩ : ByteArray), (⟨#[83, 117, 98, 97, 99, 107]⟩ : ByteArray), (⟨#[85, 110, 115, 117, 98, 115, 99, 114, 105, 98, 101]⟩ : ByteArray), (⟨#[85, 110, 115, 117, 98, 97, 99, 107]⟩ : ByteArray), (⟨#[80, 105, 110, 103, 114, 101, 113]⟩ : ByteArray), (⟨#[80, 105, 110, 103, 114, 101, 115, 112]⟩ : ByteArray), (⟨#[68, 105, 115, 99, 111, 110, 110, 101, 99, 116]⟩ : ByteArray)] : List ByteArray)) := ⟨_, rfl⟩
  replace H : (if a0 < 0 then (some (⟨#[]⟩ : ByteArray)) else (if a0 > 14 then (some (⟨#[]⟩ : ByteArray)) else (if 0 ≤ a0 then (if a0 < (y104.length : Int) then (some (rdOf ByteArray.empty y104 a0)) else (none)) else (none)))) = some r := by first | (rw [hy104]; with_reducible exact H) | (have H2_ := (Option.bind_some _ _).symm.trans H; rw [hy104]; with_reducible exact H2_) | (have H2_ := (Option.bind_some _ _).symm.trans H; with_reducible exact H2_) | with_reducible exact H | (rw [hy104]; exact H) | exact H
  have Ny104 := Aside0.mk hy104
  clear hy104
  by_cases c2 : a0 < 0
  · rw [if_pos c2] at H
    have c2b0 : decide (a0 < 0) = true := decide_eq_true c2
    clear c2
    obtain rfl := Option.some.inj H
    go_enter Tryd.func7, Tryd.ntmps7
    go_wp2_with (first | ((with_reducible refine gate_dst (N := 4) rfl ?_); refine Kd.R_lit Kd.string _ 9 ?hg (N := 4) ?hd (xs := ([(⟨#[]⟩ : ByteArray), (⟨#[67, 111, 110, 110, 101, 99, 116]⟩ : ByteArray), (⟨#[67, 111, 110, 110, 97, 99, 107]⟩ : ByteArray), (⟨#[80, 117, 98, 108, 105, 115, 104]⟩ : ByteArray), (⟨#[80, 117, 98, 97, 99, 107]⟩ : ByteArray), (⟨#[80, 117, 98, 114, 101, 99]⟩ : ByteArray), (⟨#[80, 117, 98, 114, 101, 108]⟩ : ByteArray), (⟨#[80, 117, 98, 99, 111, 109, 112]⟩ : ByteArray), (⟨#[83, 117, 98, 115, 99, 114, 105, 98, 101]⟩ : ByteArray), (⟨#[83, 117, 98, 97, 99, 107]⟩ : ByteArray), (⟨#[85, 110, 115, 117, 98, 115, 99, 114, 105, 98, 101]⟩ : ByteArray), (⟨#[85, 110, 115, 117, 98, 97, 99, 107]⟩ : ByteArray), (⟨#[80, 105, 110, 103, 114, 101, 113]⟩ : ByteArray), (⟨#[80, 105, 110, 103, 114, 101, 115, 112]⟩ : ByteArray), (⟨#[68, 105, 115, 99, 111, 110, 110, 101, 99, 116]⟩ : ByteArray)] : List ByteArray)) (inner := [.string (⟨#[]⟩ : ByteArray), .string (⟨#[67, 111, 110, 110, 101, 99, 116]⟩ : ByteArray), .string (⟨#[67, 111, 110, 110, 97, 99, 107]⟩ : ByteArray), .string (⟨#[80, 117, 98, 108, 105, 115, 104]⟩ : ByteArray), .string (⟨#[80, 117, 98, 97, 99, 107]⟩ : ByteArray), .string (⟨#[80, 117, 98, 114, 101, 99]⟩ : ByteArray), .string (⟨#[80, 117, 98, 114, 101, 108]⟩ : ByteArray), .string (⟨#[80, 117, 98, 99, 111, 109, 112]⟩ : ByteArray), .string (⟨#[83, 117, 98, 115, 99, 114, 105, 98, 101]⟩ : ByteArray), .string (⟨#[83, 117, 98, 97, 99, 107]⟩ : ByteArray), .string (⟨#[85, 110, 115, 117, 98, 115, 99, 114, 105, 98, 101]⟩ : ByteArray), .string (⟨#[85, 110, 115, 117, 98, 97, 99, 107]⟩ : ByteArray), .string (⟨#[80, 105, 110, 103, 114, 101, 113]⟩ : ByteArray), .string (⟨#[80, 105, 110, 103, 114, 101, 115, 112]⟩ : ByteArray), .string (⟨#[68, 105, 115, 99, 111, 110, 110, 101, 99, 116]⟩ : ByteArray)]) (ok := fun _ => True) (okp := fun _ => True) ?hr ?hp (fun _ hk => hk) trivial (Below.refl _ _) (Nat.le_refl _) (by simp) ?_; (case hd => rfl); (case hg => rfl); (case hr => first | (go_simp; done) | (go_simp; rfl)); (case hp => exact (Reps.one (show Kd.M Kd.string _ _ _ (⟨#[]⟩ : ByteArray) [.string (⟨#[]⟩ : ByteArray)] from rfl) (Reps.one (show Kd.M Kd.string _ _ _ (⟨#[67, 111, 110, 110, 101, 99, 116]⟩ : ByteArray) [.string (⟨#[67, 111, 110, 110, 101, 99, 116]⟩ : ByteArray)] from rfl) (Reps.one (show Kd.M Kd.string _ _ _ (⟨#[67, 111, 110, 110, 97, 99, 107]⟩ : ByteArray) [.string (⟨#[67, 111, 110, 110, 97, 99, 107]⟩ : ByteArray)] from rfl) (Reps.one (show Kd.M Kd.string _ _ _ (⟨#[80, 117, 98, 108, 105, 115, 104]⟩ : ByteArray) [.string (⟨#[80, 117, 98, 108, 105, 115, 104]⟩ : ByteArray)] from rfl) (Reps.one (show Kd.M Kd.string _ _ _ (⟨#[80, 117, 98, 97, 99, 107]⟩ : ByteArray) [.string (⟨#[80, 117, 98, 97, 99, 107]⟩ : ByteArray)] from rfl) (Reps.one (show Kd.M Kd.string _ _ _ (⟨#[80, 117, 98, 114, 101, 99]⟩ : ByteArray) [.string (⟨#[80, 117, 98, 114, 101, 99]⟩ : ByteArray)] from rfl) (Reps.one (show Kd.M Kd.string _ _ _ (⟨#[80, 117, 98, 114, 101, 108]⟩ : ByteArray) [.string (⟨#[80, 117, 98, 114, 101, 108]⟩ : ByteArray)] from rfl) (Reps.one (show Kd.M Kd.string _ _ _ (⟨#[80, 117, 98, 99, 111, 109, 112]⟩ : ByteArray) [.string (⟨#[80, 117, 98, 99, 111, 109, 112]⟩ : ByteArray)] from rfl) (Reps.one (show Kd.M Kd.string _ _ _ (⟨#[83, 117, 98, 115, 99, 114, 105, 98, 101]⟩ : ByteArray) [.string (⟨#[83, 117, 98, 115, 99, 114, 105, 98, 101]⟩ : ByteArray)] from rfl) (Reps.one (show Kd.M Kd.string _ _ _ (⟨#[83, 117, 98, 97, 99, 107]⟩ : ByteArray) [.string (⟨#[83, 117, 98, 97, 99, 107]⟩ : ByteArray)] from rfl) (Reps.one (show Kd.M Kd.string _ _ _ (⟨#[85, 110, 115, 117, 98, 115, 99, 114, 105, 98, 101]⟩ : ByteArray) [.string (⟨#[85, 110, 115, 117, 98, 115, 99, 114, 105, 98, 101]⟩ : ByteArray)] from rfl) (Reps.one (show Kd.M Kd.string _ _ _ (⟨#[85, 110, 115, 117, 98, 97, 99, 107]⟩ : ByteArray) [.string (⟨#[85, 110, 115, 117, 98, 97, 99, 107]⟩ : ByteArray)] from rfl) (Reps.one (show Kd.M Kd.string _ _ _ (⟨#[80, 105, 110, 103, 114, 101, 113]⟩ : ByteArray) [.string (⟨#[80, 105, 110, 103, 114, 101, 113]⟩ : ByteArray)] from rfl) (Reps.one (show Kd.M Kd.string _ _ _ (⟨#[80, 105, 110, 103, 114, 101, 115, 112]⟩ : ByteArray) [.string (⟨#[80, 105, 110, 103, 114, 101, 115, 112]⟩ : ByteArray)] from rfl) (Reps.one (show Kd.M Kd.string _ _ _ (⟨#[68, 105, 115, 99, 111, 110, 110, 101, 99, 116]⟩ : ByteArray) [.string (⟨#[68, 105, 115, 99, 111, 110, 110, 101, 99, 116]⟩ : ByteArray)] from rfl) (Reps.none _ _))))))))))))))))); intro v105 w3 ho4 hb hg_ hnew_; clear hg_ hnew_; (first | rw [← Ny104.out] at ho4 | (simp only [Int.reduceToNat] at ho4; rw [← Ny104.out] at ho4)); have n0_ := Aside0.mk (Kd.R_lower ho4 (below_size (by repeat (first | (with_reducible first | exact HB.out | apply below_alloc | apply pw_below_drewN | apply below_drew1) | exact HB.out)))); have n1_ := Aside0.mk (below_step (by repeat (first | (with_reducible first | exact HB.out | apply below_alloc | apply pw_below_drewN | apply below_drew1) | exact HB.out)) hb); clear HB; have HO106 := n0_; have HB := n1_; clear n0_ n1_; clear hb ho4))
    go_ret
    exact ⟨by first | rfl | (simp [errW_none, errW_some] <;> rfl) | (simp [*, errW_none, errW_some] <;> rfl), by repeat (first | (with_reducible first | exact HB.out | apply below_alloc | apply pw_below_drewN | apply below_drew1) | exact HB.out)⟩
  · rw [if_neg c2] at H
    have c2b0 : decide (a0 < 0) = false := decide_eq_false c2
    clear c2
    by_cases c5 : a0 > 14
    · rw [if_pos c5] at H
      have c5b0 : decide (14 < a0) = true := decide_eq_true c5
      clear c5
      obtain rfl := Option.some.inj H
      go_enter Tryd.func7, Tryd.ntmps7
      go_wp2_with (first | ((with_reducible refine gate_dst (N := 4) rfl ?_); refine Kd.R_lit Kd.string _ 9 ?hg (N := 4) ?hd (xs := ([(⟨#[]⟩ : ByteArray), (⟨#[67, 111, 110, 110, 101, 99, 116]⟩ : ByteArray), (⟨#[67, 111, 110, 110, 97, 99, 107]⟩ : ByteArray), (⟨#[80, 117, 98, 108, 105, 115, 104]⟩ : ByteArray), (⟨#[80, 117, 98, 97, 99, 107]⟩ : ByteArray), (⟨#[80, 117, 98, 114, 101, 99]⟩ : ByteArray), (⟨#[80, 117, 98, 114, 101, 108]⟩ : ByteArray), (⟨#[80, 117, 98, 99, 111, 109, 112]⟩ : ByteArray), (⟨#[83, 117, 98, 115, 99, 114, 105, 98, 101]⟩ : ByteArray), (⟨#[83, 117, 98, 97, 99, 107]⟩ : ByteArray), (⟨#[85, 110, 115, 117, 98, 115, 99, 114, 105, 98, 101]⟩ : ByteArray), (⟨#[85, 110, 115, 117, 98, 97, 99, 107]⟩ : ByteArray), (⟨#[80, 105, 110, 103, 114, 101, 113]⟩ : ByteArray), (⟨#[80, 105, 110, 103, 114, 101, 115, 112]⟩ : ByteArray), (⟨#[68, 105, 115, 99, 111, 110, 110, 101, 99, 116]⟩ : ByteArray)] : List ByteArray)) (inner := [.string (⟨#[]⟩ : ByteArray), .string (⟨#[67, 111, 110, 110, 101, 99, 116]⟩ : ByteArray), .string (⟨#[67, 111, 110, 110, 97, 99, 107]⟩ : ByteArray), .string (⟨#[80, 117, 98, 108, 105, 115, 104]⟩ : ByteArray), .string (⟨#[80, 117, 98, 97, 99, 107]⟩ : ByteArray), .string (⟨#[80, 117, 98, 114, 101, 99]⟩ : ByteArray), .string (⟨#[80, 117, 98, 114, 101, 108]⟩ : ByteArray), .string (⟨#[80, 117, 98, 99, 111, 109, 112]⟩ : ByteArray), .string (⟨#[83, 117, 98, 115, 99, 114, 105, 98, 101]⟩ : ByteArray), .string (⟨#[83, 117, 98, 97, 99, 107]⟩ : ByteArray), .string (⟨#[85, 110, 115, 117, 98, 115, 99, 114, 105, 98, 101]⟩ : ByteArray), .string (⟨#[85, 110, 115, 117, 98, 97, 99, 107]⟩ : ByteArray), .string (⟨#[80, 105, 110, 103, 114, 101, 113]⟩ : ByteArray), .string (⟨#[80, 105, 110, 103, 114, 101, 115, 112]⟩ : ByteArray), .string (⟨#[68, 105, 115, 99, 111, 110, 110, 101, 99, 116]⟩ : ByteArray)]) (ok := fun _ => True) (okp := fun _ => True) ?hr ?hp (fun _ hk => hk) trivial (Below.refl _ _) (Nat.le_refl _) (by simp) ?_; (case hd => rfl); (case hg => rfl); (case hr => first | (go_simp; done) | (go_simp; rfl)); (case hp => exact (Reps.one (show Kd.M Kd.string _ _ _ (⟨#[]⟩ : ByteArray) [.string (⟨#[]⟩ : ByteArray)] from rfl) (Reps.one (show Kd.M Kd.string _ _ _ (⟨#[67, 111, 110, 110, 101, 99, 116]⟩ : ByteArray) [.string (⟨#[67, 111, 110, 110, 101, 99, 116]⟩ : ByteArray)] from rfl) (Reps.one (show Kd.M Kd.string _ _ _ (⟨#[67, 111, 110, 110, 97, 99, 107]⟩ : ByteArray) [.string (⟨#[67, 111, 110, 110, 97, 99, 107]⟩ : ByteArray)] from rfl) (Reps.one (show Kd.M Kd.string _ _ _ (⟨#[80, 117, 98, 108, 105, 115, 104]⟩ : ByteArray) [.string (⟨#[80, 117, 98, 108, 105, 115, 104]⟩ : ByteArray)] from rfl) (Reps.one (show Kd.M Kd.string _ _ _ (⟨#[80, 117, 98, 97, 99, 107]⟩ : ByteArray) [.string (⟨#[80, 117, 98, 97, 99, 107]⟩ : ByteArray)] from rfl) (Reps.one (show Kd.M Kd.string _ _ _ (⟨#[80, 117, 98, 114, 101, 99]⟩ : ByteArray) [.string (⟨#[80, 117, 98, 114, 101, 99]⟩ : ByteArray)] from rfl) (Reps.one (show Kd.M Kd.string _ _ _ (⟨#[80, 117, 98, 114, 101, 108]⟩ : ByteArray) [.string (⟨#[80, 117, 98, 114, 101, 108]⟩ : ByteArray)] from rfl) (Reps.one (show Kd.M Kd.string _ _ _ (⟨#[80, 117, 98, 99, 111, 109, 112]⟩ : ByteArray) [.string (⟨#[80, 117, 98, 99, 111, 109, 112]⟩ : ByteArray)] from rfl) (Reps.one (show Kd.M Kd.string _ _ _ (⟨#[83, 117, 98, 115, 99, 114, 105, 98, 101]⟩ : ByteArray) [.string (⟨#[83, 117, 98, 115, 99, 114, 105, 98, 101]⟩ : ByteArray)] from rfl) (Reps.one (show Kd.M Kd.string _ _ _ (⟨#[83, 117, 98, 97, 99, 107]⟩ : ByteArray) [.string (⟨#[83, 117, 98, 97, 99, 107]⟩ : ByteArray)] from rfl) (Reps.one (show Kd.M Kd.string _ _ _ (⟨#[85, 110, 115, 117, 98, 115, 99, 114, 105, 98, 101]⟩ : ByteArray) [.string (⟨#[85, 110, 115, 117, 98, 115, 99, 114, 105, 98, 101]⟩ : ByteArray)] from rfl) (Reps.one (show Kd.M Kd.string _ _ _ (⟨#[85, 110, 115, 117, 98, 97, 99, 107]⟩ : ByteArray) [.string (⟨#[85, 110, 115, 117, 98, 97, 99, 107]⟩ : ByteArray)] from rfl) (Reps.one (show Kd.M Kd.string _ _ _ (⟨#[80, 105, 110, 103, 114, 101, 113]⟩ : ByteArray) [.string (⟨#[80, 105, 110, 103, 114, 101, 113]⟩ : ByteArray)] from rfl) (Reps.one (show Kd.M Kd.string _ _ _ (⟨#[80, 105, 110, 103, 114, 101, 115, 112]⟩ : ByteArray) [.string (⟨#[80, 105, 110, 103, 114, 101, 115, 112]⟩ : ByteArray)] from rfl) (Reps.one (show Kd.M Kd.string _ _ _ (⟨#[68, 105, 115, 99, 111, 110, 110, 101, 99, 116]⟩ : ByteArray) [.string (⟨#[68, 105, 115, 99, 111, 110, 110, 101, 99, 116]⟩ : ByteArray)] from rfl) (Reps.none _ _))))))))))))))))); intro v105 w6 ho7 hb hg_ hnew_; clear hg_ hnew_; (first | rw [← Ny104.out] at ho7 | (simp only [Int.reduceToNat] at ho7; rw [← Ny104.out] at ho7)); have n0_ := Aside0.mk (Kd.R_lower ho7 (below_size (by repeat (first | (with_reducible first | exact HB.out | apply below_alloc | apply pw_below_drewN | apply below_drew1) | exact HB.out)))); have n1_ := Aside0.mk (below_step (by repeat (first | (with_reducible first | exact HB.out | apply below_alloc | apply pw_below_drewN | apply below_drew1) | exact HB.out)) hb); clear HB; have HO106 := n0_; have HB := n1_; clear n0_ n1_; clear hb ho7))
      go_ret
      exact ⟨by first | rfl | (simp [errW_none, errW_some] <;> rfl) | (simp [*, errW_none, errW_some] <;> rfl), by repeat (first | (with_reducible first | exact HB.out | apply below_alloc | apply pw_below_drewN | apply below_drew1) | exact HB.out)⟩
    · rw [if_neg c5] at H
      have c5b0 : decide (14 < a0) = false := decide_eq_false c5
      clear c5
      by_cases c8 : 0 ≤ a0
      · rw [if_pos c8] at H
        have c8b0 : decide (0 ≤ a0) = true := decide_eq_true c8
        clear c8
        by_cases c9 : a0 < (y104.length : Int)
        · rw [if_pos c9] at H
          have c9b0 : decide (a0 < (y104.length : Int)) = true := decide_eq_true c9
          clear c9
          obtain rfl := Option.some.inj H
          go_enter Tryd.func7, Tryd.ntmps7
          go_wp2_with (first | ((with_reducible refine gate_dst (N := 4) rfl ?_); refine Kd.R_lit Kd.string _ 9 ?hg (N := 4) ?hd (xs := ([(⟨#[]⟩ : ByteArray), (⟨#[67, 111, 110, 110, 101, 99, 116]⟩ : ByteArray), (⟨#[67, 111, 110, 110, 97, 99, 107]⟩ : ByteArray), (⟨#[80, 117, 98, 108, 105, 115, 104]⟩ : ByteArray), (⟨#[80, 117, 98, 97, 99, 107]⟩ : ByteArray), (⟨#[80, 117, 98, 114, 101, 99]⟩ : ByteArray), (⟨#[80, 117, 98, 114, 101, 108]⟩ : ByteArray), (⟨#[80, 117, 98, 99, 111, 109, 112]⟩ : ByteArray), (⟨#[83, 117, 98, 115, 99, 114, 105, 98, 101]⟩ : ByteArray), (⟨#[83, 117, 98, 97, 99, 107]⟩ : ByteArray), (⟨#[85, 110, 115, 117, 98, 115, 99, 114, 105, 98, 101]⟩ : ByteArray), (⟨#[85, 110, 115, 117, 98, 97, 99, 107]⟩ : ByteArray), (⟨#[80, 105, 110, 103, 114, 101, 113]⟩ : ByteArray), (⟨#[80, 105, 110, 103, 114, 101, 115, 112]⟩ : ByteArray), (⟨#[68, 105, 115, 99, 111, 110, 110, 101, 99, 116]⟩ : ByteArray)] : List ByteArray)) (inner := [.string (⟨#[]⟩ : ByteArray), .string (⟨#[67, 111, 110, 110, 101, 99, 116]⟩ : ByteArray), .string (⟨#[67, 111, 110, 110, 97, 99, 107]⟩ : ByteArray), .string (⟨#[80, 117, 98, 108, 105, 115, 104]⟩ : ByteArray), .string (⟨#[80, 117, 98, 97, 99, 107]⟩ : ByteArray), .string (⟨#[80, 117, 98, 114, 101, 99]⟩ : ByteArray), .string (⟨#[80, 117, 98, 114, 101, 108]⟩ : ByteArray), .string (⟨#[80, 117, 98, 99, 111, 109, 112]⟩ : ByteArray), .string (⟨#[83, 117, 98, 115, 99, 114, 105, 98, 101]⟩ : ByteArray), .string (⟨#[83, 117, 98, 97, 99, 107]⟩ : ByteArray), .string (⟨#[85, 110, 115, 117, 98, 115, 99, 114, 105, 98, 101]⟩ : ByteArray), .string (⟨#[85, 110, 115, 117, 98, 97, 99, 107]⟩ : ByteArray), .string (⟨#[80, 105, 110, 103, 114, 101, 113]⟩ : ByteArray), .string (⟨#[80, 105, 110, 103, 114, 101, 115, 112]⟩ : ByteArray), .string (⟨#[68, 105, 115, 99, 111, 110, 110, 101, 99, 116]⟩ : ByteArray)]) (ok := fun _ => True) (okp := fun _ => True) ?hr ?hp (fun _ hk => hk) trivial (Below.refl _ _) (Nat.le_refl _) (by simp) ?_; (case hd => rfl); (case hg => rfl); (case hr => first | (go_simp; done) | (go_simp; rfl)); (case hp => exact (Reps.one (show Kd.M Kd.string _ _ _ (⟨#[]⟩ : ByteArray) [.string (⟨#[]⟩ : ByteArray)] from rfl) (Reps.one (show Kd.M Kd.string _ _ _ (⟨#[67, 111, 110, 110, 101, 99, 116]⟩ : ByteArray) [.string (⟨#[67, 111, 110, 110, 101, 99, 116]⟩ : ByteArray)] from rfl) (Reps.one (show Kd.M Kd.string _ _ _ (⟨#[67, 111, 110, 110, 97, 99, 107]⟩ : ByteArray) [.string (⟨#[67, 111, 110, 110, 97, 99, 107]⟩ : ByteArray)] from rfl) (Reps.one (show Kd.M Kd.string _ _ _ (⟨#[80, 117, 98, 108, 105, 115, 104]⟩ : ByteArray) [.string (⟨#[80, 117, 98, 108, 105, 115, 104]⟩ : ByteArray)] from rfl) (Reps.one (show Kd.M Kd.string _ _ _ (⟨#[80, 117, 98, 97, 99, 107]⟩ : ByteArray) [.string (⟨#[80, 117, 98, 97, 99, 107]⟩ : ByteArray)] from rfl) (Reps.one (show Kd.M Kd.string _ _ _ (⟨#[80, 117, 98, 114, 101, 99]⟩ : ByteArray) [.string (⟨#[80, 117, 98, 114, 101, 99]⟩ : ByteArray)] from rfl) (Reps.one (show Kd.M Kd.string _ _ _ (⟨#[80, 117, 98, 114, 101, 108]⟩ : ByteArray) [.string (⟨#[80, 117, 98, 114, 101, 108]⟩ : ByteArray)] from rfl) (Reps.one (show Kd.M Kd.string _ _ _ (⟨#[80, 117, 98, 99, 111, 109, 112]⟩ : ByteArray) [.string (⟨#[80, 117, 98, 99, 111, 109, 112]⟩ : ByteArray)] from rfl) (Reps.one (show Kd.M Kd.string _ _ _ (⟨#[83, 117, 98, 115, 99, 114, 105, 98, 101]⟩ : ByteArray) [.string (⟨#[83, 117, 98, 115, 99, 114, 105, 98, 101]⟩ : ByteArray)] from rfl) (Reps.one (show Kd.M Kd.string _ _ _ (⟨#[83, 117, 98, 97, 99, 107]⟩ : ByteArray) [.string (⟨#[83, 117, 98, 97, 99, 107]⟩ : ByteArray)] from rfl) (Reps.one (show Kd.M Kd.string _ _ _ (⟨#[85, 110, 115, 117, 98, 115, 99, 114, 105, 98, 101]⟩ : ByteArray) [.string (⟨#[85, 110, 115, 117, 98, 115, 99, 114, 105, 98, 101]⟩ : ByteArray)] from rfl) (Reps.one (show Kd.M Kd.string _ _ _ (⟨#[85, 110, 115, 117, 98, 97, 99, 107]⟩ : ByteArray) [.string (⟨#[85, 110, 115, 117, 98, 97, 99, 107]⟩ : ByteArray)] from rfl) (Reps.one (show Kd.M Kd.string _ _ _ (⟨#[80, 105, 110, 103, 114, 101, 113]⟩ : ByteArray) [.string (⟨#[80, 105, 110, 103, 114, 101, 113]⟩ : ByteArray)] from rfl) (Reps.one (show Kd.M Kd.string _ _ _ (⟨#[80, 105, 110, 103, 114, 101, 115, 112]⟩ : ByteArray) [.string (⟨#[80, 105, 110, 103, 114, 101, 115, 112]⟩ : ByteArray)] from rfl) (Reps.one (show Kd.M Kd.string _ _ _ (⟨#[68, 105, 115, 99, 111, 110, 110, 101, 99, 116]⟩ : ByteArray) [.string (⟨#[68, 105, 115, 99, 111, 110, 110, 101, 99, 116]⟩ : ByteArray)] from rfl) (Reps.none _ _))))))))))))))))); intro v105 w10 ho11 hb hg_ hnew_; clear hg_ hnew_; (first | rw [← Ny104.out] at ho11 | (simp only [Int.reduceToNat] at ho11; rw [← Ny104.out] at ho11)); have n0_ := Aside0.mk (Kd.R_lower ho11 (below_size (by repeat (first | (with_reducible first | exact HB.out | apply below_alloc | apply pw_below_drewN | apply below_drew1) | exact HB.out)))); have n1_ := Aside0.mk (below_step (by repeat (first | (with_reducible first | exact HB.out | apply below_alloc | apply pw_below_drewN | apply below_drew1) | exact HB.out)) hb); clear HB; have HO106 := n0_; have HB := n1_; clear n0_ n1_; clear hb ho11; obtain ⟨Ao12, co12, eo12⟩ := Kd.R_slice HO106.out; subst eo12; have p107 : 0 ≤ (a0 : Int) := of_decide_eq_true (by first | (with_reducible assumption) | assumption); have q107 : a0 < (y104.length : Int) := of_decide_eq_true (by first | (with_reducible assumption) | assumption); obtain ⟨ad107, e107, hx107_0⟩ := Kd.at_string (Kd.R_reads' HO106.out).2.2 a0 p107 q107; cases e107; replace p107 := eq_true p107; replace q107 := eq_true q107))
          go_ret
          exact ⟨by first | rfl | (simp [errW_none, errW_some] <;> rfl) | (simp [*, errW_none, errW_some] <;> rfl), by repeat (first | (with_reducible first | exact HB.out | apply below_alloc | apply pw_below_drewN | apply below_drew1) | exact HB.out)⟩
        · rw [if_neg c9] at H
          exact absurd H (by simp)
      · rw [if_neg c8] at H
        exact absurd H (by simp)

-- NOT PRINTED: function 3 (crierlaw2_PacketKinds)

end Go.Proofs.YtpmajigbcbdlmaaDoor.PPacketKinds
