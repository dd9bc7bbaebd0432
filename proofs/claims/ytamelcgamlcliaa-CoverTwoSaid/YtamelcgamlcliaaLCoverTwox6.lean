-- Printed by a program of this session's own (wip/mkprint.py): contracts of the functions that a law uses. Not trusted: Lean checks it.
import Derived.Test.YtamelcgamlcliaaLCoverTwox0
import Derived.Test.YtamelcgamlcliaaLCoverTwox3
import Derived.Test.YtamelcgamlcliaaLCoverTwox4
import Derived.Test.YtamelcgamlcliaaLCoverTwox5
namespace Go.Proofs.Ytamelcgamlcliaa.LCoverTwo
open Go.RowKit Go.Proofs.Ytamelcgamlcliaa.Giv Go.Proofs.Ytamelcgamlcliaa.MCoverTopics Go.Proofs.YtamelcgamlcliaaW.PrintWords Go.Proofs.YtamelcgamlcliaaW.PrintLast Go.Proofs.YtamelcgamlcliaaW.PrintMore
open Go.Proofs.YtamelcgamlcliaaW.PrintWords renaming below_alloc → ba, below_drew1 → bd, pw_below_drewN → bn
open Go.Proofs.YtamelcgamlcliaaW.PrintWords.Aside0 renaming mk → am
open Go.Proofs.YtamelcgamlcliaaW.PrintWords.Kd renaming R_alloc → ra, R_drewN → rn, R_drew → rd
attribute [local go_sem] max2_int min2_int max_two min_two max_three min_three max_four min_four   -- for this text's walks alone
set_option linter.unusedVariables false
set_option linter.unusedSimpArgs false

/-! ### crierref6_Meet: function 8 -/
mutual
def crierref6_Meet.j0 : Nat → ByteArray → ByteArray → Bool → Option (ByteArray × Bool)
 | 0, _, _, _ => none
 | k + 1, x0, x1, x25 => if x25 = true then (some ((⟨#[]⟩ : ByteArray), false)) else ((crierref6_open.f k x0).bind fun bt197 => ((crierref6_open.f k x1).bind fun bt201 => (if (bt197.1.length : Int) < (bt201.1.length : Int) then (if bt197.2 = true then (if (bt201.1.length : Int) < (bt197.1.length : Int) then (crierref6_Meet.j1 k x0 x1 bt197.1 bt197.2 bt201.1 bt201.2 (!bt201.2)) else (crierref6_Meet.j1 k x0 x1 bt197.1 bt197.2 bt201.1 bt201.2 false)) else (crierref6_Meet.j1 k x0 x1 bt197.1 bt197.2 bt201.1 bt201.2 true)) else (if (bt201.1.length : Int) < (bt197.1.length : Int) then (crierref6_Meet.j1 k x0 x1 bt197.1 bt197.2 bt201.1 bt201.2 (!bt201.2)) else (crierref6_Meet.j1 k x0 x1 bt197.1 bt197.2 bt201.1 bt201.2 false)))))
def crierref6_Meet.j1 : Nat → ByteArray → ByteArray → List ByteArray → Bool → List ByteArray → Bool → Bool → Option (ByteArray × Bool)
 | 0, _, _, _, _, _, _, _ => none
 | k + 1, x0, x1, x6, x7, x8, x9, x55 => if x55 = true then (some ((⟨#[]⟩ : ByteArray), false)) else (crierref6_Meet.l0 k x0 x1 x6 x7 x8 x9 ([] : List ByteArray) 0)
def crierref6_Meet.l0 : Nat → ByteArray → ByteArray → List ByteArray → Bool → List ByteArray → Bool → List ByteArray → Int → Option (ByteArray × Bool)
 | 0, _, _, _, _, _, _, _, _ => none
 | k + 1, x0, x1, x6, x7, x8, x9, x10, x11 => if x11 < (mx (x6.length : Int) (x8.length : Int)) then (if x11 < (x6.length : Int) then (if 0 ≤ x11 then (crierref6_Meet.j3 k x0 x1 x6 x7 x8 x9 x10 x11 (rdOf ByteArray.empty x6 x11) (⟨#[43]⟩ : ByteArray)) else (none)) else (crierref6_Meet.j3 k x0 x1 x6 x7 x8 x9 x10 x11 (⟨#[43]⟩ : ByteArray) (⟨#[43]⟩ : ByteArray))) else ((crierref6_fill.f k x10 1).bind fun t217 => ((crierref6_alive.f k t217 (⟨#[]⟩ : ByteArray)).bind fun t220 => ((crierref6_common.f k t220 x0 x1).bind fun bt223 => (if bt223.2 = true then (crierref6_Meet.j4 k x0 x1 x10 bt223.1 bt223.2 false) else (if x7 = true then (crierref6_Meet.j4 k x0 x1 x10 bt223.1 bt223.2 x9) else (crierref6_Meet.j4 k x0 x1 x10 bt223.1 bt223.2 false))))))
def crierref6_Meet.j3 : Nat → ByteArray → ByteArray → List ByteArray → Bool → List ByteArray → Bool → List ByteArray → Int → ByteArray → ByteArray → Option (ByteArray × Bool)
 | 0, _, _, _, _, _, _, _, _, _, _ => none
 | k + 1, x0, x1, x6, x7, x8, x9, x10, x11, x12, x13 => if x11 < (x8.length : Int) then (if 0 ≤ x11 then ((crierref6_both.f x12 (rdOf ByteArray.empty x8 x11)).bind fun bt207 => (if bt207.2 = true then (if x10.length < 8796093022208 then (crierref6_Meet.l0 k x0 x1 x6 x7 x8 x9 (x10 ++ [bt207.1]) (wrap64 (x11 + 1))) else (none)) else (some ((⟨#[]⟩ : ByteArray), false)))) else (none)) else ((crierref6_both.f x12 x13).bind fun bt212 => (if bt212.2 = true then (if x10.length < 8796093022208 then (crierref6_Meet.l0 k x0 x1 x6 x7 x8 x9 (x10 ++ [bt212.1]) (wrap64 (x11 + 1))) else (none)) else (some ((⟨#[]⟩ : ByteArray), false))))
def crierref6_Meet.j4 : Nat → ByteArray → ByteArray → List ByteArray → ByteArray → Bool → Bool → Option (ByteArray × Bool)
 | 0, _, _, _, _, _, _ => none
 | k + 1, x0, x1, x10, x16, x17, x109 => if x109 = true then ((crierref6_fill.f k x10 2).bind fun t225 => ((crierref6_common.f k t225 x0 x1).bind fun bt228 => (some (bt228.1, bt228.2)))) else (some (x16, x17))
end
def crierref6_Meet.f (k : Nat) (a0 : ByteArray) (a1 : ByteArray) : Option (ByteArray × Bool) := (crierref5_Plain.f k a0).bind fun t195 => (if t195 = true then ((crierref5_Plain.f k a1).bind fun t196 => (crierref6_Meet.j0 k a0 a1 (!t196))) else (crierref6_Meet.j0 k a0 a1 true))
set_option maxHeartbeats 8000000 in
set_option maxRecDepth 100000 in
theorem crierref6_Meet.calls (k : Nat) (a0 : ByteArray) (a1 : ByteArray) (r1 : ByteArray) (r2 : Bool) (w : World) (h : crierref6_Meet.f k a0 a1 = some (r1, r2)) :
  Calls Try.prog 8 #[.string a0, .string a1] w fun e w' => e = .returned (.tuple #[.string r1, .bool r2]) ∧ Below w.heap.size w w' := by
 have HB := am (Below.refl w.heap.size w)
 have H : ((crierref5_Plain.f k a0).bind fun t195 => (if t195 = true then ((crierref5_Plain.f k a1).bind fun t196 => (crierref6_Meet.j0 k a0 a1 (!t196))) else (crierref6_Meet.j0 k a0 a1 true))) = some (r1, r2) := h
 clear h
 have HC3 := am H
 clear H
 go_enter Try.func8, Try.ntmps8
 go_upto_region 1 with (fail)
 go_cut [25] (fun v25 wc => ∃ (kq : Nat) (x25_2 : Bool), v25 = .bool x25_2 ∧ Aside0 (crierref6_Meet.j0 kq a0 a1 x25_2 = some (r1, r2)) ∧ Aside0 (kq ≤ k) ∧ Aside0 (Below w.heap.size w wc))
 case first =>
  have H := HC3.out
  clear HC3
  replace H := Option.bind_eq_some_iff.mp H
  obtain ⟨t195, A40, H⟩ := H
  try dsimp only at H
  have A4 := am A40
  clear A40
  by_cases c5 : t195 = true
  ·subst c5
   rw [if_pos rfl] at H
   replace H := Option.bind_eq_some_iff.mp H
   obtain ⟨t196, A60, H⟩ := H
   try dsimp only at H
   have A6 := am A60
   clear A60
   have H' := am H
   clear H
   go_wp2_with (first | ((with_reducible refine gate_callee (f := 23) rfl ?_); refine goesL_ (some 19) rfl rfl Try.func23 (by kernel_rfl) rfl #[.string a0] rfl (by (try simp only [List.map_toArray, List.map_cons, List.map_nil]); first | done | rfl) ?_; (with_reducible refine (crierref5_Plain.calls k a0 true _ A4.out).mono ?_); rintro e w7 ⟨rfl, hb⟩; refine ⟨_, rfl, ?_⟩; have n0_ := am (below_step (by repeat (with_reducible first | exact HB.out | apply ba | apply bn | apply bd)) hb); clear HB; have HB := n0_; clear n0_; (try clear hb)) | (go_at_call 23; (with_reducible refine (crierref5_Plain.calls k a1 t196 _ A6.out).mono ?_); rintro e w8 ⟨rfl, hb⟩; have n0_ := am (below_step (by repeat (with_reducible first | exact HB.out | apply ba | apply bn | apply bd)) hb); clear HB; have HB := n0_; clear n0_; (try clear hb)))
   go_meet
   case rel => exact ⟨_, (!t196), (by first | rfl | (simp; done) | (simp [*]; done)), H', ⟨by first | omega | exact Nat.le_refl _⟩, ⟨by repeat (with_reducible first | exact HB.out | apply ba | apply bn | apply bd)⟩⟩
  ·replace c5 := Bool.eq_false_iff.mpr c5
   subst c5
   rw [if_neg (show ¬ (false = true) by decide)] at H
   have H' := am H
   clear H
   go_wp2_with (first | ((with_reducible refine gate_callee (f := 23) rfl ?_); refine goesL_ (some 19) rfl rfl Try.func23 (by kernel_rfl) rfl #[.string a0] rfl (by (try simp only [List.map_toArray, List.map_cons, List.map_nil]); first | done | rfl) ?_; (with_reducible refine (crierref5_Plain.calls k a0 false _ A4.out).mono ?_); rintro e w9 ⟨rfl, hb⟩; refine ⟨_, rfl, ?_⟩; have n0_ := am (below_step (by repeat (with_reducible first | exact HB.out | apply ba | apply bn | apply bd)) hb); clear HB; have HB := n0_; clear n0_; (try clear hb)))
   go_meet
   case rel => exact ⟨_, (true), (by first | rfl | (simp; done) | (simp [*]; done)), H', ⟨by first | omega | exact Nat.le_refl _⟩, ⟨by repeat (with_reducible first | exact HB.out | apply ba | apply bn | apply bd)⟩⟩
 case rest =>
  clear HC3
  try clear c2
  try clear p2
  try clear c5
  try clear c8
  obtain ⟨kq, x25_2, rfl, HA, HJ2, HB⟩ := hcut
  cases kq with
  | zero => exact absurd HA.out (by simp [crierref6_Meet.j0])
  | succ kj2 =>
   have H := HA.out
   clear HA
   simp only [crierref6_Meet.j0] at H
   by_cases c10 : x25_2 = true
   ·subst c10
    rw [if_pos rfl] at H
    simp only [Option.some.injEq, Prod.mk.injEq] at H
    obtain ⟨rfl, rfl⟩ := H
    go_wp2
    go_ret2
    exact ⟨by first | rfl | (simp [*] <;> rfl), by repeat (with_reducible first | exact HB.out | apply ba | apply bn | apply bd)⟩
   ·replace c10 := Bool.eq_false_iff.mpr c10
    subst c10
    rw [if_neg (show ¬ (false = true) by decide)] at H
    replace H := Option.bind_eq_some_iff.mp H
    obtain ⟨⟨t197, t198⟩, A110, H⟩ := H
    try dsimp only at H
    have A11 := am A110
    clear A110
    replace H := Option.bind_eq_some_iff.mp H
    obtain ⟨⟨t201, t202⟩, A120, H⟩ := H
    try dsimp only at H
    have A12 := am A120
    clear A120
    have HC13 := am H
    clear H
    go_upto_region 5 with (first | ((with_reducible refine gate_callee (f := 24) rfl ?_); refine goesL_ (some 28) rfl rfl Try.func24 (by kernel_rfl) rfl #[.string a0] rfl (by (try simp only [List.map_toArray, List.map_cons, List.map_nil]); first | done | rfl) ?_; (with_reducible refine (crierref6_open.calls kj2 a0 t197 t198 _ A11.out).mono ?_); rintro e w14 ⟨v199, rfl, ho0, hb⟩; refine ⟨_, rfl, ?_⟩; have n0_ := am (Kd.R_lower ho0 (below_size (by repeat (with_reducible first | exact HB.out | apply ba | apply bn | apply bd)))); have n1_ := am (below_step (by repeat (with_reducible first | exact HB.out | apply ba | apply bn | apply bd)) hb); clear HB; have HO200 := n0_; have HB := n1_; clear n0_ n1_; (try clear hb); (try clear ho0)) | ((with_reducible refine gate_callee (f := 24) rfl ?_); refine goesL_ (some 33) rfl rfl Try.func24 (by kernel_rfl) rfl #[.string a1] rfl (by (try simp only [List.map_toArray, List.map_cons, List.map_nil]); first | done | rfl) ?_; (with_reducible refine (crierref6_open.calls kj2 a1 t201 t202 _ A12.out).mono ?_); rintro e w15 ⟨v203, rfl, ho0, hb⟩; refine ⟨_, rfl, ?_⟩; have n0_ := am (Kd.R_elder' (by (with_reducible repeat (first | apply ra | apply rn | apply rd)); exact HO200.out) (Kd.R_base ho0) hb); have n1_ := am (Kd.R_lower (Kd.R_new' ho0 (Kd.R_lt (by (with_reducible repeat (first | apply ra | apply rn | apply rd)); exact HO200.out))) (below_size (by repeat (with_reducible first | exact HB.out | apply ba | apply bn | apply bd)))); have n2_ := am (below_step (by repeat (with_reducible first | exact HB.out | apply ba | apply bn | apply bd)) hb); clear HO200; clear HB; have HO200 := n0_; have HO204 := n1_; have HB := n2_; clear n0_ n1_ n2_; (try clear hb); (try clear ho0)))
    (try simp only [Act.put, List.setIfInBounds_toArray, List.set_cons_zero, List.set_cons_succ])
    go_cut [55] (fun v55 wc => ∃ (kq : Nat) (x55_12 : Bool), v55 = .bool x55_12 ∧ Aside0 (crierref6_Meet.j1 kq a0 a1 t197 t198 t201 t202 x55_12 = some (r1, r2)) ∧ Aside0 (kq ≤ kj2) ∧ Aside0 (Kd.R Kd.string 9 wc w.heap.size (fun k_ => some k_ ≠ (v203 : Value).ownBlock) v199 t197) ∧ Aside0 (Kd.R Kd.string 9 wc w.heap.size (fun k_ => some k_ ≠ (v199 : Value).ownBlock) v203 t201) ∧ Aside0 (Below w.heap.size w wc))
    case first =>
     have H := HC13.out
     clear HC13
     by_cases c16 : (t197.length : Int) < (t201.length : Int)
     ·rw [if_pos c16] at H
      have c16b0 : decide ((t197.length : Int) < (t201.length : Int)) = true := decide_eq_true c16
      have c16b1 : decide (t197.length < t201.length) = true := decide_eq_true (Int.ofNat_lt.mp c16)
      clear c16
      (first | rw [c16b0] | (simp only [i64_w, i32_w]; rw [c16b0]) | skip)
      by_cases c17 : t198 = true
      ·subst c17
       rw [if_pos rfl] at H
       by_cases c18 : (t201.length : Int) < (t197.length : Int)
       ·rw [if_pos c18] at H
        have c18b0 : decide ((t201.length : Int) < (t197.length : Int)) = true := decide_eq_true c18
        have c18b1 : decide (t201.length < t197.length) = true := decide_eq_true (Int.ofNat_lt.mp c18)
        clear c18
        have H' := am H
        clear H
        obtain ⟨Ao19, co19, eo19⟩ := Kd.R_slice HO200.out
        subst eo19
        obtain ⟨Ao20, co20, eo20⟩ := Kd.R_slice HO204.out
        subst eo20
        go_wp2
        go_meet
        case rel => exact ⟨_, (!t202), (by first | rfl | (simp; done) | (simp [*]; done)), H', ⟨by have := HJ2.out; first | omega | exact Nat.le_refl _⟩, ⟨by (with_reducible repeat (first | apply ra | apply rn | apply rd)); exact Kd.R_mono HO200.out (fun _ hk => hk.2)⟩, ⟨by (with_reducible repeat (first | apply ra | apply rn | apply rd)); exact Kd.R_mono HO204.out (fun _ hk => hk.2)⟩, ⟨by repeat (with_reducible first | exact HB.out | apply ba | apply bn | apply bd)⟩⟩
       ·rw [if_neg c18] at H
        have c18b0 : decide ((t201.length : Int) < (t197.length : Int)) = false := decide_eq_false c18
        have c18b1 : decide (t201.length < t197.length) = false := decide_eq_false (fun h => c18 (Int.ofNat_lt.mpr h))
        clear c18
        have H' := am H
        clear H
        obtain ⟨Ao21, co21, eo21⟩ := Kd.R_slice HO200.out
        subst eo21
        obtain ⟨Ao22, co22, eo22⟩ := Kd.R_slice HO204.out
        subst eo22
        go_wp2
        go_meet
        case rel => exact ⟨_, (false), (by first | rfl | (simp; done) | (simp [*]; done)), H', ⟨by have := HJ2.out; first | omega | exact Nat.le_refl _⟩, ⟨by (with_reducible repeat (first | apply ra | apply rn | apply rd)); exact Kd.R_mono HO200.out (fun _ hk => hk.2)⟩, ⟨by (with_reducible repeat (first | apply ra | apply rn | apply rd)); exact Kd.R_mono HO204.out (fun _ hk => hk.2)⟩, ⟨by repeat (with_reducible first | exact HB.out | apply ba | apply bn | apply bd)⟩⟩
      ·replace c17 := Bool.eq_false_iff.mpr c17
       subst c17
       rw [if_neg (show ¬ (false = true) by decide)] at H
       have H' := am H
       clear H
       obtain ⟨Ao23, co23, eo23⟩ := Kd.R_slice HO200.out
       subst eo23
       obtain ⟨Ao24, co24, eo24⟩ := Kd.R_slice HO204.out
       subst eo24
       go_wp2
       go_meet
       case rel => exact ⟨_, (true), (by first | rfl | (simp; done) | (simp [*]; done)), H', ⟨by have := HJ2.out; first | omega | exact Nat.le_refl _⟩, ⟨by (with_reducible repeat (first | apply ra | apply rn | apply rd)); exact Kd.R_mono HO200.out (fun _ hk => hk.2)⟩, ⟨by (with_reducible repeat (first | apply ra | apply rn | apply rd)); exact Kd.R_mono HO204.out (fun _ hk => hk.2)⟩, ⟨by repeat (with_reducible first | exact HB.out | apply ba | apply bn | apply bd)⟩⟩
     ·rw [if_neg c16] at H
      have c16b0 : decide ((t197.length : Int) < (t201.length : Int)) = false := decide_eq_false c16
      have c16b1 : decide (t197.length < t201.length) = false := decide_eq_false (fun h => c16 (Int.ofNat_lt.mpr h))
      clear c16
      (first | rw [c16b0] | (simp only [i64_w, i32_w]; rw [c16b0]) | skip)
      by_cases c25 : (t201.length : Int) < (t197.length : Int)
      ·rw [if_pos c25] at H
       have c25b0 : decide ((t201.length : Int) < (t197.length : Int)) = true := decide_eq_true c25
       have c25b1 : decide (t201.length < t197.length) = true := decide_eq_true (Int.ofNat_lt.mp c25)
       clear c25
       have H' := am H
       clear H
       obtain ⟨Ao26, co26, eo26⟩ := Kd.R_slice HO200.out
       subst eo26
       obtain ⟨Ao27, co27, eo27⟩ := Kd.R_slice HO204.out
       subst eo27
       go_wp2
       go_meet
       case rel => exact ⟨_, (!t202), (by first | rfl | (simp; done) | (simp [*]; done)), H', ⟨by have := HJ2.out; first | omega | exact Nat.le_refl _⟩, ⟨by (with_reducible repeat (first | apply ra | apply rn | apply rd)); exact Kd.R_mono HO200.out (fun _ hk => hk.2)⟩, ⟨by (with_reducible repeat (first | apply ra | apply rn | apply rd)); exact Kd.R_mono HO204.out (fun _ hk => hk.2)⟩, ⟨by repeat (with_reducible first | exact HB.out | apply ba | apply bn | apply bd)⟩⟩
      ·rw [if_neg c25] at H
       have c25b0 : decide ((t201.length : Int) < (t197.length : Int)) = false := decide_eq_false c25
       have c25b1 : decide (t201.length < t197.length) = false := decide_eq_false (fun h => c25 (Int.ofNat_lt.mpr h))
       clear c25
       have H' := am H
       clear H
       obtain ⟨Ao28, co28, eo28⟩ := Kd.R_slice HO200.out
       subst eo28
       obtain ⟨Ao29, co29, eo29⟩ := Kd.R_slice HO204.out
       subst eo29
       go_wp2
       go_meet
       case rel => exact ⟨_, (false), (by first | rfl | (simp; done) | (simp [*]; done)), H', ⟨by have := HJ2.out; first | omega | exact Nat.le_refl _⟩, ⟨by (with_reducible repeat (first | apply ra | apply rn | apply rd)); exact Kd.R_mono HO200.out (fun _ hk => hk.2)⟩, ⟨by (with_reducible repeat (first | apply ra | apply rn | apply rd)); exact Kd.R_mono HO204.out (fun _ hk => hk.2)⟩, ⟨by repeat (with_reducible first | exact HB.out | apply ba | apply bn | apply bd)⟩⟩
    case rest =>
     clear HC13
     try clear c1
     try clear c2
     try clear p2
     try clear c5
     try clear c8
     try clear c10
     try clear c16
     try clear c16b0
     try clear c16b1
     try clear c17
     try clear c18
     try clear c18b0
     try clear c18b1
     try clear c23
     try clear c24
     try clear c25
     try clear c25b0
     try clear c25b1
     try clear p2
     obtain ⟨kq, x55_12, rfl, HA, HJ12, HO_6, HO_8, HB⟩ := hcut
     cases kq with
     | zero => exact absurd HA.out (by simp [crierref6_Meet.j1])
     | succ kj12 =>
      have H := HA.out
      clear HA
      simp only [crierref6_Meet.j1] at H
      by_cases c30 : x55_12 = true
      ·subst c30
       rw [if_pos rfl] at H
       simp only [Option.some.injEq, Prod.mk.injEq] at H
       obtain ⟨rfl, rfl⟩ := H
       go_wp2
       go_ret2
       exact ⟨by first | rfl | (simp [*] <;> rfl), by repeat (with_reducible first | exact HB.out | apply ba | apply bn | apply bd)⟩
      ·replace c30 := Bool.eq_false_iff.mpr c30
       subst c30
       rw [if_neg (show ¬ (false = true) by decide)] at H
       have H' := am H
       clear H
       go_wp2
       go_loopg [10, 11] kj12 (fun kq v10 v11 w' => ∃ (x10_3 : List ByteArray) (x11_3 : Int), v11 = .int .i64 x11_3 ∧ Aside0 (crierref6_Meet.l0 kq a0 a1 t197 t198 t201 t202 x10_3 x11_3 = some (r1, r2)) ∧ Aside0 (kq ≤ kj12) ∧ Aside0 (Kd.R Kd.string 9 w' w.heap.size (fun k_ => some k_ ≠ (v203 : Value).ownBlock ∧ some k_ ≠ (v10 : Value).ownBlock) v199 t197) ∧ Aside0 (Kd.R Kd.string 9 w' w.heap.size (fun k_ => some k_ ≠ (v199 : Value).ownBlock ∧ some k_ ≠ (v10 : Value).ownBlock) v203 t201) ∧ Aside0 (Kd.R Kd.string 9 w' w.heap.size (fun k_ => some k_ ≠ (v199 : Value).ownBlock ∧ some k_ ≠ (v203 : Value).ownBlock) v10 x10_3) ∧ Aside0 (Below w.heap.size w w'))
       case atStart => exact ⟨(([] : List ByteArray)), (0), (by first | rfl | (simp; done) | (simp [*]; done)), H', ⟨Nat.le_refl _⟩, ⟨by (with_reducible repeat (first | apply ra | apply rn | apply rd)); exact Kd.R_mono HO_6.out (fun _ hk => ⟨hk, (by simp [Value.ownBlock])⟩)⟩, ⟨by (with_reducible repeat (first | apply ra | apply rn | apply rd)); exact Kd.R_mono HO_8.out (fun _ hk => ⟨hk, (by simp [Value.ownBlock])⟩)⟩, ⟨by first | exact Kd.R_nil _ _ _ _ _ | exact Kd.N_nil _ _ _ _ _ | exact Kd.V_nil _ _ _ _ _ | exact Kd.Q_nil _ _ _ _ _ | exact Kd.S_nil _ _ _ _ _⟩, ⟨by repeat (with_reducible first | exact HB.out | apply ba | apply bn | apply bd)⟩⟩
       case round =>
        clear H'
        try clear c1
        try clear c2
        try clear p2
        try clear c3
        try clear c5
        try clear c8
        try clear c10
        try clear c16
        try clear c16b0
        try clear c16b1
        try clear c17
        try clear c18
        try clear c18b0
        try clear c18b1
        try clear c23
        try clear c24
        try clear c25
        try clear c25b0
        try clear c25b1
        try clear c30
        try clear p2
        obtain ⟨x10_3, x11_3, rfl, HA, HK3, HO_6, HO_8, HO_10, HB⟩ := hrel
        cases gk with
        | zero => exact absurd HA.out (by simp [crierref6_Meet.l0])
        | succ k3 =>
         have H := HA.out
         clear HA
         simp only [crierref6_Meet.l0] at H
         obtain ⟨ji31, hji31⟩ : ∃ j_ : Int, (mx (t197.length : Int) (t201.length : Int)) = j_ := ⟨_, rfl⟩
         replace H : (if x11_3 < (ji31) then (if x11_3 < (t197.length : Int) then (if 0 ≤ x11_3 then (crierref6_Meet.j3 k3 a0 a1 t197 t198 t201 t202 x10_3 x11_3 (rdOf ByteArray.empty t197 x11_3) (⟨#[43]⟩ : ByteArray)) else (none)) else (crierref6_Meet.j3 k3 a0 a1 t197 t198 t201 t202 x10_3 x11_3 (⟨#[43]⟩ : ByteArray) (⟨#[43]⟩ : ByteArray))) else ((crierref6_fill.f k3 x10_3 1).bind fun t217 => ((crierref6_alive.f k3 t217 (⟨#[]⟩ : ByteArray)).bind fun t220 => ((crierref6_common.f k3 t220 a0 a1).bind fun bt223 => (if bt223.2 = true then (crierref6_Meet.j4 k3 a0 a1 x10_3 bt223.1 bt223.2 false) else (if t198 = true then (crierref6_Meet.j4 k3 a0 a1 x10_3 bt223.1 bt223.2 t202) else (crierref6_Meet.j4 k3 a0 a1 x10_3 bt223.1 bt223.2 false))))))) = some (r1, r2) := by first | (rw [hji31] at H; exact H) | (simp only [hji31] at H ⊢; exact H)
         have hji31_ : (if t197.length < t201.length then (t201.length : Int) else (t197.length : Int)) = ji31 := by
          rw [← hji31]; unfold mx; simp only [Int.ofNat_lt]
         by_cases c32 : x11_3 < (ji31)
         ·rw [if_pos c32] at H
          have c32b0 : decide (x11_3 < (ji31)) = true := decide_eq_true c32
          clear c32
          have HC33 := am H
          clear H
          obtain ⟨Ao34, co34, eo34⟩ := Kd.R_slice HO_6.out
          subst eo34
          obtain ⟨Ao35, co35, eo35⟩ := Kd.R_slice HO_8.out
          subst eo35
          go_upto_if 68 with (fail)
          go_cut [12] (fun v12 wc => ∃ (kq : Nat) (x12_32 : ByteArray), v12 = .string x12_32 ∧ Aside0 (crierref6_Meet.j3 kq a0 a1 t197 t198 t201 t202 x10_3 x11_3 x12_32 (⟨#[43]⟩ : ByteArray) = some (r1, r2)) ∧ Aside0 (kq ≤ k3) ∧ Aside0 (Kd.R Kd.string 9 wc w.heap.size (fun k_ => some k_ ≠ ((.slice Ao35 t201.length co35) : Value).ownBlock ∧ some k_ ≠ (u10 : Value).ownBlock) (.slice Ao34 t197.length co34) t197) ∧ Aside0 (Kd.R Kd.string 9 wc w.heap.size (fun k_ => some k_ ≠ ((.slice Ao34 t197.length co34) : Value).ownBlock ∧ some k_ ≠ (u10 : Value).ownBlock) (.slice Ao35 t201.length co35) t201) ∧ Aside0 (Kd.R Kd.string 9 wc w.heap.size (fun k_ => some k_ ≠ ((.slice Ao34 t197.length co34) : Value).ownBlock ∧ some k_ ≠ ((.slice Ao35 t201.length co35) : Value).ownBlock) u10 x10_3) ∧ Aside0 (Below w.heap.size w wc))
          case first =>
           have H := HC33.out
           clear HC33
           by_cases c36 : x11_3 < (t197.length : Int)
           ·rw [if_pos c36] at H
            have c36b0 : decide (x11_3 < (t197.length : Int)) = true := decide_eq_true c36
            clear c36
            (first | rw [c36b0] | (simp only [i64_w, i32_w]; rw [c36b0]) | skip)
            by_cases c37 : 0 ≤ x11_3
            ·rw [if_pos c37] at H
             have c37b0 : decide (0 ≤ x11_3) = true := decide_eq_true c37
             clear c37
             have H' := am H
             clear H
             have p205 : 0 ≤ (x11_3 : Int) := of_decide_eq_true (by assumption)
             have q205 : x11_3 < (t197.length : Int) := of_decide_eq_true (by assumption)
             obtain ⟨ad205, e205, hx205_0⟩ := Kd.at_string (Kd.R_reads' HO_6.out).2.2 x11_3 p205 q205
             cases e205
             replace p205 := eq_true p205
             replace q205 := eq_true q205
             go_wp2
             go_meet
             case rel => exact ⟨_, (rdOf ByteArray.empty t197 x11_3), (by first | rfl | (simp; done) | (simp [*]; done)), H', ⟨by have := HJ2.out; have := HJ12.out; have := HK3.out; first | omega | exact Nat.le_refl _⟩, ⟨by (with_reducible repeat (first | apply ra | apply rn | apply rd)); exact HO_6.out⟩, ⟨by (with_reducible repeat (first | apply ra | apply rn | apply rd)); exact HO_8.out⟩, ⟨by (with_reducible repeat (first | apply ra | apply rn | apply rd)); exact HO_10.out⟩, ⟨by repeat (with_reducible first | exact HB.out | apply ba | apply bn | apply bd)⟩⟩
            ·rw [if_neg c37] at H
             exact absurd H (by simp)
           ·rw [if_neg c36] at H
            have c36b0 : decide (x11_3 < (t197.length : Int)) = false := decide_eq_false c36
            clear c36
            (first | rw [c36b0] | (simp only [i64_w, i32_w]; rw [c36b0]) | skip)
            have H' := am H
            clear H
            go_wp2
            go_meet
            case rel => exact ⟨_, ((⟨#[43]⟩ : ByteArray)), (by first | rfl | (simp; done) | (simp [*]; done)), H', ⟨by have := HJ2.out; have := HJ12.out; have := HK3.out; first | omega | exact Nat.le_refl _⟩, ⟨by (with_reducible repeat (first | apply ra | apply rn | apply rd)); exact HO_6.out⟩, ⟨by (with_reducible repeat (first | apply ra | apply rn | apply rd)); exact HO_8.out⟩, ⟨by (with_reducible repeat (first | apply ra | apply rn | apply rd)); exact HO_10.out⟩, ⟨by repeat (with_reducible first | exact HB.out | apply ba | apply bn | apply bd)⟩⟩
          case rest =>
           clear HC33
           try clear c1
           try clear c2
           try clear p2
           try clear q2
           try clear hx2
           try clear c3
           try clear c5
           try clear c8
           try clear c10
           try clear c16
           try clear c16b0
           try clear c16b1
           try clear c17
           try clear c18
           try clear c18b0
           try clear c18b1
           try clear p20
           try clear q20
           try clear hx20
           try clear c23
           try clear c24
           try clear c25
           try clear c25b0
           try clear c25b1
           try clear c30
           try clear c32
           try clear c32b0
           try clear c36
           try clear c36b0
           try clear c37
           try clear c37b0
           try clear hx205_0
           try clear p2
           try clear p205
           try clear q205
           obtain ⟨kq, x12_32, rfl, HA, HJ32, HO_6, HO_8, HO_10, HB⟩ := hcut
           cases kq with
           | zero => exact absurd HA.out (by simp [crierref6_Meet.j3])
           | succ kj32 =>
            have H := HA.out
            clear HA
            simp only [crierref6_Meet.j3] at H
            by_cases c38 : x11_3 < (t201.length : Int)
            ·rw [if_pos c38] at H
             have c38b0 : decide (x11_3 < (t201.length : Int)) = true := decide_eq_true c38
             clear c38
             by_cases c39 : 0 ≤ x11_3
             ·rw [if_pos c39] at H
              have c39b0 : decide (0 ≤ x11_3) = true := decide_eq_true c39
              clear c39
              replace H := Option.bind_eq_some_iff.mp H
              obtain ⟨⟨t207, t208⟩, A400, H⟩ := H
              try dsimp only at H
              have A40 := am A400
              clear A400
              by_cases c41 : t208 = true
              ·subst c41
               rw [if_pos rfl] at H
               by_cases c42 : x10_3.length < 8796093022208
               ·rw [if_pos c42] at H
                have LMc42 := am c42
                clear c42
                obtain ⟨y209, hy209⟩ : ∃ y_ : List ByteArray, y_ = (x10_3 ++ [t207]) := ⟨_, rfl⟩
                replace H : (crierref6_Meet.l0 kj32 a0 a1 t197 t198 t201 t202 y209 (wrap64 (x11_3 + 1))) = some (r1, r2) := by first | (rw [hy209]; with_reducible exact H) | (have H2_ := (Option.bind_some _ _).symm.trans H; rw [hy209]; with_reducible exact H2_) | (have H2_ := (Option.bind_some _ _).symm.trans H; with_reducible exact H2_) | with_reducible exact H | (rw [hy209]; exact H) | exact H
                have Ny209 := am hy209
                clear hy209
                have H' := am H
                clear H
                have p206 : 0 ≤ (x11_3 : Int) := of_decide_eq_true (by assumption)
                have q206 : x11_3 < (t201.length : Int) := of_decide_eq_true (by assumption)
                obtain ⟨ad206, e206, hx206_0⟩ := Kd.at_string (Kd.R_reads' HO_8.out).2.2 x11_3 p206 q206
                cases e206
                replace p206 := eq_true p206
                replace q206 := eq_true q206
                go_wp2_with (first | ((with_reducible refine gate_callee (f := 25) rfl ?_); refine goesL_ (some 84) rfl rfl Try.func25 (by kernel_rfl) rfl #[.string x12_32, .string (rdOf ByteArray.empty t201 x11_3)] rfl (by (try simp only [List.map_toArray, List.map_cons, List.map_nil]); first | done | rfl) ?_; (with_reducible refine (crierref6_both.calls x12_32 (rdOf ByteArray.empty t201 x11_3) t207 true _ A40.out).mono ?_); rintro e w' ⟨rfl, ⟨nd, rfl⟩⟩; refine ⟨_, rfl, ?_⟩) | ((with_reducible refine gate_builtin (b := .append) (xs := #[.tmp 89, .tmp 91]) rfl ?_); (try (refine gate_guard (by rfl) ?_; dsimp only)); at_builtin; refine Kd.R_append Kd.string (w0 := w) w.heap.size rfl (.tmp 89) (.tmp 91) 27 9 (.string ⟨#[]⟩) 16 rfl Try.underlying27 info9 rfl (by decide) (by omega) u10 x10_3 t207 [.string t207] (fun k_ => some k_ ≠ (.slice Ao34 t197.length co34 : Value).ownBlock ∧ some k_ ≠ (.slice (some ad206) t201.length co35 : Value).ownBlock) (fun _ => False) rfl rfl ?aP (fun _ hk => hk.elim) ?aF ?aO ?aB ?aS ?aL ?_; (case aP => exact rfl); (case aB => exact (by repeat (with_reducible first | exact HB.out | apply ba | apply bn | apply bd))); (case aF => exact (fun k_ hk => ⟨Kd.fresh' (Kd.R_lt (by (with_reducible repeat (first | apply ra | apply rn | apply rd)); exact HO_6.out)) k_ hk, Kd.fresh' (Kd.R_lt (by (with_reducible repeat (first | apply ra | apply rn | apply rd)); exact HO_8.out)) k_ hk⟩)); (case aO => exact (by (with_reducible repeat (first | apply ra | apply rn | apply rd)); exact HO_10.out)); (case aS => exact (below_size (by repeat (with_reducible first | exact HB.out | apply ba | apply bn | apply bd)))); (case aL => have := LMc42.out; omega); intro v210 w43 ho hb hg hat; rw [← Ny209.out] at ho; have n0_ := am (Kd.R_after (ok := (fun k_ => some k_ ≠ (.slice (some ad206) t201.length co35 : Value).ownBlock)) (by (with_reducible repeat (first | apply ra | apply rn | apply rd)); exact HO_6.out) hg hat); have n1_ := am (Kd.R_after (ok := (fun k_ => some k_ ≠ (.slice Ao34 t197.length co34 : Value).ownBlock)) (by (with_reducible repeat (first | apply ra | apply rn | apply rd)); exact HO_8.out) hg hat); have n2_ := am (hb); have n3_ := am (ho); clear HO_6; clear HO_8; clear HB; clear HO_10; have HO_6 := n0_; have HO_8 := n1_; have HB := n2_; have HO211 := n3_; clear n0_ n1_ n2_ n3_; clear ho hb hg hat))
                go_roundg kj32
                case measure => have := HJ2.out; have := HJ12.out; have := HK3.out; have := HJ32.out; omega
                case rel => exact ⟨(y209), (wrap64 (x11_3 + 1)), (by first | rfl | (simp; done) | (simp [*]; done)), H', ⟨by have := HJ2.out; have := HJ12.out; have := HK3.out; have := HJ32.out; omega⟩, ⟨by (with_reducible repeat (first | apply ra | apply rn | apply rd)); exact HO_6.out⟩, ⟨by (with_reducible repeat (first | apply ra | apply rn | apply rd)); exact HO_8.out⟩, ⟨by (with_reducible repeat (first | apply ra | apply rn | apply rd)); exact HO211.out⟩, ⟨by repeat (with_reducible first | exact HB.out | apply ba | apply bn | apply bd)⟩⟩
               ·rw [if_neg c42] at H
                exact absurd H (by simp)
              ·replace c41 := Bool.eq_false_iff.mpr c41
               subst c41
               rw [if_neg (show ¬ (false = true) by decide)] at H
               simp only [Option.some.injEq, Prod.mk.injEq] at H
               obtain ⟨rfl, rfl⟩ := H
               have p206 : 0 ≤ (x11_3 : Int) := of_decide_eq_true (by assumption)
               have q206 : x11_3 < (t201.length : Int) := of_decide_eq_true (by assumption)
               obtain ⟨ad206, e206, hx206_0⟩ := Kd.at_string (Kd.R_reads' HO_8.out).2.2 x11_3 p206 q206
               cases e206
               replace p206 := eq_true p206
               replace q206 := eq_true q206
               go_wp2_with (first | ((with_reducible refine gate_callee (f := 25) rfl ?_); refine goesL_ (some 84) rfl rfl Try.func25 (by kernel_rfl) rfl #[.string x12_32, .string (rdOf ByteArray.empty t201 x11_3)] rfl (by (try simp only [List.map_toArray, List.map_cons, List.map_nil]); first | done | rfl) ?_; (with_reducible refine (crierref6_both.calls x12_32 (rdOf ByteArray.empty t201 x11_3) t207 false _ A40.out).mono ?_); rintro e w' ⟨rfl, ⟨nd, rfl⟩⟩; refine ⟨_, rfl, ?_⟩))
               go_ret2
               exact ⟨by first | rfl | (simp [errW_none, errW_some] <;> rfl) | (simp only [← hji31]; first | rfl | (simp [errW_none, errW_some] <;> rfl)) | (simp [*, errW_none, errW_some] <;> rfl), by repeat (with_reducible first | exact HB.out | apply ba | apply bn | apply bd)⟩
             ·rw [if_neg c39] at H
              exact absurd H (by simp)
            ·rw [if_neg c38] at H
             have c38b0 : decide (x11_3 < (t201.length : Int)) = false := decide_eq_false c38
             clear c38
             replace H := Option.bind_eq_some_iff.mp H
             obtain ⟨⟨t212, t213⟩, A440, H⟩ := H
             try dsimp only at H
             have A44 := am A440
             clear A440
             by_cases c45 : t213 = true
             ·subst c45
              rw [if_pos rfl] at H
              by_cases c46 : x10_3.length < 8796093022208
              ·rw [if_pos c46] at H
               have LMc46 := am c46
               clear c46
               obtain ⟨y214, hy214⟩ : ∃ y_ : List ByteArray, y_ = (x10_3 ++ [t212]) := ⟨_, rfl⟩
               replace H : (crierref6_Meet.l0 kj32 a0 a1 t197 t198 t201 t202 y214 (wrap64 (x11_3 + 1))) = some (r1, r2) := by first | (rw [hy214]; with_reducible exact H) | (have H2_ := (Option.bind_some _ _).symm.trans H; rw [hy214]; with_reducible exact H2_) | (have H2_ := (Option.bind_some _ _).symm.trans H; with_reducible exact H2_) | with_reducible exact H | (rw [hy214]; exact H) | exact H
               have Ny214 := am hy214
               clear hy214
               have H' := am H
               clear H
               go_wp2_with (first | ((with_reducible refine gate_callee (f := 25) rfl ?_); refine goesL_ (some 84) rfl rfl Try.func25 (by kernel_rfl) rfl #[.string x12_32, .string (⟨#[43]⟩ : ByteArray)] rfl (by (try simp only [List.map_toArray, List.map_cons, List.map_nil]); first | done | rfl) ?_; (with_reducible refine (crierref6_both.calls x12_32 (⟨#[43]⟩ : ByteArray) t212 true _ A44.out).mono ?_); rintro e w' ⟨rfl, ⟨nd, rfl⟩⟩; refine ⟨_, rfl, ?_⟩) | ((with_reducible refine gate_builtin (b := .append) (xs := #[.tmp 89, .tmp 91]) rfl ?_); (try (refine gate_guard (by rfl) ?_; dsimp only)); at_builtin; refine Kd.R_append Kd.string (w0 := w) w.heap.size rfl (.tmp 89) (.tmp 91) 27 9 (.string ⟨#[]⟩) 16 rfl Try.underlying27 info9 rfl (by decide) (by omega) u10 x10_3 t212 [.string t212] (fun k_ => some k_ ≠ (.slice Ao34 t197.length co34 : Value).ownBlock ∧ some k_ ≠ (.slice Ao35 t201.length co35 : Value).ownBlock) (fun _ => False) rfl rfl ?aP (fun _ hk => hk.elim) ?aF ?aO ?aB ?aS ?aL ?_; (case aP => exact rfl); (case aB => exact (by repeat (with_reducible first | exact HB.out | apply ba | apply bn | apply bd))); (case aF => exact (fun k_ hk => ⟨Kd.fresh' (Kd.R_lt (by (with_reducible repeat (first | apply ra | apply rn | apply rd)); exact HO_6.out)) k_ hk, Kd.fresh' (Kd.R_lt (by (with_reducible repeat (first | apply ra | apply rn | apply rd)); exact HO_8.out)) k_ hk⟩)); (case aO => exact (by (with_reducible repeat (first | apply ra | apply rn | apply rd)); exact HO_10.out)); (case aS => exact (below_size (by repeat (with_reducible first | exact HB.out | apply ba | apply bn | apply bd)))); (case aL => have := LMc46.out; omega); intro v215 w47 ho hb hg hat; rw [← Ny214.out] at ho; have n0_ := am (Kd.R_after (ok := (fun k_ => some k_ ≠ (.slice Ao35 t201.length co35 : Value).ownBlock)) (by (with_reducible repeat (first | apply ra | apply rn | apply rd)); exact HO_6.out) hg hat); have n1_ := am (Kd.R_after (ok := (fun k_ => some k_ ≠ (.slice Ao34 t197.length co34 : Value).ownBlock)) (by (with_reducible repeat (first | apply ra | apply rn | apply rd)); exact HO_8.out) hg hat); have n2_ := am (hb); have n3_ := am (ho); clear HO_6; clear HO_8; clear HB; clear HO_10; have HO_6 := n0_; have HO_8 := n1_; have HB := n2_; have HO216 := n3_; clear n0_ n1_ n2_ n3_; clear ho hb hg hat))
               go_roundg kj32
               case measure => have := HJ2.out; have := HJ12.out; have := HK3.out; have := HJ32.out; omega
               case rel => exact ⟨(y214), (wrap64 (x11_3 + 1)), (by first | rfl | (simp; done) | (simp [*]; done)), H', ⟨by have := HJ2.out; have := HJ12.out; have := HK3.out; have := HJ32.out; omega⟩, ⟨by (with_reducible repeat (first | apply ra | apply rn | apply rd)); exact HO_6.out⟩, ⟨by (with_reducible repeat (first | apply ra | apply rn | apply rd)); exact HO_8.out⟩, ⟨by (with_reducible repeat (first | apply ra | apply rn | apply rd)); exact HO216.out⟩, ⟨by repeat (with_reducible first | exact HB.out | apply ba | apply bn | apply bd)⟩⟩
              ·rw [if_neg c46] at H
               exact absurd H (by simp)
             ·replace c45 := Bool.eq_false_iff.mpr c45
              subst c45
              rw [if_neg (show ¬ (false = true) by decide)] at H
              simp only [Option.some.injEq, Prod.mk.injEq] at H
              obtain ⟨rfl, rfl⟩ := H
              go_wp2_with (first | ((with_reducible refine gate_callee (f := 25) rfl ?_); refine goesL_ (some 84) rfl rfl Try.func25 (by kernel_rfl) rfl #[.string x12_32, .string (⟨#[43]⟩ : ByteArray)] rfl (by (try simp only [List.map_toArray, List.map_cons, List.map_nil]); first | done | rfl) ?_; (with_reducible refine (crierref6_both.calls x12_32 (⟨#[43]⟩ : ByteArray) t212 false _ A44.out).mono ?_); rintro e w' ⟨rfl, ⟨nd, rfl⟩⟩; refine ⟨_, rfl, ?_⟩))
              go_ret2
              exact ⟨by first | rfl | (simp [errW_none, errW_some] <;> rfl) | (simp only [← hji31]; first | rfl | (simp [errW_none, errW_some] <;> rfl)) | (simp [*, errW_none, errW_some] <;> rfl), by repeat (with_reducible first | exact HB.out | apply ba | apply bn | apply bd)⟩
         ·rw [if_neg c32] at H
          have c32b0 : decide (x11_3 < (ji31)) = false := decide_eq_false c32
          clear c32
          replace H := Option.bind_eq_some_iff.mp H
          obtain ⟨t217, A480, H⟩ := H
          try dsimp only at H
          have A48 := am A480
          clear A480
          replace H := Option.bind_eq_some_iff.mp H
          obtain ⟨t220, A490, H⟩ := H
          try dsimp only at H
          have A49 := am A490
          clear A490
          replace H := Option.bind_eq_some_iff.mp H
          obtain ⟨⟨t223, t224⟩, A500, H⟩ := H
          try dsimp only at H
          have A50 := am A500
          clear A500
          have HC51 := am H
          clear H
          obtain ⟨Ao52, co52, eo52⟩ := Kd.R_slice HO_6.out
          subst eo52
          obtain ⟨Ao53, co53, eo53⟩ := Kd.R_slice HO_8.out
          subst eo53
          obtain ⟨Ao54, co54, eo54⟩ := Kd.R_slice HO_10.out
          subst eo54
          go_upto_region 21 with (first | ((with_reducible refine gate_callee (f := 28) rfl ?_); refine goesL_ (some 95) rfl rfl Try.func28 (by kernel_rfl) rfl #[.slice Ao54 x10_3.length co54, .int .i64 1] rfl (by (try simp only [List.map_toArray, List.map_cons, List.map_nil]); first | done | rfl) ?_; (with_reducible refine (crierref6_fill.calls k3 _ _ x10_3 1 t217 _ ?side1 ?side2 A48.out).mono ?_); (case side1 => repeat (first | exact (Kd.R_reads' HO_10.out).2.2 | (with_reducible refine Kd.C_alloc ?_ _) | (with_reducible refine Kd.C_drewN ?_ _) | (with_reducible refine Kd.C_drew ?_))); (case side2 => exact (Kd.R_reads' HO_10.out).2.1); rintro e w55 ⟨v218, rfl, ho0, hb⟩; refine ⟨_, rfl, ?_⟩; have n0_ := am (Kd.R_elder' (by (with_reducible repeat (first | apply ra | apply rn | apply rd)); exact HO_6.out) (Kd.R_base ho0) hb); have n1_ := am (Kd.R_elder' (by (with_reducible repeat (first | apply ra | apply rn | apply rd)); exact HO_8.out) (Kd.R_base ho0) hb); have n2_ := am (Kd.R_elder' (by (with_reducible repeat (first | apply ra | apply rn | apply rd)); exact HO_10.out) (Kd.R_base ho0) hb); have n3_ := am (Kd.R_lower (Kd.R_new' (Kd.R_new' (Kd.R_new' ho0 (Kd.R_lt (by (with_reducible repeat (first | apply ra | apply rn | apply rd)); exact HO_6.out))) (Kd.R_lt (by (with_reducible repeat (first | apply ra | apply rn | apply rd)); exact HO_8.out))) (Kd.R_lt (by (with_reducible repeat (first | apply ra | apply rn | apply rd)); exact HO_10.out))) (below_size (by repeat (with_reducible first | exact HB.out | apply ba | apply bn | apply bd)))); have n4_ := am (below_step (by repeat (with_reducible first | exact HB.out | apply ba | apply bn | apply bd)) hb); clear HO_6; clear HO_8; clear HO_10; clear HB; have HO_6 := n0_; have HO_8 := n1_; have HO_10 := n2_; have HO219 := n3_; have HB := n4_; clear n0_ n1_ n2_ n3_ n4_; (try clear hb); (try clear ho0); obtain ⟨Ao56, co56, eo56⟩ := Kd.R_slice HO219.out; subst eo56) | ((with_reducible refine gate_callee (f := 27) rfl ?_); refine goesL_ (some 96) rfl rfl Try.func27 (by kernel_rfl) rfl #[.slice Ao56 t217.length co56, .string (⟨#[]⟩ : ByteArray)] rfl (by (try simp only [List.map_toArray, List.map_cons, List.map_nil]); first | done | rfl) ?_; (with_reducible refine (crierref6_alive.calls k3 (fun k_ => some k_ = (.slice Ao56 t217.length co56 : Value).ownBlock) (.slice Ao56 t217.length co56) t217 (⟨#[]⟩ : ByteArray) t220 w _ ?side1 ?side2 A49.out).mono ?_); (case side1 => repeat (first | (with_reducible first | exact HB.out | apply ba | apply bn | apply bd) | exact HB.out)); (case side2 => exact Kd.R_tight rfl HO219.out); rintro e w57 ⟨v221, rfl, ho0, hb, hkp⟩; refine ⟨_, rfl, ?_⟩; have n0_ := am (Kd.R_mono (ok' := fun k_ => some k_ ≠ (.slice Ao53 t201.length co53 : Value).ownBlock ∧ some k_ ≠ (.slice Ao54 x10_3.length co54 : Value).ownBlock ∧ some k_ ≠ (v221 : Value).ownBlock) (Kd.R_keptB (HO_6.out) hkp (fun k_ hk_ hs_ => (hk_.2) hs_)) (fun k_ hk_ => ⟨hk_.1.1.1, hk_.1.1.2, fun e_ => Or.elim (ho0.1 k_ e_.symm) (fun hs_ => hk_.2.1 hs_) (fun hn_ => Nat.not_le.2 hk_.2.2 hn_)⟩)); have n1_ := am (Kd.R_mono (ok' := fun k_ => some k_ ≠ (.slice Ao52 t197.length co52 : Value).ownBlock ∧ some k_ ≠ (.slice Ao54 x10_3.length co54 : Value).ownBlock ∧ some k_ ≠ (v221 : Value).ownBlock) (Kd.R_keptB (HO_8.out) hkp (fun k_ hk_ hs_ => (hk_.2) hs_)) (fun k_ hk_ => ⟨hk_.1.1.1, hk_.1.1.2, fun e_ => Or.elim (ho0.1 k_ e_.symm) (fun hs_ => hk_.2.1 hs_) (fun hn_ => Nat.not_le.2 hk_.2.2 hn_)⟩)); have n2_ := am (Kd.R_mono (ok' := fun k_ => some k_ ≠ (.slice Ao52 t197.length co52 : Value).ownBlock ∧ some k_ ≠ (.slice Ao53 t201.length co53 : Value).ownBlock ∧ some k_ ≠ (v221 : Value).ownBlock) (Kd.R_keptB (HO_10.out) hkp (fun k_ hk_ hs_ => (hk_.2) hs_)) (fun k_ hk_ => ⟨hk_.1.1.1, hk_.1.1.2, fun e_ => Or.elim (ho0.1 k_ e_.symm) (fun hs_ => hk_.2.1 hs_) (fun hn_ => Nat.not_le.2 hk_.2.2 hn_)⟩)); have n3_ := am (Kd.R_mono (ok' := fun k_ => some k_ ≠ (.slice Ao52 t197.length co52 : Value).ownBlock ∧ some k_ ≠ (.slice Ao53 t201.length co53 : Value).ownBlock ∧ some k_ ≠ (.slice Ao54 x10_3.length co54 : Value).ownBlock) ho0 (fun k_ hk_ => ⟨Or.elim hk_ (fun hs_ => fun e_ => (((HO_6.out).1 k_ e_.symm).2) hs_) (fun hn_ => (Kd.fresh' (Kd.R_lt (by (with_reducible repeat (first | apply ra | apply rn | apply rd)); exact HO_6.out)) k_ hn_)), Or.elim hk_ (fun hs_ => fun e_ => (((HO_8.out).1 k_ e_.symm).2) hs_) (fun hn_ => (Kd.fresh' (Kd.R_lt (by (with_reducible repeat (first | apply ra | apply rn | apply rd)); exact HO_8.out)) k_ hn_)), Or.elim hk_ (fun hs_ => fun e_ => (((HO_10.out).1 k_ e_.symm).2) hs_) (fun hn_ => (Kd.fresh' (Kd.R_lt (by (with_reducible repeat (first | apply ra | apply rn | apply rd)); exact HO_10.out)) k_ hn_))⟩)); have n4_ := am (hb); clear HO_6; clear HO_8; clear HO_10; clear HB; clear HO219; have HO_6 := n0_; have HO_8 := n1_; have HO_10 := n2_; have HO222 := n3_; have HB := n4_; clear n0_ n1_ n2_ n3_ n4_; (try clear hb); (try clear hkp); (try clear ho0); obtain ⟨Ao58, co58, eo58⟩ := Kd.R_slice HO222.out; subst eo58) | ((with_reducible refine gate_callee (f := 26) rfl ?_); refine goesL_ (some 99) rfl rfl Try.func26 (by kernel_rfl) rfl #[.slice Ao58 t220.length co58, .string a0, .string a1] rfl (by (try simp only [List.map_toArray, List.map_cons, List.map_nil]); first | done | rfl) ?_; (with_reducible refine (crierref6_common.calls k3 _ _ t220 a0 a1 t223 t224 _ ?side1 ?side2 A50.out).mono ?_); (case side1 => repeat (first | exact (Kd.R_reads' HO222.out).2.2 | (with_reducible refine Kd.C_alloc ?_ _) | (with_reducible refine Kd.C_drewN ?_ _) | (with_reducible refine Kd.C_drew ?_))); (case side2 => exact (Kd.R_reads' HO222.out).2.1); rintro e w59 ⟨rfl, hb⟩; refine ⟨_, rfl, ?_⟩; have n0_ := am (Kd.R_below (by (with_reducible repeat (first | apply ra | apply rn | apply rd)); exact HO_6.out) hb); have n1_ := am (Kd.R_below (by (with_reducible repeat (first | apply ra | apply rn | apply rd)); exact HO_8.out) hb); have n2_ := am (Kd.R_below (by (with_reducible repeat (first | apply ra | apply rn | apply rd)); exact HO_10.out) hb); have n3_ := am (Kd.R_below (by (with_reducible repeat (first | apply ra | apply rn | apply rd)); exact HO222.out) hb); have n4_ := am (below_step (by repeat (with_reducible first | exact HB.out | apply ba | apply bn | apply bd)) hb); clear HO_6; clear HO_8; clear HO_10; clear HO222; clear HB; have HO_6 := n0_; have HO_8 := n1_; have HO_10 := n2_; have HO222 := n3_; have HB := n4_; clear n0_ n1_ n2_ n3_ n4_; (try clear hb)))
          (try simp only [Act.put, List.setIfInBounds_toArray, List.set_cons_zero, List.set_cons_succ])
          go_cut [109] (fun v109 wc => ∃ (kq : Nat) (x109_50 : Bool), v109 = .bool x109_50 ∧ Aside0 (crierref6_Meet.j4 kq a0 a1 x10_3 t223 t224 x109_50 = some (r1, r2)) ∧ Aside0 (kq ≤ k3) ∧ Aside0 (Kd.R Kd.string 9 wc w.heap.size (fun _ => True) (.slice Ao54 x10_3.length co54) x10_3) ∧ Aside0 (Below w.heap.size w wc))
          case first =>
           have H := HC51.out
           clear HC51
           by_cases c60 : t224 = true
           ·subst c60
            rw [if_pos rfl] at H
            have H' := am H
            clear H
            go_wp2
            go_meet
            case rel => exact ⟨_, (false), (by first | rfl | (simp; done) | (simp [*]; done)), H', ⟨by have := HJ2.out; have := HJ12.out; have := HK3.out; first | omega | exact Nat.le_refl _⟩, ⟨by (with_reducible repeat (first | apply ra | apply rn | apply rd)); exact Kd.R_mono HO_10.out (fun _ hk => trivial)⟩, ⟨by repeat (with_reducible first | exact HB.out | apply ba | apply bn | apply bd)⟩⟩
           ·replace c60 := Bool.eq_false_iff.mpr c60
            subst c60
            rw [if_neg (show ¬ (false = true) by decide)] at H
            by_cases c61 : t198 = true
            ·subst c61
             rw [if_pos rfl] at H
             have H' := am H
             clear H
             go_wp2
             go_meet
             case rel => exact ⟨_, (t202), (by first | rfl | (simp; done) | (simp [*]; done)), H', ⟨by have := HJ2.out; have := HJ12.out; have := HK3.out; first | omega | exact Nat.le_refl _⟩, ⟨by (with_reducible repeat (first | apply ra | apply rn | apply rd)); exact Kd.R_mono HO_10.out (fun _ hk => trivial)⟩, ⟨by repeat (with_reducible first | exact HB.out | apply ba | apply bn | apply bd)⟩⟩
            ·replace c61 := Bool.eq_false_iff.mpr c61
             subst c61
             rw [if_neg (show ¬ (false = true) by decide)] at H
             have H' := am H
             clear H
             go_wp2
             go_meet
             case rel => exact ⟨_, (false), (by first | rfl | (simp; done) | (simp [*]; done)), H', ⟨by have := HJ2.out; have := HJ12.out; have := HK3.out; first | omega | exact Nat.le_refl _⟩, ⟨by (with_reducible repeat (first | apply ra | apply rn | apply rd)); exact Kd.R_mono HO_10.out (fun _ hk => trivial)⟩, ⟨by repeat (with_reducible first | exact HB.out | apply ba | apply bn | apply bd)⟩⟩
          case rest =>
           clear HC51
           try clear c1
           try clear c2
           try clear p2
           try clear q2
           try clear hx2
           try clear c3
           try clear c4
           try clear c5
           try clear c6
           try clear p6
           try clear c8
           try clear c10
           try clear c16
           try clear c16b0
           try clear c16b1
           try clear c17
           try clear c18
           try clear c18b0
           try clear c18b1
           try clear p20
           try clear q20
           try clear hx20
           try clear c23
           try clear c24
           try clear c25
           try clear c25b0
           try clear c25b1
           try clear c26
           try clear c27
           try clear c28
           try clear c30
           try clear c32
           try clear c32b0
           try clear c36
           try clear c36b0
           try clear c37
           try clear c37b0
           try clear c38
           try clear c38b0
           try clear c39
           try clear c39b0
           try clear c41
           try clear c42
           try clear c45
           try clear c46
           try clear c60
           try clear c61
           try clear hx205_0
           try clear hx206_0
           try clear p2
           try clear p20
           try clear p205
           try clear p206
           try clear q2
           try clear q20
           try clear q205
           try clear q206
           obtain ⟨kq, x109_50, rfl, HA, HJ50, HO_10, HB⟩ := hcut
           cases kq with
           | zero => exact absurd HA.out (by simp [crierref6_Meet.j4])
           | succ kj50 =>
            have H := HA.out
            clear HA
            simp only [crierref6_Meet.j4] at H
            by_cases c62 : x109_50 = true
            ·subst c62
             rw [if_pos rfl] at H
             replace H := Option.bind_eq_some_iff.mp H
             obtain ⟨t225, A630, H⟩ := H
             try dsimp only at H
             have A63 := am A630
             clear A630
             replace H := Option.bind_eq_some_iff.mp H
             obtain ⟨⟨t228, t229⟩, A640, H⟩ := H
             try dsimp only at H
             have A64 := am A640
             clear A640
             simp only [Option.some.injEq, Prod.mk.injEq] at H
             obtain ⟨rfl, rfl⟩ := H
             go_wp2_with (first | ((with_reducible refine gate_callee (f := 28) rfl ?_); refine goesL_ (some 112) rfl rfl Try.func28 (by kernel_rfl) rfl #[.slice Ao54 x10_3.length co54, .int .i64 2] rfl (by (try simp only [List.map_toArray, List.map_cons, List.map_nil]); first | done | rfl) ?_; (with_reducible refine (crierref6_fill.calls kj50 _ _ x10_3 2 t225 _ ?side1 ?side2 A63.out).mono ?_); (case side1 => repeat (first | exact (Kd.R_reads' HO_10.out).2.2 | (with_reducible refine Kd.C_alloc ?_ _) | (with_reducible refine Kd.C_drewN ?_ _) | (with_reducible refine Kd.C_drew ?_))); (case side2 => exact (Kd.R_reads' HO_10.out).2.1); rintro e w65 ⟨v226, rfl, ho0, hb⟩; refine ⟨_, rfl, ?_⟩; have n0_ := am (Kd.R_elder' (by (with_reducible repeat (first | apply ra | apply rn | apply rd)); exact HO_10.out) (Kd.R_base ho0) hb); have n1_ := am (Kd.R_lower (Kd.R_new' ho0 (Kd.R_lt (by (with_reducible repeat (first | apply ra | apply rn | apply rd)); exact HO_10.out))) (below_size (by repeat (with_reducible first | exact HB.out | apply ba | apply bn | apply bd)))); have n2_ := am (below_step (by repeat (with_reducible first | exact HB.out | apply ba | apply bn | apply bd)) hb); clear HO_10; clear HB; have HO_10 := n0_; have HO227 := n1_; have HB := n2_; clear n0_ n1_ n2_; (try clear hb); (try clear ho0); obtain ⟨Ao66, co66, eo66⟩ := Kd.R_slice HO227.out; subst eo66) | ((with_reducible refine gate_callee (f := 26) rfl ?_); refine goesL_ (some 115) rfl rfl Try.func26 (by kernel_rfl) rfl #[.slice Ao66 t225.length co66, .string a0, .string a1] rfl (by (try simp only [List.map_toArray, List.map_cons, List.map_nil]); first | done | rfl) ?_; (with_reducible refine (crierref6_common.calls kj50 _ _ t225 a0 a1 t228 t229 _ ?side1 ?side2 A64.out).mono ?_); (case side1 => repeat (first | exact (Kd.R_reads' HO227.out).2.2 | (with_reducible refine Kd.C_alloc ?_ _) | (with_reducible refine Kd.C_drewN ?_ _) | (with_reducible refine Kd.C_drew ?_))); (case side2 => exact (Kd.R_reads' HO227.out).2.1); rintro e w67 ⟨rfl, hb⟩; refine ⟨_, rfl, ?_⟩; have n0_ := am (Kd.R_below (by (with_reducible repeat (first | apply ra | apply rn | apply rd)); exact HO_10.out) hb); have n1_ := am (Kd.R_below (by (with_reducible repeat (first | apply ra | apply rn | apply rd)); exact HO227.out) hb); have n2_ := am (below_step (by repeat (with_reducible first | exact HB.out | apply ba | apply bn | apply bd)) hb); clear HO_10; clear HO227; clear HB; have HO_10 := n0_; have HO227 := n1_; have HB := n2_; clear n0_ n1_ n2_; (try clear hb)))
             go_ret2
             exact ⟨by first | rfl | (simp [errW_none, errW_some] <;> rfl) | (simp only [← hji31]; first | rfl | (simp [errW_none, errW_some] <;> rfl)) | (simp [*, errW_none, errW_some] <;> rfl), by repeat (with_reducible first | exact HB.out | apply ba | apply bn | apply bd)⟩
            ·replace c62 := Bool.eq_false_iff.mpr c62
             subst c62
             rw [if_neg (show ¬ (false = true) by decide)] at H
             simp only [Option.some.injEq, Prod.mk.injEq] at H
             obtain ⟨rfl, rfl⟩ := H
             go_wp2
             go_ret2
             exact ⟨by first | rfl | (simp [errW_none, errW_some] <;> rfl) | (simp only [← hji31]; first | rfl | (simp [errW_none, errW_some] <;> rfl)) | (simp [*, errW_none, errW_some] <;> rfl), by repeat (with_reducible first | exact HB.out | apply ba | apply bn | apply bd)⟩

-- NOT PRINTED: function 50 (cover_outside_rest)

-- NOT PRINTED: function 34 (cover_outside_leaves)

end Go.Proofs.Ytamelcgamlcliaa.LCoverTwo
