-- Printed by a program of this session's own (wip/mkprint.py): contracts of the functions that a law uses. Not trusted: Lean checks it.
import Derived.Test.YtfomjbbebgajcaaGreatDoorMCoverLeastx0
import Derived.Test.YtfomjbbebgajcaaGreatDoorMCoverLeastx16
namespace Go.Proofs.YtfomjbbebgajcaaGreatDoor.MCoverLeast
open Go.RowKit Go.Proofs.YtfomjbbebgajcaaGreatDoor.Giv Go.Proofs.YtfomjbbebgajcaaGreatDoorW.PrintWords Go.Proofs.YtfomjbbebgajcaaGreatDoorW.PrintLast Go.Proofs.YtfomjbbebgajcaaGreatDoorW.PrintMore
open Go.Proofs.YtfomjbbebgajcaaGreatDoorW.PrintWords renaming below_alloc → ba, below_drew1 → bd, pw_below_drewN → bn
open Go.Proofs.YtfomjbbebgajcaaGreatDoorW.PrintWords.Aside0 renaming mk → am
open Go.Proofs.YtfomjbbebgajcaaGreatDoorW.PrintWords.Kd renaming R_alloc → ra, R_drewN → rn, R_drew → rd
attribute [local go_sem] max2_int min2_int max_two min_two max_three min_three max_four min_four   -- for this text's walks alone
set_option linter.unusedVariables false
set_option linter.unusedSimpArgs false

/-! ### crierref6_Within: function 17 -/
def crierref6_Within.f (k : Nat) (a0 : ByteArray) (a1 : ByteArray) : Option (Bool) := (crierref6_Outside.f k a0 a1).bind fun bt380 => (some (!bt380.2))
set_option maxHeartbeats 8000000 in
set_option maxRecDepth 100000 in
theorem crierref6_Within.calls (k : Nat) (a0 : ByteArray) (a1 : ByteArray) (r : Bool) (w : World) (h : crierref6_Within.f k a0 a1 = some r) :
  Calls Tryz.prog 17 #[.string a0, .string a1] w fun e w' => e = .returned (.bool r) ∧ Below w.heap.size w w' := by
 have HB := am (Below.refl w.heap.size w)
 have H : ((crierref6_Outside.f k a0 a1).bind fun bt380 => (some (!bt380.2))) = some r := h
 clear h
 replace H := Option.bind_eq_some_iff.mp H
 obtain ⟨⟨t380, t381⟩, A30, H⟩ := H
 try dsimp only at H
 have A3 := am A30
 clear A30
 obtain rfl := Option.some.inj H
 go_enter Tryz.func17, Tryz.ntmps17
 go_wp2_with (first | ((with_reducible refine gate_callee (f := 61) rfl ?_); refine goesL_ (some 10) rfl rfl Tryz.func61 (by kernel_rfl) rfl #[.string a0, .string a1] rfl (by (try simp only [List.map_toArray, List.map_cons, List.map_nil]); first | done | rfl | (simp only [List.length_drop, List.length_take]; rfl)) ?_; (with_reducible refine (crierref6_Outside.calls k a0 a1 t380 t381 _ A3.out).mono ?_); rintro e w4 ⟨rfl, hb⟩; refine ⟨_, rfl, ?_⟩; have n0_ := am (below_step (by repeat (with_reducible first | exact HB.out | apply ba | apply bn | apply bd)) hb); clear HB; have HB := n0_; clear n0_; (try clear hb)))
 go_ret
 exact ⟨by first | rfl | (simp [*] <;> rfl), by repeat (with_reducible first | exact HB.out | apply ba | apply bn | apply bd)⟩

end Go.Proofs.YtfomjbbebgajcaaGreatDoor.MCoverLeast
-- Printed by a program of this session's own (wip/mkprint.py): contracts of the functions that a law uses. Not trusted: Lean checks it.
namespace Go.Proofs.YtfomjbbebgajcaaGreatDoor.MCoverLeast
open Go.RowKit Go.Proofs.YtfomjbbebgajcaaGreatDoor.Giv Go.Proofs.YtfomjbbebgajcaaGreatDoorW.PrintWords Go.Proofs.YtfomjbbebgajcaaGreatDoorW.PrintLast Go.Proofs.YtfomjbbebgajcaaGreatDoorW.PrintMore
open Go.Act renaming put → zp
open List renaming setIfInBounds_toArray → zi, set_cons_zero → zz, set_cons_succ → zs
open Go.Proofs.YtfomjbbebgajcaaGreatDoorW.PrintWords renaming below_alloc → ba, below_drew1 → bd, pw_below_drewN → bn
open Go.Proofs.YtfomjbbebgajcaaGreatDoorW.PrintWords.Aside0 renaming mk → am
open Go.Proofs.YtfomjbbebgajcaaGreatDoorW.PrintWords.Kd renaming R_alloc → ra, R_drewN → rn, R_drew → rd
attribute [local go_sem] max2_int min2_int max_two min_two max_three min_three max_four min_four   -- for this text's walks alone
set_option linter.unusedVariables false
set_option linter.unusedSimpArgs false

/-! ### crierref6_Least: function 10 -/
mutual
def crierref6_Least.l0 : Nat → List ByteArray → List Bool → Int → Option (List ByteArray)
 | 0, _, _, _ => none
 | k + 1, x0, x3, x4 => if x4 ≥ 0 then (crierref6_Least.l1 k x0 x3 x4 0) else (crierref6_Least.l2 k x0 x3 ([] : List ByteArray) 0)
def crierref6_Least.l1 : Nat → List ByteArray → List Bool → Int → Int → Option (List ByteArray)
 | 0, _, _, _, _ => none
 | k + 1, x0, x3, x4, x5 => if x5 < (x0.length : Int) then (if 0 ≤ x4 then (if x4 < (x3.length : Int) then (if rdOf false x3 x4 = true then (crierref6_Least.l0 k x0 x3 (wrap64 (x4 - 1))) else (if x5 = x4 then (crierref6_Least.l1 k x0 (x3.set (x4 : Int).toNat false) x4 (wrap64 (x5 + 1))) else (if 0 ≤ x5 then (if x5 < (x3.length : Int) then (if rdOf false x3 x5 = true then (crierref6_Least.l1 k x0 (x3.set (x4 : Int).toNat false) x4 (wrap64 (x5 + 1))) else (if x4 < (x0.length : Int) then ((crierref6_Within.f k (rdOf ByteArray.empty x0 x4) (rdOf ByteArray.empty x0 x5)).bind fun t391 => (crierref6_Least.l1 k x0 (x3.set (x4 : Int).toNat t391) x4 (wrap64 (x5 + 1)))) else (none))) else (none)) else (none)))) else (none)) else (none)) else (crierref6_Least.l0 k x0 x3 (wrap64 (x4 - 1)))
def crierref6_Least.l2 : Nat → List ByteArray → List Bool → List ByteArray → Int → Option (List ByteArray)
 | 0, _, _, _, _ => none
 | k + 1, x0, x3, x6, x7 => if x7 < (x0.length : Int) then (if 0 ≤ x7 then (if x7 < (x3.length : Int) then (if rdOf false x3 x7 = true then (crierref6_Least.l2 k x0 x3 x6 (wrap64 (x7 + 1))) else (if x6.length < 8796093022208 then (crierref6_Least.l2 k x0 x3 (x6 ++ [rdOf ByteArray.empty x0 x7]) (wrap64 (x7 + 1))) else (none))) else (none)) else (none)) else (some x6)
end
def crierref6_Least.f (k : Nat) (l0 : List ByteArray) : Option (List ByteArray) := if 0 ≤ (l0.length : Int) then (if ((l0.length : Int) : Int).toNat ≤ 281474976710656 then (crierref6_Least.l0 k l0 (List.replicate ((l0.length : Int) : Int).toNat false) (wrap64 ((l0.length : Int) - 1))) else (none)) else (none)
def crierref6_Least.T8 : Bool × List (List Nat × List Nat) := (true, [([], []), ([], []), ([], []), ([], []), ([2, 3], [2, 3]), ([4], [4]), ([5], [5]), ([5], [5]), ([6, 7, 5], [5, 6, 7]), ([8, 5], [5, 8]), ([9, 5], [5, 9]), ([5, 10], [5, 10]), ([11, 5], [11]), ([12], [12]), ([12], [12]), ([13, 14, 12], [12, 13, 14]), ([15, 12], [12, 15]), ([12], [12]), ([12], [12]), ([17, 18, 12], [12, 17, 18]), ([19, 12], [12, 19]), ([16, 20, 12, 12], [12, 16, 20]), ([12, 21], [12, 21]), ([0, 1, 0, 1, 2, 3, 4, 5, 6, 7, 8, 9, 10, 11, 12, 13, 14, 15, 16, 17, 18, 19, 20, 21, 22], [0, 1]), ([23, 22, 21, 0, 1, 2, 3, 4, 5, 6, 7, 8, 9, 10, 11, 12, 13, 14, 15, 16, 17, 18, 19, 20, 21, 22], [22, 23])])
def crierref6_Least.B8 : List Nat := [0, 0, 0, 0, 12, 28, 60, 60, 252, 508, 1020, 2044, 4092, 8188, 8188, 32764, 65532, 8188, 8188, 401404, 925692, 2097148, 4194300, 8388607, 16777215]
theorem crierref6_Least.tab8 : rtab .any (opsOf Tryz.f10 8) = crierref6_Least.T8 := by kernel_rfl
theorem crierref6_Least.bits8 : waitsOk crierref6_Least.T8.2 crierref6_Least.B8 = true := by kernel_rfl
set_option maxHeartbeats 8000000 in
set_option maxRecDepth 100000 in
theorem crierref6_Least.calls (k : Nat) (A0 : Option Addr) (c0 : Nat) (l0 : List ByteArray) (r : List ByteArray) (w : World) (hr0 : Kd.C Kd.string w A0 l0.length l0) (hc0 : l0.length ≤ c0) (h : crierref6_Least.f k l0 = some r) :
  Calls Tryz.prog 10 #[.slice A0 l0.length c0] w fun e w' => ∃ v0_ : Value, e = .returned (v0_) ∧ Kd.R Kd.string 9 w' w.heap.size (fun _ => True) v0_ r ∧ Below w.heap.size w w' := by
 have HR0 := am hr0
 have HC0 := am hc0
 clear hr0 hc0
 have HB := am (Below.refl w.heap.size w)
 have H : (if 0 ≤ (l0.length : Int) then (if ((l0.length : Int) : Int).toNat ≤ 281474976710656 then (crierref6_Least.l0 k l0 (List.replicate ((l0.length : Int) : Int).toNat false) (wrap64 ((l0.length : Int) - 1))) else (none)) else (none)) = some r := h
 clear h
 by_cases c2 : 0 ≤ (l0.length : Int)
 ·rw [if_pos c2] at H
  have c2b0 := eq_true c2
  have c2b1 : decide (0 ≤ (l0.length : Int)) = true := decide_eq_true c2
  clear c2
  by_cases c3 : ((l0.length : Int) : Int).toNat ≤ 281474976710656
  ·rw [if_pos c3] at H
   have c3b0 := eq_true c3
   have c3b1 : decide (((l0.length : Int) : Int).toNat ≤ 281474976710656) = true := decide_eq_true c3
   clear c3
   obtain ⟨y382, hy382⟩ : ∃ y_ : List Bool, y_ = (List.replicate ((l0.length : Int) : Int).toNat false) := ⟨_, rfl⟩
   replace H : (crierref6_Least.l0 k l0 y382 (wrap64 ((l0.length : Int) - 1))) = some r := by first | (rw [hy382]; with_reducible exact H) | (have H2_ := (Option.bind_some _ _).symm.trans H; rw [hy382]; with_reducible exact H2_) | (have H2_ := (Option.bind_some _ _).symm.trans H; with_reducible exact H2_) | with_reducible exact H | (rw [hy382]; exact H) | exact H
   have Ny382 := am hy382
   clear hy382
   have H' := am H
   clear H
   go_enter Tryz.func10, Tryz.ntmps10
   go_wp2_with (first | ((with_reducible refine gate_dst (N := 10) rfl ?_); refine Kd.R_make Kd.bool _ 4 rfl (N := 10) rfl 65 _ _ rfl (l0.length : Int) rfl rfl Tryz.underlying65 (.bool false) 1 info4 rfl (by decide) (by omega) false (ok := fun _ => True) (okp := fun _ => True) rfl (fun _ hk => hk) trivial (of_decide_eq_true (by assumption)) (Nat.le_trans (Nat.mul_le_mul_right _ (of_decide_eq_true (by assumption) : (l0.length : Int).toNat ≤ 281474976710656)) (by omega)) (Below.refl _ _) (Nat.le_refl _) ?_; intro v383 w4 ho5 hb hg_ hnew_; clear hg_ hnew_; (first | rw [← Ny382.out] at ho5 | (simp only [Int.reduceToNat] at ho5; rw [← Ny382.out] at ho5)); have n0_ := am (Kd.R_lower ho5 (below_size (by repeat (with_reducible first | exact HB.out | apply ba | apply bn | apply bd)))); have n1_ := am (below_step (by repeat (with_reducible first | exact HB.out | apply ba | apply bn | apply bd)) hb); clear HB; have HO384 := n0_; have HB := n1_; clear n0_ n1_; clear hb ho5))
   go_loopg [4] k (fun kq v4 w' => ∃ (x3_1 : List Bool) (x4_1 : Int), v4 = .int .i64 x4_1 ∧ Aside0 (crierref6_Least.l0 kq l0 x3_1 x4_1 = some r) ∧ Aside0 (kq ≤ k) ∧ Aside0 (Kd.R Kd.bool 4 w' w.heap.size (fun _ => True) v383 x3_1) ∧ Aside0 (Below w.heap.size w w'))
   case atStart => exact ⟨(y382), (wrap64 ((l0.length : Int) - 1)), (by first | rfl | (simp; done) | (simp [*]; done)), H', ⟨Nat.le_refl _⟩, ⟨by (with_reducible repeat (first | apply ra | apply rn | apply rd)); exact HO384.out⟩, ⟨by repeat (with_reducible first | exact HB.out | apply ba | apply bn | apply bd)⟩⟩
   case round =>
    clear H'
    try clear c1
    try clear c2
    try clear c2b0
    try clear c2b1
    try clear p2
    try clear c3
    try clear c3b0
    try clear c3b1
    obtain ⟨x3_1, x4_1, rfl, HA, HK1, HO_3, HB⟩ := hrel
    cases gk with
    | zero => exact absurd HA.out (by simp [crierref6_Least.l0])
    | succ k1 =>
     have H := HA.out
     clear HA
     simp only [crierref6_Least.l0] at H
     by_cases c6 : x4_1 ≥ 0
     ·rw [if_pos c6] at H
      have c6b0 : decide (0 ≤ x4_1) = true := decide_eq_true c6
      clear c6
      have H' := am H
      clear H
      go_wp2
      go_loopg [5] k1 (fun kq v5 w' => ∃ (x3_2 : List Bool) (x5_2 : Int), v5 = .int .i64 x5_2 ∧ Aside0 (crierref6_Least.l1 kq l0 x3_2 x4_1 x5_2 = some r) ∧ Aside0 (kq ≤ k1) ∧ Aside0 (Kd.R Kd.bool 4 w' w.heap.size (fun _ => True) v383 x3_2) ∧ Aside0 (Below w.heap.size w w'))
      case atStart => exact ⟨(x3_1), (0), (by first | rfl | (simp; done) | (simp [*]; done)), H', ⟨Nat.le_refl _⟩, ⟨by (with_reducible repeat (first | apply ra | apply rn | apply rd)); exact HO_3.out⟩, ⟨by repeat (with_reducible first | exact HB.out | apply ba | apply bn | apply bd)⟩⟩
      case round =>
       clear H'
       try clear c1
       try clear c2
       try clear c2b0
       try clear c2b1
       try clear p2
       try clear c3
       try clear c3b0
       try clear c3b1
       try clear c6
       try clear c6b0
       try clear p6
       try clear p2
       obtain ⟨x3_2, x5_2, rfl, HA, HK2, HO_3, HB⟩ := hrel
       cases gk with
       | zero => exact absurd HA.out (by simp [crierref6_Least.l1])
       | succ k2 =>
        have H := HA.out
        clear HA
        simp only [crierref6_Least.l1] at H
        by_cases c7 : x5_2 < (l0.length : Int)
        ·rw [if_pos c7] at H
         have c7b0 : decide (x5_2 < (l0.length : Int)) = true := decide_eq_true c7
         clear c7
         by_cases c8 : 0 ≤ x4_1
         ·rw [if_pos c8] at H
          have c8b0 : decide (0 ≤ x4_1) = true := decide_eq_true c8
          clear c8
          by_cases c9 : x4_1 < (x3_2.length : Int)
          ·rw [if_pos c9] at H
           have c9b0 : decide (x4_1 < (x3_2.length : Int)) = true := decide_eq_true c9
           clear c9
           obtain ⟨bq10, hbq10⟩ : ∃ b_ : Bool, b_ = (rdOf false x3_2 x4_1) := ⟨_, rfl⟩
           replace H : (if bq10 = true then (crierref6_Least.l0 k2 l0 x3_2 (wrap64 (x4_1 - 1))) else (if x5_2 = x4_1 then (crierref6_Least.l1 k2 l0 (x3_2.set (x4_1 : Int).toNat false) x4_1 (wrap64 (x5_2 + 1))) else (if 0 ≤ x5_2 then (if x5_2 < (x3_2.length : Int) then (if rdOf false x3_2 x5_2 = true then (crierref6_Least.l1 k2 l0 (x3_2.set (x4_1 : Int).toNat false) x4_1 (wrap64 (x5_2 + 1))) else (if x4_1 < (l0.length : Int) then ((crierref6_Within.f k2 (rdOf ByteArray.empty l0 x4_1) (rdOf ByteArray.empty l0 x5_2)).bind fun t391 => (crierref6_Least.l1 k2 l0 (x3_2.set (x4_1 : Int).toNat t391) x4_1 (wrap64 (x5_2 + 1)))) else (none))) else (none)) else (none)))) = some r := by rw [← hbq10] at H; exact H
           have Nbq10 := am hbq10
           clear hbq10
           by_cases c11 : bq10 = true
           ·subst c11
            rw [if_pos rfl] at H
            have H' := am H
            clear H
            obtain ⟨Ao12, co12, eo12⟩ := Kd.R_slice HO_3.out
            subst eo12
            have p385 : 0 ≤ (x4_1 : Int) := of_decide_eq_true (by assumption)
            have q385 : x4_1 < (x3_2.length : Int) := of_decide_eq_true (by assumption)
            obtain ⟨ad385, e385, hx385_0⟩ := Kd.at_bool (Kd.R_reads' HO_3.out).2.2 x4_1 p385 q385
            (try rw [← Nbq10.out] at hx385_0)
            cases e385
            replace p385 := eq_true p385
            replace q385 := eq_true q385
            go_wp2
            go_roundg k2
            case measure => have := HK1.out; have := HK2.out; omega
            case rel => exact ⟨(x3_2), (wrap64 (x4_1 - 1)), (by first | rfl | (simp; done) | (simp [*]; done)), H', ⟨by have := HK1.out; have := HK2.out; omega⟩, ⟨by (with_reducible repeat (first | apply ra | apply rn | apply rd)); exact HO_3.out⟩, ⟨by repeat (with_reducible first | exact HB.out | apply ba | apply bn | apply bd)⟩⟩
           ·replace c11 := Bool.eq_false_iff.mpr c11
            subst c11
            rw [if_neg (show ¬ (false = true) by decide)] at H
            by_cases c13 : x5_2 = x4_1
            ·rw [if_pos c13] at H
             have c13b0 : (x5_2 == x4_1) = true := beq_iff_eq.mpr c13
             have c13b1 : (x5_2 != x4_1) = false := bne_eq_false_iff_eq.mpr c13
             clear c13
             obtain ⟨y386, hy386⟩ : ∃ y_ : List Bool, y_ = (x3_2.set (x4_1 : Int).toNat false) := ⟨_, rfl⟩
             replace H : (crierref6_Least.l1 k2 l0 y386 x4_1 (wrap64 (x5_2 + 1))) = some r := by first | (rw [hy386]; with_reducible exact H) | (have H2_ := (Option.bind_some _ _).symm.trans H; rw [hy386]; with_reducible exact H2_) | (have H2_ := (Option.bind_some _ _).symm.trans H; with_reducible exact H2_) | with_reducible exact H | (rw [hy386]; exact H) | exact H
             have Ny386 := am hy386
             clear hy386
             have H' := am H
             clear H
             obtain ⟨Ao15, co15, eo15⟩ := Kd.R_slice HO_3.out
             subst eo15
             have p385 : 0 ≤ (x4_1 : Int) := of_decide_eq_true (by assumption)
             have q385 : x4_1 < (x3_2.length : Int) := of_decide_eq_true (by assumption)
             obtain ⟨ad385, e385, hx385_0⟩ := Kd.at_bool (Kd.R_reads' HO_3.out).2.2 x4_1 p385 q385
             (try rw [← Nbq10.out] at hx385_0)
             cases e385
             replace p385 := eq_true p385
             replace q385 := eq_true q385
             try go_wp2
             have n0_ := am (Kd.R_drew HO_3.out)
             have n1_ := am (below_drew1 HB.out)
             clear HO_3
             clear HB
             have HO_3 := n0_
             have HB := n1_
             clear n0_ n1_
             have p14 : 0 ≤ (x4_1 : Int) := of_decide_eq_true (by assumption)
             have q14 : (x4_1 : Int) < ((x3_2.length : Int) : Int) := of_decide_eq_true (by assumption)
             obtain ⟨go14, co14, eo14, gb14, gl14, cl14, HG14⟩ := Kd.R_form HO_3.out (by omega)
             (first | cases eo14 | (injection eo14 with ea_ en_ ec_; (first | subst ea_ | (injection ea_ with ea_; subst ea_)); subst ec_; clear en_))
             have GB14 := am gb14
             have GG14 := am HG14
             clear gb14 gl14 HG14
             (first | simp only [add_plain] at hx385_0 | skip)
             obtain ⟨hx14_0, hf14_0⟩ := Kd.R_celln false HO_3.out (x4_1 : Int) p14 q14
             replace p14 := eq_true p14
             replace q14 := eq_true q14
             have HP17 := Kd.R_putn HO_3.out (x4_1 : Int) false
             rw [← Ny386.out] at HP17
             have HQ17 := am HP17
             clear HP17
             refine start_ (n := 25) (S := fun w' => True) (ds := [24]) #[false, false, false, false, false, false, false, false, false, false, false, false, false, false, false, false, false, false, false, false, false, false, false, false, false] (by kernel_rfl) rfl rfl trivial (fun hHeld => ?_); refine with_tabW crierref6_Least.tab8 crierref6_Least.bits8 (fun HT_ HW_ => ?_)
             generalize wr.drew = w16 at HO_3 HB GG14 HQ17 hf14_0 hx14_0 hx385_0 hHeld ⊢
             refine pu 0 ?_ (hc := any_of HT_.out (by kernel_rfl))
             refine pu 1 ?_ (hc := any_of HT_.out (by kernel_rfl))
             refine pu 2 ?_ (hc := any_of HT_.out (by kernel_rfl))
             refine pu 3 ?_ (hc := any_of HT_.out (by kernel_rfl))
             refine pu 4 ?_ (hc := any_of HT_.out (by kernel_rfl))
             refine pu 5 ?_ (hc := any_of HT_.out (by kernel_rfl))
             refine pn 6 ?_ (hc := any_of HT_.out (by kernel_rfl))
             refine pn 7 ?_ (hc := any_of HT_.out (by kernel_rfl))
             refine pn 8 ?_ (hc := any_of HT_.out (by kernel_rfl))
             refine pn 9 ?_ (hc := any_of HT_.out (by kernel_rfl))
             refine pn 10 ?_ (hc := any_of HT_.out (by kernel_rfl))
             refine pu 11 ?_ (hc := any_of HT_.out (by kernel_rfl))
             refine pu 12 ?_ (hc := any_of HT_.out (by kernel_rfl))
             refine pn 13 ?_ (hc := any_of HT_.out (by kernel_rfl))
             refine pn 14 ?_ (hc := any_of HT_.out (by kernel_rfl))
             refine pn 15 ?_ (hc := any_of HT_.out (by kernel_rfl))
             refine pn 16 ?_ (hc := any_of HT_.out (by kernel_rfl))
             refine pn 17 ?_ (hc := any_of HT_.out (by kernel_rfl))
             refine pn 18 ?_ (hc := any_of HT_.out (by kernel_rfl))
             refine pn 19 ?_ (hc := any_of HT_.out (by kernel_rfl))
             refine pn 20 ?_ (hc := any_of HT_.out (by kernel_rfl))
             refine pn 21 ?_ (hc := any_of HT_.out (by kernel_rfl))
             refine pu 22 ?_ (hc := any_of HT_.out (by kernel_rfl))
             refine pu 23 ?_ (hc := any_of HT_.out (by kernel_rfl))
             refine last_ (i := 24) (N := none) #[true, true, true, true, true, true, true, true, true, true, true, true, true, true, true, true, true, true, true, true, true, true, true, true, true] rfl rfl (one_of HT_.out (by kernel_rfl)) (by decide) (fun K hK => ?_)
             refine skip_ (w1 := ?_) (by rfl) rfl ?_ ?_
             rotate_left
             ·go_simp
              rfl
             refine hK.out _ _ ?_
             clear hK K
             refine done_ (done_of HT_.out (by kernel_rfl)) ?_
             try go_wp2
             go_roundg k2
             case measure => have := HK1.out; have := HK2.out; omega
             case rel => exact ⟨(y386), (wrap64 (x5_2 + 1)), (by first | rfl | (simp; done) | (simp [*]; done)), H', ⟨by have := HK1.out; have := HK2.out; omega⟩, ⟨by (with_reducible repeat (first | apply ra | apply rn | apply rd)); exact HQ17.out⟩, ⟨by repeat (first | (with_reducible first | exact HB.out | apply ba | apply bn | apply bd | refine below_set ?_ GB14.out) | exact HB.out)⟩⟩
            ·rw [if_neg c13] at H
             have c13b0 : (x5_2 == x4_1) = false := beq_eq_false_iff_ne.mpr c13
             have c13b1 : (x5_2 != x4_1) = true := bne_iff_ne.mpr c13
             by_cases c18 : 0 ≤ x5_2
             ·rw [if_pos c18] at H
              have c18b0 : decide (0 ≤ x5_2) = true := decide_eq_true c18
              clear c18
              by_cases c19 : x5_2 < (x3_2.length : Int)
              ·rw [if_pos c19] at H
               have c19b0 : decide (x5_2 < (x3_2.length : Int)) = true := decide_eq_true c19
               clear c19
               obtain ⟨bq20, hbq20⟩ : ∃ b_ : Bool, b_ = (rdOf false x3_2 x5_2) := ⟨_, rfl⟩
               replace H : (if bq20 = true then (crierref6_Least.l1 k2 l0 (x3_2.set (x4_1 : Int).toNat false) x4_1 (wrap64 (x5_2 + 1))) else (if x4_1 < (l0.length : Int) then ((crierref6_Within.f k2 (rdOf ByteArray.empty l0 x4_1) (rdOf ByteArray.empty l0 x5_2)).bind fun t391 => (crierref6_Least.l1 k2 l0 (x3_2.set (x4_1 : Int).toNat t391) x4_1 (wrap64 (x5_2 + 1)))) else (none))) = some r := by rw [← hbq20] at H; exact H
               have Nbq20 := am hbq20
               clear hbq20
               by_cases c21 : bq20 = true
               ·subst c21
                rw [if_pos rfl] at H
                obtain ⟨y388, hy388⟩ : ∃ y_ : List Bool, y_ = (x3_2.set (x4_1 : Int).toNat false) := ⟨_, rfl⟩
                replace H : (crierref6_Least.l1 k2 l0 y388 x4_1 (wrap64 (x5_2 + 1))) = some r := by first | (rw [hy388]; with_reducible exact H) | (have H2_ := (Option.bind_some _ _).symm.trans H; rw [hy388]; with_reducible exact H2_) | (have H2_ := (Option.bind_some _ _).symm.trans H; with_reducible exact H2_) | with_reducible exact H | (rw [hy388]; exact H) | exact H
                have Ny388 := am hy388
                clear hy388
                have H' := am H
                clear H
                obtain ⟨Ao23, co23, eo23⟩ := Kd.R_slice HO_3.out
                subst eo23
                have p385 : 0 ≤ (x4_1 : Int) := of_decide_eq_true (by assumption)
                have q385 : x4_1 < (x3_2.length : Int) := of_decide_eq_true (by assumption)
                obtain ⟨ad385, e385, hx385_0⟩ := Kd.at_bool (Kd.R_reads' HO_3.out).2.2 x4_1 p385 q385
                (try rw [← Nbq10.out] at hx385_0)
                (try rw [← Nbq20.out] at hx385_0)
                cases e385
                replace p385 := eq_true p385
                replace q385 := eq_true q385
                try go_wp2
                have n0_ := am (Kd.R_drew HO_3.out)
                have n1_ := am (below_drew1 HB.out)
                clear HO_3
                clear HB
                have HO_3 := n0_
                have HB := n1_
                clear n0_ n1_
                have p387 : 0 ≤ (x5_2 : Int) := of_decide_eq_true (by assumption)
                have q387 : x5_2 < (x3_2.length : Int) := of_decide_eq_true (by assumption)
                obtain ⟨ad387, e387, hx387_0⟩ := Kd.at_bool (Kd.R_reads' HO_3.out).2.2 x5_2 p387 q387
                (try rw [← Nbq10.out] at hx387_0)
                (try rw [← Nbq20.out] at hx387_0)
                obtain rfl : ad385 = ad387 := (by injection e387)
                replace p387 := eq_true p387
                replace q387 := eq_true q387
                have p22 : 0 ≤ (x4_1 : Int) := of_decide_eq_true (by assumption)
                have q22 : (x4_1 : Int) < ((x3_2.length : Int) : Int) := of_decide_eq_true (by assumption)
                obtain ⟨go22, co22, eo22, gb22, gl22, cl22, HG22⟩ := Kd.R_form HO_3.out (by omega)
                (first | cases eo22 | (injection eo22 with ea_ en_ ec_; (first | subst ea_ | (injection ea_ with ea_; subst ea_)); subst ec_; clear en_))
                have GB22 := am gb22
                have GG22 := am HG22
                clear gb22 gl22 HG22
                (first | simp only [add_plain] at hx385_0 | skip)
                (first | simp only [add_plain] at hx387_0 | skip)
                obtain ⟨hx22_0, hf22_0⟩ := Kd.R_celln false HO_3.out (x4_1 : Int) p22 q22
                replace p22 := eq_true p22
                replace q22 := eq_true q22
                have HP25 := Kd.R_putn HO_3.out (x4_1 : Int) false
                rw [← Ny388.out] at HP25
                have HQ25 := am HP25
                clear HP25
                refine start_ (n := 25) (S := fun w' => w'.cell? ⟨go22, (x5_2).toNat, none⟩ = some (.bool true)) (ds := [24]) #[false, false, false, false, false, false, false, false, false, false, false, false, false, false, false, false, false, false, false, false, false, false, false, false, false] (by kernel_rfl) rfl rfl (hx387_0) (fun hHeld => ?_); refine with_tabW crierref6_Least.tab8 crierref6_Least.bits8 (fun HT_ HW_ => ?_)
                generalize wr.drew = w24 at HO_3 HB GG22 HQ25 hf22_0 hx22_0 hx385_0 hx387_0 hHeld ⊢
                refine pu 0 ?_ (hc := any_of HT_.out (by kernel_rfl))
                refine pu 1 ?_ (hc := any_of HT_.out (by kernel_rfl))
                refine pu 2 ?_ (hc := any_of HT_.out (by kernel_rfl))
                refine pu 3 ?_ (hc := any_of HT_.out (by kernel_rfl))
                refine pu 4 ?_ (hc := any_of HT_.out (by kernel_rfl))
                refine pu 5 ?_ (hc := any_of HT_.out (by kernel_rfl))
                refine pu 6 ?_ (hc := any_of HT_.out (by kernel_rfl))
                refine pu 7 ?_ (hc := any_of HT_.out (by kernel_rfl))
                refine pu 8 ?_ (hc := any_of HT_.out (by kernel_rfl))
                refine take_ (i := 9) (N := some 40) (v := ?_) (a' := ?_) #[true, true, true, true, true, true, true, true, true, true, false, false, false, false, false, false, false, false, false, false, false, false, false, false, false] rfl rfl (take_ofW HT_.out HW_.out (by kernel_rfl)) (fun _ _ _ h => h) (Or.inl ⟨by rfl, ?_⟩) hHeld ?_ ?_
                rotate_left
                ·intro w' s0
                 go_simp
                 with_reducible rfl
                rotate_left
                ·simp only [zp, zi, zz, zs, i64_w, i32_w]
                 rfl
                refine pu 10 ?_ (hc := any_of HT_.out (by kernel_rfl))
                refine pu 11 ?_ (hc := any_of HT_.out (by kernel_rfl))
                refine pu 12 ?_ (hc := any_of HT_.out (by kernel_rfl))
                refine pn 13 ?_ (hc := any_of HT_.out (by kernel_rfl))
                refine pn 14 ?_ (hc := any_of HT_.out (by kernel_rfl))
                refine pn 15 ?_ (hc := any_of HT_.out (by kernel_rfl))
                refine pn 16 ?_ (hc := any_of HT_.out (by kernel_rfl))
                refine pn 17 ?_ (hc := any_of HT_.out (by kernel_rfl))
                refine pn 18 ?_ (hc := any_of HT_.out (by kernel_rfl))
                refine pn 19 ?_ (hc := any_of HT_.out (by kernel_rfl))
                refine pn 20 ?_ (hc := any_of HT_.out (by kernel_rfl))
                refine pn 21 ?_ (hc := any_of HT_.out (by kernel_rfl))
                refine pu 22 ?_ (hc := any_of HT_.out (by kernel_rfl))
                refine pu 23 ?_ (hc := any_of HT_.out (by kernel_rfl))
                refine last_ (i := 24) (N := none) #[true, true, true, true, true, true, true, true, true, true, true, true, true, true, true, true, true, true, true, true, true, true, true, true, true] rfl rfl (one_of HT_.out (by kernel_rfl)) (by decide) (fun K hK => ?_)
                refine skip_ (w1 := ?_) (by rfl) rfl ?_ ?_
                rotate_left
                ·go_simp
                 rfl
                refine hK.out _ _ ?_
                clear hK K
                refine done_ (done_of HT_.out (by kernel_rfl)) ?_
                try go_wp2
                go_roundg k2
                case measure => have := HK1.out; have := HK2.out; omega
                case rel => exact ⟨(y388), (wrap64 (x5_2 + 1)), (by first | rfl | (simp; done) | (simp [*]; done)), H', ⟨by have := HK1.out; have := HK2.out; omega⟩, ⟨by (with_reducible repeat (first | apply ra | apply rn | apply rd)); exact HQ25.out⟩, ⟨by repeat (first | (with_reducible first | exact HB.out | apply ba | apply bn | apply bd | refine below_set ?_ GB22.out) | exact HB.out)⟩⟩
               ·replace c21 := Bool.eq_false_iff.mpr c21
                subst c21
                rw [if_neg (show ¬ (false = true) by decide)] at H
                by_cases c26 : x4_1 < (l0.length : Int)
                ·rw [if_pos c26] at H
                 have c26b0 : decide (x4_1 < (l0.length : Int)) = true := decide_eq_true c26
                 clear c26
                 replace H := Option.bind_eq_some_iff.mp H
                 obtain ⟨t391, A270, H⟩ := H
                 try dsimp only at H
                 have A27 := am A270
                 clear A270
                 obtain ⟨y392, hy392⟩ : ∃ y_ : List Bool, y_ = (x3_2.set (x4_1 : Int).toNat t391) := ⟨_, rfl⟩
                 replace H : (crierref6_Least.l1 k2 l0 y392 x4_1 (wrap64 (x5_2 + 1))) = some r := by first | (rw [hy392]; with_reducible exact H) | (have H2_ := (Option.bind_some _ _).symm.trans H; rw [hy392]; with_reducible exact H2_) | (have H2_ := (Option.bind_some _ _).symm.trans H; with_reducible exact H2_) | with_reducible exact H | (rw [hy392]; exact H) | exact H
                 have Ny392 := am hy392
                 clear hy392
                 have H' := am H
                 clear H
                 obtain ⟨Ao29, co29, eo29⟩ := Kd.R_slice HO_3.out
                 subst eo29
                 have p385 : 0 ≤ (x4_1 : Int) := of_decide_eq_true (by assumption)
                 have q385 : x4_1 < (x3_2.length : Int) := of_decide_eq_true (by assumption)
                 obtain ⟨ad385, e385, hx385_0⟩ := Kd.at_bool (Kd.R_reads' HO_3.out).2.2 x4_1 p385 q385
                 (try rw [← Nbq10.out] at hx385_0)
                 (try rw [← Nbq20.out] at hx385_0)
                 cases e385
                 replace p385 := eq_true p385
                 replace q385 := eq_true q385
                 try go_wp2
                 have n0_ := am (Kd.R_drew HO_3.out)
                 have n1_ := am (below_drew1 HB.out)
                 clear HO_3
                 clear HB
                 have HO_3 := n0_
                 have HB := n1_
                 clear n0_ n1_
                 have p387 : 0 ≤ (x5_2 : Int) := of_decide_eq_true (by assumption)
                 have q387 : x5_2 < (x3_2.length : Int) := of_decide_eq_true (by assumption)
                 obtain ⟨ad387, e387, hx387_0⟩ := Kd.at_bool (Kd.R_reads' HO_3.out).2.2 x5_2 p387 q387
                 (try rw [← Nbq10.out] at hx387_0)
                 (try rw [← Nbq20.out] at hx387_0)
                 obtain rfl : ad385 = ad387 := (by injection e387)
                 replace p387 := eq_true p387
                 replace q387 := eq_true q387
                 have p389 : 0 ≤ (x4_1 : Int) := of_decide_eq_true (by assumption)
                 have q389 : x4_1 < (l0.length : Int) := of_decide_eq_true (by assumption)
                 obtain ⟨ad389, e389, hx389_0⟩ := Kd.at_string HR0.out x4_1 p389 q389
                 have hw389_0 := hx389_0
                 cases e389
                 replace hx389_0 := (HB.out.cell (World.block_lt_of_cell? w _ hx389_0)).trans hx389_0
                 replace p389 := eq_true p389
                 replace q389 := eq_true q389
                 have p390 : 0 ≤ (x5_2 : Int) := of_decide_eq_true (by assumption)
                 have q390 : x5_2 < (l0.length : Int) := of_decide_eq_true (by assumption)
                 obtain ⟨ad390, e390, hx390_0⟩ := Kd.at_string HR0.out x5_2 p390 q390
                 have hw390_0 := hx390_0
                 obtain rfl : ad389 = ad390 := (by injection e390)
                 replace hx390_0 := (HB.out.cell (World.block_lt_of_cell? w _ hx390_0)).trans hx390_0
                 replace p390 := eq_true p390
                 replace q390 := eq_true q390
                 refine start_ (n := 25) (S := fun w' => w'.cell? (ad385.add (x5_2).toNat) = some (.bool false) ∧ w'.cell? (ad389.add (x4_1).toNat) = some (.string (rdOf ByteArray.empty l0 x4_1)) ∧ w'.cell? (ad389.add (x5_2).toNat) = some (.string (rdOf ByteArray.empty l0 x5_2))) (ds := [24]) #[false, false, false, false, false, false, false, false, false, false, false, false, false, false, false, false, false, false, false, false, false, false, false, false, false] (by kernel_rfl) rfl rfl ⟨hx387_0, ((HB.out.cell (World.block_lt_of_cell? w _ hw389_0)).trans hw389_0), ((HB.out.cell (World.block_lt_of_cell? w _ hw390_0)).trans hw390_0)⟩ (fun hHeld => ?_); refine with_tabW crierref6_Least.tab8 crierref6_Least.bits8 (fun HT_ HW_ => ?_)
                 generalize wr.drew = w30 at HO_3 HB hx387_0 hx389_0 hx390_0 hHeld ⊢
                 refine pu 0 ?_ (hc := any_of HT_.out (by kernel_rfl))
                 refine pu 1 ?_ (hc := any_of HT_.out (by kernel_rfl))
                 refine pu 2 ?_ (hc := any_of HT_.out (by kernel_rfl))
                 refine pu 3 ?_ (hc := any_of HT_.out (by kernel_rfl))
                 refine pu 4 ?_ (hc := any_of HT_.out (by kernel_rfl))
                 refine pu 5 ?_ (hc := any_of HT_.out (by kernel_rfl))
                 refine pu 6 ?_ (hc := any_of HT_.out (by kernel_rfl))
                 refine pu 7 ?_ (hc := any_of HT_.out (by kernel_rfl))
                 refine pu 8 ?_ (hc := any_of HT_.out (by kernel_rfl))
                 refine take_ (i := 9) (N := some 40) (v := ?_) (a' := ?_) #[true, true, true, true, true, true, true, true, true, true, false, false, false, false, false, false, false, false, false, false, false, false, false, false, false] rfl rfl (take_ofW HT_.out HW_.out (by kernel_rfl)) (fun _ _ _ h => h) (Or.inl ⟨by rfl, ?_⟩) hHeld ?_ ?_
                 rotate_left
                 ·rintro w' ⟨s0, s1, s2⟩
                  go_simp
                  with_reducible rfl
                 rotate_left
                 ·simp only [zp, zi, zz, zs, i64_w, i32_w]
                  rfl
                 refine pu 10 ?_ (hc := any_of HT_.out (by kernel_rfl))
                 refine pu 11 ?_ (hc := any_of HT_.out (by kernel_rfl))
                 refine pu 12 ?_ (hc := any_of HT_.out (by kernel_rfl))
                 refine pu 13 ?_ (hc := any_of HT_.out (by kernel_rfl))
                 refine pu 14 ?_ (hc := any_of HT_.out (by kernel_rfl))
                 refine pu 15 ?_ (hc := any_of HT_.out (by kernel_rfl))
                 refine pu 17 ?_ (hc := any_of HT_.out (by kernel_rfl))
                 refine pu 18 ?_ (hc := any_of HT_.out (by kernel_rfl))
                 refine pu 19 ?_ (hc := any_of HT_.out (by kernel_rfl))
                 refine take_ (i := 16) (N := some 47) (v := ?_) (a' := ?_) #[true, true, true, true, true, true, true, true, true, true, true, true, true, true, true, true, true, true, true, true, false, false, false, false, false] rfl rfl (take_ofW HT_.out HW_.out (by kernel_rfl)) (fun _ _ _ h => h) (Or.inl ⟨by rfl, ?_⟩) hHeld ?_ ?_
                 rotate_left
                 ·rintro w' ⟨s0, s1, s2⟩
                  go_simp
                  with_reducible rfl
                 rotate_left
                 ·simp only [zp, zi, zz, zs, i64_w, i32_w]
                  rfl
                 refine take_ (i := 20) (N := some 51) (v := ?_) (a' := ?_) #[true, true, true, true, true, true, true, true, true, true, true, true, true, true, true, true, true, true, true, true, true, false, false, false, false] rfl rfl (take_ofW HT_.out HW_.out (by kernel_rfl)) (fun _ _ _ h => h) (Or.inl ⟨by rfl, ?_⟩) hHeld ?_ ?_
                 rotate_left
                 ·rintro w' ⟨s0, s1, s2⟩
                  go_simp
                  with_reducible rfl
                 rotate_left
                 ·simp only [zp, zi, zz, zs, i64_w, i32_w]
                  rfl
                 refine one_ (i := 21) (N := some 52) #[true, true, true, true, true, true, true, true, true, true, true, true, true, true, true, true, true, true, true, true, true, true, false, false, false] rfl rfl (one_of HT_.out (by kernel_rfl)) (by decide) (fun K hK => ?_)
                 refine goes_ Tryz.func17 (by kernel_rfl) rfl #[.string (rdOf ByteArray.empty l0 x4_1), .string (rdOf ByteArray.empty l0 x5_2)] (by rfl) rfl rfl (by (try simp only [List.map_toArray, List.map_cons, List.map_nil]); first | done | rfl | (simp only [List.length_drop, List.length_take]; rfl)) ?_
                 with_reducible refine (crierref6_Within.calls k2 (rdOf ByteArray.empty l0 x4_1) (rdOf ByteArray.empty l0 x5_2) t391 _ A27.out).mono ?_
                 rintro e w31 ⟨rfl, hb⟩
                 have HS0_ := (hb.cell (World.block_lt_of_cell? _ _ (hHeld.1))).trans (hHeld.1)
                 refine ⟨_, rfl, ?_⟩
                 have n0_ := am (Kd.R_below (by (with_reducible repeat (first | apply ra | apply rn | apply rd)); exact HO_3.out) hb)
                 have n1_ := am (below_step (by repeat (with_reducible first | exact HB.out | apply ba | apply bn | apply bd)) hb)
                 clear HO_3
                 clear HB
                 have HO_3 := n0_
                 have HB := n1_
                 clear n0_ n1_
                 (try clear hb)
                 (try clear hb2)
                 (try clear hk)
                 (try clear hi)
                 have p28 : 0 ≤ (x4_1 : Int) := of_decide_eq_true (by assumption)
                 have q28 : (x4_1 : Int) < ((x3_2.length : Int) : Int) := of_decide_eq_true (by assumption)
                 obtain ⟨go28, co28, eo28, gb28, gl28, cl28, HG28⟩ := Kd.R_form HO_3.out (by omega)
                 (first | cases eo28 | (injection eo28 with ea_ en_ ec_; (first | subst ea_ | (injection ea_ with ea_; subst ea_)); subst ec_; clear en_))
                 have GB28 := am gb28
                 have GG28 := am HG28
                 clear gb28 gl28 HG28
                 (first | simp only [add_plain] at hx385_0 | skip)
                 (first | simp only [add_plain] at hx387_0 | skip)
                 obtain ⟨hx28_0, hf28_0⟩ := Kd.R_celln false HO_3.out (x4_1 : Int) p28 q28
                 replace p28 := eq_true p28
                 replace q28 := eq_true q28
                 have HP32 := Kd.R_putn HO_3.out (x4_1 : Int) t391
                 rw [← Ny392.out] at HP32
                 have HQ32 := am HP32
                 clear HP32
                 refine hK.out _ _ ⟨HS0_, ((HB.out.cell (World.block_lt_of_cell? w _ hw389_0)).trans hw389_0), ((HB.out.cell (World.block_lt_of_cell? w _ hw390_0)).trans hw390_0)⟩ (fun hHeld => ?_)
                 clear hK K
                 refine norm_ (a' := ?_) ?_ ?_
                 rotate_left
                 ·show Act.put _ (some 52) _ = _
                  simp only [zp, zi, zz, zs, i64_w, i32_w]
                  rfl
                 refine pu 22 ?_ (hc := any_of HT_.out (by kernel_rfl))
                 refine pu 23 ?_ (hc := any_of HT_.out (by kernel_rfl))
                 refine last_ (i := 24) (N := none) #[true, true, true, true, true, true, true, true, true, true, true, true, true, true, true, true, true, true, true, true, true, true, true, true, true] rfl rfl (one_of HT_.out (by kernel_rfl)) (by decide) (fun K hK => ?_)
                 refine skip_ (w1 := ?_) (by rfl) rfl ?_ ?_
                 rotate_left
                 ·go_simp
                  rfl
                 refine hK.out _ _ ?_
                 clear hK K
                 refine done_ (done_of HT_.out (by kernel_rfl)) ?_
                 try go_wp2
                 go_roundg k2
                 case measure => have := HK1.out; have := HK2.out; omega
                 case rel => exact ⟨(y392), (wrap64 (x5_2 + 1)), (by first | rfl | (simp; done) | (simp [*]; done)), H', ⟨by have := HK1.out; have := HK2.out; omega⟩, ⟨by (with_reducible repeat (first | apply ra | apply rn | apply rd)); exact HQ32.out⟩, ⟨by repeat (first | (with_reducible first | exact HB.out | apply ba | apply bn | apply bd | refine below_set ?_ GB28.out) | exact HB.out)⟩⟩
                ·rw [if_neg c26] at H
                 exact absurd H (by simp)
              ·rw [if_neg c19] at H
               exact absurd H (by simp)
             ·rw [if_neg c18] at H
              exact absurd H (by simp)
          ·rw [if_neg c9] at H
           exact absurd H (by simp)
         ·rw [if_neg c8] at H
          exact absurd H (by simp)
        ·rw [if_neg c7] at H
         have c7b0 : decide (x5_2 < (l0.length : Int)) = false := decide_eq_false c7
         clear c7
         have H' := am H
         clear H
         go_wp2
         go_roundg k2
         case measure => have := HK1.out; have := HK2.out; omega
         case rel => exact ⟨(x3_2), (wrap64 (x4_1 - 1)), (by first | rfl | (simp; done) | (simp [*]; done)), H', ⟨by have := HK1.out; have := HK2.out; omega⟩, ⟨by (with_reducible repeat (first | apply ra | apply rn | apply rd)); exact HO_3.out⟩, ⟨by repeat (with_reducible first | exact HB.out | apply ba | apply bn | apply bd)⟩⟩
     ·rw [if_neg c6] at H
      have c6b0 : decide (0 ≤ x4_1) = false := decide_eq_false c6
      clear c6
      have H' := am H
      clear H
      go_wp2
      go_loopg [6, 7] k1 (fun kq v6 v7 w' => ∃ (x6_2 : List ByteArray) (x7_2 : Int), v7 = .int .i64 x7_2 ∧ Aside0 (crierref6_Least.l2 kq l0 x3_1 x6_2 x7_2 = some r) ∧ Aside0 (kq ≤ k1) ∧ Aside0 (Kd.R Kd.bool 4 w' w.heap.size (fun _ => True) v383 x3_1) ∧ Aside0 (Kd.R Kd.string 9 w' w.heap.size (fun _ => True) v6 x6_2) ∧ Aside0 (Below w.heap.size w w'))
      case atStart => exact ⟨(([] : List ByteArray)), (0), (by first | rfl | (simp; done) | (simp [*]; done)), H', ⟨Nat.le_refl _⟩, ⟨by (with_reducible repeat (first | apply ra | apply rn | apply rd)); exact HO_3.out⟩, ⟨by first | exact Kd.R_nil _ _ _ _ _ | exact Kd.N_nil _ _ _ _ _ | exact Kd.V_nil _ _ _ _ _ | exact Kd.Q_nil _ _ _ _ _ | exact Kd.S_nil _ _ _ _ _⟩, ⟨by repeat (with_reducible first | exact HB.out | apply ba | apply bn | apply bd)⟩⟩
      case round =>
       clear H'
       try clear c1
       try clear q1
       try clear c2
       try clear p2
       try clear q2
       try clear hx2
       try clear hf2
       try clear p3
       try clear q3
       try clear hx3
       try clear c6
       try clear c6b0
       try clear p6
       try clear c7
       try clear c7b0
       try clear c8
       try clear c9
       try clear q10
       try clear c13
       try clear c13b0
       try clear c13b1
       try clear c17
       try clear c18
       try clear c18b0
       try clear c19
       try clear c19b0
       try clear q20
       try clear c21
       try clear p22
       try clear q22
       try clear hx22
       try clear hf22
       try clear c26
       try clear c26b0
       try clear p28
       try clear q28
       try clear hx28
       try clear hf28
       try clear hx22_0
       try clear hx28_0
       try clear hx385_0
       try clear hx387_0
       try clear hx389_0
       try clear hx390_0
       try clear p22
       try clear p28
       try clear p385
       try clear p387
       try clear p389
       try clear p390
       try clear q22
       try clear q28
       try clear q385
       try clear q387
       try clear q389
       try clear q390
       obtain ⟨x6_2, x7_2, rfl, HA, HK2, HO_3, HO_6, HB⟩ := hrel
       cases gk with
       | zero => exact absurd HA.out (by simp [crierref6_Least.l2])
       | succ k2 =>
        have H := HA.out
        clear HA
        simp only [crierref6_Least.l2] at H
        by_cases c33 : x7_2 < (l0.length : Int)
        ·rw [if_pos c33] at H
         have c33b0 : decide (x7_2 < (l0.length : Int)) = true := decide_eq_true c33
         clear c33
         by_cases c34 : 0 ≤ x7_2
         ·rw [if_pos c34] at H
          have c34b0 : decide (0 ≤ x7_2) = true := decide_eq_true c34
          clear c34
          by_cases c35 : x7_2 < (x3_1.length : Int)
          ·rw [if_pos c35] at H
           have c35b0 : decide (x7_2 < (x3_1.length : Int)) = true := decide_eq_true c35
           clear c35
           obtain ⟨bq36, hbq36⟩ : ∃ b_ : Bool, b_ = (rdOf false x3_1 x7_2) := ⟨_, rfl⟩
           replace H : (if bq36 = true then (crierref6_Least.l2 k2 l0 x3_1 x6_2 (wrap64 (x7_2 + 1))) else (if x6_2.length < 8796093022208 then (crierref6_Least.l2 k2 l0 x3_1 (x6_2 ++ [rdOf ByteArray.empty l0 x7_2]) (wrap64 (x7_2 + 1))) else (none))) = some r := by rw [← hbq36] at H; exact H
           have Nbq36 := am hbq36
           clear hbq36
           by_cases c37 : bq36 = true
           ·subst c37
            rw [if_pos rfl] at H
            have H' := am H
            clear H
            obtain ⟨Ao38, co38, eo38⟩ := Kd.R_slice HO_3.out
            subst eo38
            have p393 : 0 ≤ (x7_2 : Int) := of_decide_eq_true (by assumption)
            have q393 : x7_2 < (x3_1.length : Int) := of_decide_eq_true (by assumption)
            obtain ⟨ad393, e393, hx393_0⟩ := Kd.at_bool (Kd.R_reads' HO_3.out).2.2 x7_2 p393 q393
            (try rw [← Nbq36.out] at hx393_0)
            cases e393
            replace p393 := eq_true p393
            replace q393 := eq_true q393
            go_wp2
            go_roundg k2
            case measure => have := HK1.out; have := HK2.out; omega
            case rel => exact ⟨(x6_2), (wrap64 (x7_2 + 1)), (by first | rfl | (simp; done) | (simp [*]; done)), H', ⟨by have := HK1.out; have := HK2.out; omega⟩, ⟨by (with_reducible repeat (first | apply ra | apply rn | apply rd)); exact HO_3.out⟩, ⟨by (with_reducible repeat (first | apply ra | apply rn | apply rd)); exact HO_6.out⟩, ⟨by repeat (with_reducible first | exact HB.out | apply ba | apply bn | apply bd)⟩⟩
           ·replace c37 := Bool.eq_false_iff.mpr c37
            subst c37
            rw [if_neg (show ¬ (false = true) by decide)] at H
            by_cases c39 : x6_2.length < 8796093022208
            ·rw [if_pos c39] at H
             have LMc39 := am c39
             clear c39
             obtain ⟨y395, hy395⟩ : ∃ y_ : List ByteArray, y_ = (x6_2 ++ [rdOf ByteArray.empty l0 x7_2]) := ⟨_, rfl⟩
             replace H : (crierref6_Least.l2 k2 l0 x3_1 y395 (wrap64 (x7_2 + 1))) = some r := by first | (rw [hy395]; with_reducible exact H) | (have H2_ := (Option.bind_some _ _).symm.trans H; rw [hy395]; with_reducible exact H2_) | (have H2_ := (Option.bind_some _ _).symm.trans H; with_reducible exact H2_) | with_reducible exact H | (rw [hy395]; exact H) | exact H
             have Ny395 := am hy395
             clear hy395
             have H' := am H
             clear H
             obtain ⟨Ao40, co40, eo40⟩ := Kd.R_slice HO_3.out
             subst eo40
             have p393 : 0 ≤ (x7_2 : Int) := of_decide_eq_true (by assumption)
             have q393 : x7_2 < (x3_1.length : Int) := of_decide_eq_true (by assumption)
             obtain ⟨ad393, e393, hx393_0⟩ := Kd.at_bool (Kd.R_reads' HO_3.out).2.2 x7_2 p393 q393
             (try rw [← Nbq36.out] at hx393_0)
             cases e393
             replace p393 := eq_true p393
             replace q393 := eq_true q393
             have p394 : 0 ≤ (x7_2 : Int) := of_decide_eq_true (by assumption)
             have q394 : x7_2 < (l0.length : Int) := of_decide_eq_true (by assumption)
             obtain ⟨ad394, e394, hx394_0⟩ := Kd.at_string HR0.out x7_2 p394 q394
             cases e394
             replace hx394_0 := (HB.out.cell (World.block_lt_of_cell? w _ hx394_0)).trans hx394_0
             replace p394 := eq_true p394
             replace q394 := eq_true q394
             go_wp2_with (first | ((with_reducible refine gate_builtin (b := .append) (xs := #[.tmp 66, .tmp 71]) rfl ?_); at_builtin; refine Kd.R_append Kd.string (w0 := w) w.heap.size rfl (.tmp 66) (.tmp 71) 22 9 (.string ⟨#[]⟩) 16 rfl Tryz.underlying22 info9 rfl (by decide) (by omega) u6 x6_2 (rdOf ByteArray.empty l0 x7_2) [.string (rdOf ByteArray.empty l0 x7_2)] (fun _ => True) (fun _ => False) rfl rfl ?aP (fun _ hk => hk.elim) ?aF ?aO ?aB ?aS ?aL ?_; (case aP => exact rfl); (case aB => exact (by repeat (with_reducible first | exact HB.out | apply ba | apply bn | apply bd))); (case aF => exact (fun _ _ => trivial)); (case aO => exact (by (with_reducible repeat (first | apply ra | apply rn | apply rd)); exact HO_6.out)); (case aS => exact (below_size (by repeat (with_reducible first | exact HB.out | apply ba | apply bn | apply bd)))); (case aL => have := LMc39.out; omega); intro v396 w41 ho hb hg hat; rw [← Ny395.out] at ho; have n0_ := am (Kd.R_over' (by (with_reducible repeat (first | apply ra | apply rn | apply rd)); exact HO_3.out) (Kd.R_typed (by (with_reducible repeat (first | apply ra | apply rn | apply rd)); exact HO_6.out)) (by decide) hg); have n1_ := am (hb); have n2_ := am (ho); clear HO_3; clear HB; clear HO_6; have HO_3 := n0_; have HB := n1_; have HO397 := n2_; clear n0_ n1_ n2_; clear ho hb hg hat))
             go_roundg k2
             case measure => have := HK1.out; have := HK2.out; omega
             case rel => exact ⟨(y395), (wrap64 (x7_2 + 1)), (by first | rfl | (simp; done) | (simp [*]; done)), H', ⟨by have := HK1.out; have := HK2.out; omega⟩, ⟨by (with_reducible repeat (first | apply ra | apply rn | apply rd)); exact HO_3.out⟩, ⟨by (with_reducible repeat (first | apply ra | apply rn | apply rd)); exact HO397.out⟩, ⟨by repeat (with_reducible first | exact HB.out | apply ba | apply bn | apply bd)⟩⟩
            ·rw [if_neg c39] at H
             exact absurd H (by simp)
          ·rw [if_neg c35] at H
           exact absurd H (by simp)
         ·rw [if_neg c34] at H
          exact absurd H (by simp)
        ·rw [if_neg c33] at H
         have c33b0 : decide (x7_2 < (l0.length : Int)) = false := decide_eq_false c33
         clear c33
         obtain rfl := Option.some.inj H
         go_wp2
         go_ret
         exact ⟨_, by first | rfl | (simp [*] <;> rfl), by (with_reducible repeat (first | apply ra | apply rn | apply rd)); exact HO_6.out, by repeat (with_reducible first | exact HB.out | apply ba | apply bn | apply bd)⟩
  ·rw [if_neg c3] at H
   exact absurd H (by simp)
 ·rw [if_neg c2] at H
  exact absurd H (by simp)

end Go.Proofs.YtfomjbbebgajcaaGreatDoor.MCoverLeast
