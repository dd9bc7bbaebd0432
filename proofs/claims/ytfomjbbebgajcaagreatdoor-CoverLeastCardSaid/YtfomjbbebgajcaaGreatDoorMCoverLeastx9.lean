-- Printed by a program of this session's own (wip/mkprint.py): contracts of the functions that a law uses. Not trusted: Lean checks it.
import Derived.Test.YtfomjbbebgajcaaGreatDoorMCoverLeastx0
namespace Go.Proofs.YtfomjbbebgajcaaGreatDoor.MCoverLeast
open Go.RowKit Go.Proofs.YtfomjbbebgajcaaGreatDoor.Giv Go.Proofs.YtfomjbbebgajcaaGreatDoorW.PrintWords Go.Proofs.YtfomjbbebgajcaaGreatDoorW.PrintLast Go.Proofs.YtfomjbbebgajcaaGreatDoorW.PrintMore
open Go.Act renaming put → zp
open List renaming setIfInBounds_toArray → zi, set_cons_zero → zz, set_cons_succ → zs
open Go.Proofs.YtfomjbbebgajcaaGreatDoorW.PrintWords renaming below_alloc → ba, below_drew1 → bd, pw_below_drewN → bn
open Go.Proofs.YtfomjbbebgajcaaGreatDoorW.PrintWords.Aside0 renaming mk → am
open Go.Proofs.YtfomjbbebgajcaaGreatDoorW.PrintWords.Kd renaming R_alloc → ra, R_drewN → rn, R_drew → rd
attribute [local go_sem] max2_int min2_int max_two min_two max_three min_three max_four min_four   -- for this text's walks alone
set_option linter.unusedVariables false
set_option linter.unusedSimpArgs false

/-! ### topic_goes: function 165 -/
def topic_goes.f : Nat → List ByteArray → List ByteArray → Option (Bool)
 | 0, _, _ => none
 | k + 1, l0, l1 => if (l0.length : Int) = 0 then (some ((l1.length : Int) == 0)) else (if 0 < (l0.length : Int) then (if (rdOf ByteArray.empty l0 0).toList = ([35] : List UInt8) then (some true) else (if (l1.length : Int) = 0 then (some false) else (if (rdOf ByteArray.empty l0 0).toList = ([43] : List UInt8) then (if 1 ≤ (l0.length : Int) then (if 1 ≤ (l1.length : Int) then ((topic_goes.f k (l0.drop 1) (l1.drop 1)).bind fun t149 => (some t149)) else (none)) else (none)) else (if 0 < (l1.length : Int) then (if (rdOf ByteArray.empty l0 0).toList = (rdOf ByteArray.empty l1 0).toList then (if 1 ≤ (l0.length : Int) then (if 1 ≤ (l1.length : Int) then ((topic_goes.f k (l0.drop 1) (l1.drop 1)).bind fun t154 => (some t154)) else (none)) else (none)) else (some false)) else (none))))) else (none))
def topic_goes.T5 : Bool × List (List Nat × List Nat) := (true, [([], []), ([0], [0]), ([1], [1]), ([2], [2]), ([3], [3]), ([4, 3], [3, 4]), ([5, 3], [3, 5]), ([6, 3], [3, 6]), ([7, 3, 3], [3, 7]), ([8], [8]), ([9, 8], [8, 9]), ([10, 8], [8, 10]), ([8], [8]), ([12, 8], [8, 12]), ([13, 8], [8, 13]), ([11, 14, 8], [8, 11, 14]), ([8, 15, 3], [3, 8, 15]), ([3, 16], [3, 16]), ([17, 8], [17])])
def topic_goes.B5 : List Nat := [0, 1, 3, 7, 15, 31, 63, 127, 255, 511, 1023, 2047, 511, 4607, 12799, 32767, 65535, 131071, 262143]
theorem topic_goes.tab5 : rtab .any (opsOf Tryz.f165 5) = topic_goes.T5 := by kernel_rfl
theorem topic_goes.bits5 : waitsOk topic_goes.T5.2 topic_goes.B5 = true := by kernel_rfl
set_option maxHeartbeats 8000000 in
set_option maxRecDepth 100000 in
theorem topic_goes.calls (k : Nat) : ∀ (A0 : Option Addr) (c0 : Nat) (l0 : List ByteArray) (A1 : Option Addr) (c1 : Nat) (l1 : List ByteArray) (r : Bool) (w : World) (hr0 : Kd.C Kd.string w A0 l0.length l0) (hc0 : l0.length ≤ c0) (hr1 : Kd.C Kd.string w A1 l1.length l1) (hc1 : l1.length ≤ c1) (h : topic_goes.f k l0 l1 = some r),
  Calls Tryz.prog 165 #[.slice A0 l0.length c0, .slice A1 l1.length c1] w fun e w' => e = .returned (.bool r) ∧ Below w.heap.size w w' := by
 induction k using Nat.strongRecOn with
 | _ k ih =>
 intro A0 c0 l0 A1 c1 l1 r w hr0 hc0 hr1 hc1 h
 cases k with
 | zero => exact absurd h (by simp [topic_goes.f])
 | succ k =>
 simp only [topic_goes.f] at h
 have HR0 := am hr0
 have HC0 := am hc0
 clear hr0 hc0
 have HR1 := am hr1
 have HC1 := am hc1
 clear hr1 hc1
 have HB := am (Below.refl w.heap.size w)
 have H : (if (l0.length : Int) = 0 then (some ((l1.length : Int) == 0)) else (if 0 < (l0.length : Int) then (if (rdOf ByteArray.empty l0 0).toList = ([35] : List UInt8) then (some true) else (if (l1.length : Int) = 0 then (some false) else (if (rdOf ByteArray.empty l0 0).toList = ([43] : List UInt8) then (if 1 ≤ (l0.length : Int) then (if 1 ≤ (l1.length : Int) then ((topic_goes.f k (l0.drop 1) (l1.drop 1)).bind fun t149 => (some t149)) else (none)) else (none)) else (if 0 < (l1.length : Int) then (if (rdOf ByteArray.empty l0 0).toList = (rdOf ByteArray.empty l1 0).toList then (if 1 ≤ (l0.length : Int) then (if 1 ≤ (l1.length : Int) then ((topic_goes.f k (l0.drop 1) (l1.drop 1)).bind fun t154 => (some t154)) else (none)) else (none)) else (some false)) else (none))))) else (none))) = some r := h
 clear h
 by_cases c3 : (l0.length : Int) = 0
 ·rw [if_pos c3] at H
  have c3b0 : ((l0.length : Int) == 0) = true := beq_iff_eq.mpr c3
  have c3b1 : ((l0.length : Int) != 0) = false := bne_eq_false_iff_eq.mpr c3
  clear c3
  obtain rfl := Option.some.inj H
  go_enter Tryz.func165, Tryz.ntmps165
  go_wp2
  go_ret
  exact ⟨by first | rfl | (simp [*] <;> rfl), by repeat (with_reducible first | exact HB.out | apply ba | apply bn | apply bd)⟩
 ·rw [if_neg c3] at H
  have c3b0 : ((l0.length : Int) == 0) = false := beq_eq_false_iff_ne.mpr c3
  have c3b1 : ((l0.length : Int) != 0) = true := bne_iff_ne.mpr c3
  have c3b2 : ¬ (l0 = []) := fun h_ => c3 (by rw [h_]; rfl)
  by_cases c4 : 0 < (l0.length : Int)
  ·rw [if_pos c4] at H
   have c4b0 : decide (0 < (l0.length : Int)) = true := decide_eq_true c4
   have c4b1 : decide (0 < l0.length) = true := decide_eq_true (by omega)
   clear c4
   by_cases c5 : (rdOf ByteArray.empty l0 0).toList = ([35] : List UInt8)
   ·rw [if_pos c5] at H
    have c5b0 : ((rdOf ByteArray.empty l0 0).toList == ([35] : List UInt8)) = true := beq_iff_eq.mpr c5
    have c5b1 : ((rdOf ByteArray.empty l0 0).toList != ([35] : List UInt8)) = false := bne_eq_false_iff_eq.mpr c5
    clear c5
    obtain rfl := Option.some.inj H
    have p145 : 0 ≤ (0 : Int) := (by omega)
    have q145 : 0 < (l0.length : Int) := of_decide_eq_true (by assumption)
    obtain ⟨ad145, e145, hx145_0⟩ := Kd.at_string HR0.out 0 p145 q145
    cases e145
    have qi145 : (0 < l0.length) = True := eq_true (by omega)
    (try rw [show ((0 : Int)).toNat = 0 from rfl] at hx145_0)
    (try rw [Addr.add_zero'] at hx145_0)
    replace p145 := eq_true p145
    replace q145 := eq_true q145
    go_enter Tryz.func165, Tryz.ntmps165
    go_wp2
    go_ret
    exact ⟨by first | rfl | (simp [*] <;> rfl), by repeat (with_reducible first | exact HB.out | apply ba | apply bn | apply bd)⟩
   ·rw [if_neg c5] at H
    have c5b0 : ((rdOf ByteArray.empty l0 0).toList == ([35] : List UInt8)) = false := beq_eq_false_iff_ne.mpr c5
    have c5b1 : ((rdOf ByteArray.empty l0 0).toList != ([35] : List UInt8)) = true := bne_iff_ne.mpr c5
    by_cases c6 : (l1.length : Int) = 0
    ·rw [if_pos c6] at H
     have c6b0 : ((l1.length : Int) == 0) = true := beq_iff_eq.mpr c6
     have c6b1 : ((l1.length : Int) != 0) = false := bne_eq_false_iff_eq.mpr c6
     clear c6
     obtain rfl := Option.some.inj H
     have p145 : 0 ≤ (0 : Int) := (by omega)
     have q145 : 0 < (l0.length : Int) := of_decide_eq_true (by assumption)
     obtain ⟨ad145, e145, hx145_0⟩ := Kd.at_string HR0.out 0 p145 q145
     cases e145
     have qi145 : (0 < l0.length) = True := eq_true (by omega)
     (try rw [show ((0 : Int)).toNat = 0 from rfl] at hx145_0)
     (try rw [Addr.add_zero'] at hx145_0)
     replace p145 := eq_true p145
     replace q145 := eq_true q145
     go_enter Tryz.func165, Tryz.ntmps165
     try go_wp2
     have n0_ := am (below_drew1 HB.out)
     clear HB
     have HB := n0_
     clear n0_
     refine start_ (n := 19) (S := fun w' => True) (ds := []) #[false, false, false, false, false, false, false, false, false, false, false, false, false, false, false, false, false, false, false] (by kernel_rfl) rfl rfl trivial (fun hHeld => ?_); refine with_tabW topic_goes.tab5 topic_goes.bits5 (fun HT_ HW_ => ?_)
     generalize w.drew = w7 at HB hHeld ⊢
     refine pu 0 ?_ (hc := any_of HT_.out (by kernel_rfl))
     refine pu 1 ?_ (hc := any_of HT_.out (by kernel_rfl))
     refine pu 2 ?_ (hc := any_of HT_.out (by kernel_rfl))
     refine pu 3 ?_ (hc := any_of HT_.out (by kernel_rfl))
     refine pn 4 ?_ (hc := any_of HT_.out (by kernel_rfl))
     refine pn 5 ?_ (hc := any_of HT_.out (by kernel_rfl))
     refine pn 6 ?_ (hc := any_of HT_.out (by kernel_rfl))
     refine pn 7 ?_ (hc := any_of HT_.out (by kernel_rfl))
     refine pn 8 ?_ (hc := any_of HT_.out (by kernel_rfl))
     refine pn 9 ?_ (hc := any_of HT_.out (by kernel_rfl))
     refine pn 10 ?_ (hc := any_of HT_.out (by kernel_rfl))
     refine pn 11 ?_ (hc := any_of HT_.out (by kernel_rfl))
     refine pn 12 ?_ (hc := any_of HT_.out (by kernel_rfl))
     refine pn 13 ?_ (hc := any_of HT_.out (by kernel_rfl))
     refine pn 14 ?_ (hc := any_of HT_.out (by kernel_rfl))
     refine pn 15 ?_ (hc := any_of HT_.out (by kernel_rfl))
     refine pn 16 ?_ (hc := any_of HT_.out (by kernel_rfl))
     refine pu 17 ?_ (hc := any_of HT_.out (by kernel_rfl))
     refine pu 18 ?_ (hc := any_of HT_.out (by kernel_rfl))
     refine done_ (done_of HT_.out (by kernel_rfl)) ?_
     try go_wp2
     go_ret
     exact ⟨by first | rfl | (simp [*] <;> rfl), by repeat (with_reducible first | exact HB.out | apply ba | apply bn | apply bd)⟩
    ·rw [if_neg c6] at H
     have c6b0 : ((l1.length : Int) == 0) = false := beq_eq_false_iff_ne.mpr c6
     have c6b1 : ((l1.length : Int) != 0) = true := bne_iff_ne.mpr c6
     have c6b2 : ¬ (l1 = []) := fun h_ => c6 (by rw [h_]; rfl)
     by_cases c8 : (rdOf ByteArray.empty l0 0).toList = ([43] : List UInt8)
     ·rw [if_pos c8] at H
      have c8b0 : ((rdOf ByteArray.empty l0 0).toList == ([43] : List UInt8)) = true := beq_iff_eq.mpr c8
      have c8b1 : ((rdOf ByteArray.empty l0 0).toList != ([43] : List UInt8)) = false := bne_eq_false_iff_eq.mpr c8
      clear c8
      by_cases c9 : 1 ≤ (l0.length : Int)
      ·rw [if_pos c9] at H
       have c9b0 := eq_true c9
       have c9b1 : decide (1 ≤ (l0.length : Int)) = true := decide_eq_true c9
       clear c9
       by_cases c10 : 1 ≤ (l1.length : Int)
       ·rw [if_pos c10] at H
        have c10b0 := eq_true c10
        have c10b1 : decide (1 ≤ (l1.length : Int)) = true := decide_eq_true c10
        clear c10
        replace H := Option.bind_eq_some_iff.mp H
        obtain ⟨t149, A110, H⟩ := H
        try dsimp only at H
        have A11 := am A110
        clear A110
        obtain rfl := Option.some.inj H
        have p145 : 0 ≤ (0 : Int) := (by omega)
        have q145 : 0 < (l0.length : Int) := of_decide_eq_true (by assumption)
        obtain ⟨ad145, e145, hx145_0⟩ := Kd.at_string HR0.out 0 p145 q145
        cases e145
        have qi145 : (0 < l0.length) = True := eq_true (by omega)
        (try rw [show ((0 : Int)).toNat = 0 from rfl] at hx145_0)
        (try rw [Addr.add_zero'] at hx145_0)
        replace p145 := eq_true p145
        replace q145 := eq_true q145
        go_enter Tryz.func165, Tryz.ntmps165
        try go_wp2
        have n0_ := am (below_drew1 HB.out)
        clear HB
        have HB := n0_
        clear n0_
        have p146 : 0 ≤ (0 : Int) := (by omega)
        have q146 : 0 < (l0.length : Int) := of_decide_eq_true (by assumption)
        obtain ⟨ad146, e146, hx146_0⟩ := Kd.at_string HR0.out 0 p146 q146
        have hw146_0 := hx146_0
        (try rw [show ((0 : Int)).toNat = 0 from rfl] at hw146_0)
        (try rw [show 0 * 1 = 0 from rfl] at hw146_0)
        (try rw [Addr.add_zero'] at hw146_0)
        obtain rfl : ad145 = ad146 := (by injection e146)
        have qi146 : (0 < l0.length) = True := eq_true (by omega)
        (try rw [show ((0 : Int)).toNat = 0 from rfl] at hx146_0)
        (try rw [Addr.add_zero'] at hx146_0)
        replace hx146_0 := (HB.out.cell (World.block_lt_of_cell? w _ hx146_0)).trans hx146_0
        replace p146 := eq_true p146
        replace q146 := eq_true q146
        refine start_ (n := 19) (S := fun w' => w'.cell? ad145 = some (.string (rdOf ByteArray.empty l0 0))) (ds := []) #[false, false, false, false, false, false, false, false, false, false, false, false, false, false, false, false, false, false, false] (by kernel_rfl) rfl rfl (((HB.out.cell (World.block_lt_of_cell? w _ hw146_0)).trans hw146_0)) (fun hHeld => ?_); refine with_tabW topic_goes.tab5 topic_goes.bits5 (fun HT_ HW_ => ?_)
        generalize w.drew = w12 at HB hx146_0 hHeld ⊢
        refine pu 0 ?_ (hc := any_of HT_.out (by kernel_rfl))
        refine pu 1 ?_ (hc := any_of HT_.out (by kernel_rfl))
        refine pu 2 ?_ (hc := any_of HT_.out (by kernel_rfl))
        refine pu 3 ?_ (hc := any_of HT_.out (by kernel_rfl))
        refine pu 4 ?_ (hc := any_of HT_.out (by kernel_rfl))
        refine pu 5 ?_ (hc := any_of HT_.out (by kernel_rfl))
        refine take_ (i := 6) (N := some 24) (v := ?_) (a' := ?_) #[true, true, true, true, true, true, true, false, false, false, false, false, false, false, false, false, false, false, false] rfl rfl (take_ofW HT_.out HW_.out (by kernel_rfl)) (fun _ _ _ h => h) (Or.inl ⟨by rfl, ?_⟩) hHeld ?_ ?_
        rotate_left
        ·intro w' s0
         go_simp
         with_reducible rfl
        rotate_left
        ·simp only [zp, zi, zz, zs, i64_w, i32_w]
         rfl
        refine pu 7 ?_ (hc := any_of HT_.out (by kernel_rfl))
        refine pu 8 ?_ (hc := any_of HT_.out (by kernel_rfl))
        refine pn 9 ?_ (hc := any_of HT_.out (by kernel_rfl))
        refine pn 10 ?_ (hc := any_of HT_.out (by kernel_rfl))
        refine pn 11 ?_ (hc := any_of HT_.out (by kernel_rfl))
        refine pn 12 ?_ (hc := any_of HT_.out (by kernel_rfl))
        refine pn 13 ?_ (hc := any_of HT_.out (by kernel_rfl))
        refine pn 14 ?_ (hc := any_of HT_.out (by kernel_rfl))
        refine pn 15 ?_ (hc := any_of HT_.out (by kernel_rfl))
        refine pu 16 ?_ (hc := any_of HT_.out (by kernel_rfl))
        refine pu 17 ?_ (hc := any_of HT_.out (by kernel_rfl))
        refine pu 18 ?_ (hc := any_of HT_.out (by kernel_rfl))
        refine done_ (done_of HT_.out (by kernel_rfl)) ?_
        try go_wp2
        have n0_ := am (below_drew1 HB.out)
        clear HB
        have HB := n0_
        clear n0_
        obtain ⟨i014, hi014, _, hsz14, _⟩ := info_parts info9
        obtain ⟨A14, hcut14, hA14, hC14⟩ := print_drop_of (P := Tryz.prog) Value.string (⟨#[]⟩ : ByteArray) 22 9 .i64 Tryz.underlying22 hi014 hsz14 (some ad145) c0 l0 1 (by omega) (of_decide_eq_true (by assumption)) HC0.out
        have HR147 := am (Kd.C_of_reads (h1 := fun _ => rfl) (hA14 _ (Kd.reads_of_C HR0.out)))
        have HC147 := am hC14
        clear hA14 hC14 hi014 hsz14
        obtain ⟨i015, hi015, _, hsz15, _⟩ := info_parts info9
        obtain ⟨A15, hcut15, hA15, hC15⟩ := print_drop_of (P := Tryz.prog) Value.string (⟨#[]⟩ : ByteArray) 22 9 .i64 Tryz.underlying22 hi015 hsz15 A1 c1 l1 1 (by omega) (of_decide_eq_true (by assumption)) HC1.out
        have HR148 := am (Kd.C_of_reads (h1 := fun _ => rfl) (hA15 _ (Kd.reads_of_C HR1.out)))
        have HC148 := am hC15
        clear hA15 hC15 hi015 hsz15
        refine start_ (n := 6) (S := fun w' => True) (ds := []) #[false, false, false, false, false, false] (by kernel_rfl) rfl rfl trivial (fun hHeld => ?_)
        generalize w12.drew = w13 at HB HR147 HR148 hHeld ⊢
        refine pu 0 ?_ (hc := by kernel_rfl)
        refine pu 1 ?_ (hc := by kernel_rfl)
        refine pu 2 ?_ (hc := by kernel_rfl)
        refine pu 3 ?_ (hc := by kernel_rfl)
        refine one_ (i := 4) (N := some 40) #[true, true, true, true, true, false] rfl rfl (by kernel_rfl) (by decide) (fun K hK => ?_)
        refine goes_ Tryz.func165 (by kernel_rfl) rfl #[.slice A14 (l0.drop 1).length (c0 - 1), .slice A15 (l1.drop 1).length (c1 - 1)] (by rfl) rfl rfl (by (try simp only [List.map_toArray, List.map_cons, List.map_nil]); first | done | (rw [show (l0.drop 1).length = (l0.length - 1) from List.length_drop] <;> rfl) | (rw [show (l1.drop 1).length = (l1.length - 1) from List.length_drop] <;> rfl) | rfl | (simp only [List.length_drop, List.length_take]; rfl)) ?_
        with_reducible refine (ih k (by omega) _ _ (l0.drop 1) _ _ (l1.drop 1) t149 _ ?side1 ?side2 ?side3 ?side4 A11.out).mono ?_
        (case side1 => repeat (first | exact (Kd.C_below HR147.out HB.out) | (with_reducible refine Kd.C_alloc ?_ _) | (with_reducible refine Kd.C_drewN ?_ _) | (with_reducible refine Kd.C_drew ?_)))
        (case side2 => exact HC147.out)
        (case side3 => repeat (first | exact (Kd.C_below HR148.out HB.out) | (with_reducible refine Kd.C_alloc ?_ _) | (with_reducible refine Kd.C_drewN ?_ _) | (with_reducible refine Kd.C_drew ?_)))
        (case side4 => exact HC148.out)
        rintro e w16 ⟨rfl, hb⟩
        refine ⟨_, rfl, ?_⟩
        have n0_ := am (below_step (by repeat (with_reducible first | exact HB.out | apply ba | apply bn | apply bd)) hb)
        clear HB
        have HB := n0_
        clear n0_
        (try clear hb)
        (try clear hb2)
        (try clear hk)
        (try clear hi)
        refine hK.out _ _ trivial (fun hHeld => ?_)
        clear hK K
        refine norm_ (a' := ?_) ?_ ?_
        rotate_left
        ·show Act.put _ (some 40) _ = _
         simp only [zp, zi, zz, zs, i64_w, i32_w]
         rfl
        refine pu 5 ?_ (hc := by kernel_rfl)
        refine done_ (by kernel_rfl) ?_
        try go_wp2
        go_ret
        exact ⟨by first | rfl | (simp [*] <;> rfl), by repeat (with_reducible first | exact HB.out | apply ba | apply bn | apply bd)⟩
       ·rw [if_neg c10] at H
        exact absurd H (by simp)
      ·rw [if_neg c9] at H
       exact absurd H (by simp)
     ·rw [if_neg c8] at H
      have c8b0 : ((rdOf ByteArray.empty l0 0).toList == ([43] : List UInt8)) = false := beq_eq_false_iff_ne.mpr c8
      have c8b1 : ((rdOf ByteArray.empty l0 0).toList != ([43] : List UInt8)) = true := bne_iff_ne.mpr c8
      by_cases c17 : 0 < (l1.length : Int)
      ·rw [if_pos c17] at H
       have c17b0 : decide (0 < (l1.length : Int)) = true := decide_eq_true c17
       have c17b1 : decide (0 < l1.length) = true := decide_eq_true (by omega)
       clear c17
       by_cases c18 : (rdOf ByteArray.empty l0 0).toList = (rdOf ByteArray.empty l1 0).toList
       ·rw [if_pos c18] at H
        have c18b0 : ((rdOf ByteArray.empty l0 0).toList == (rdOf ByteArray.empty l1 0).toList) = true := beq_iff_eq.mpr c18
        have c18b1 : ((rdOf ByteArray.empty l0 0).toList != (rdOf ByteArray.empty l1 0).toList) = false := bne_eq_false_iff_eq.mpr c18
        clear c18
        by_cases c19 : 1 ≤ (l0.length : Int)
        ·rw [if_pos c19] at H
         have c19b0 := eq_true c19
         have c19b1 : decide (1 ≤ (l0.length : Int)) = true := decide_eq_true c19
         clear c19
         by_cases c20 : 1 ≤ (l1.length : Int)
         ·rw [if_pos c20] at H
          have c20b0 := eq_true c20
          have c20b1 : decide (1 ≤ (l1.length : Int)) = true := decide_eq_true c20
          clear c20
          replace H := Option.bind_eq_some_iff.mp H
          obtain ⟨t154, A210, H⟩ := H
          try dsimp only at H
          have A21 := am A210
          clear A210
          obtain rfl := Option.some.inj H
          have p145 : 0 ≤ (0 : Int) := (by omega)
          have q145 : 0 < (l0.length : Int) := of_decide_eq_true (by assumption)
          obtain ⟨ad145, e145, hx145_0⟩ := Kd.at_string HR0.out 0 p145 q145
          cases e145
          have qi145 : (0 < l0.length) = True := eq_true (by omega)
          (try rw [show ((0 : Int)).toNat = 0 from rfl] at hx145_0)
          (try rw [Addr.add_zero'] at hx145_0)
          replace p145 := eq_true p145
          replace q145 := eq_true q145
          go_enter Tryz.func165, Tryz.ntmps165
          try go_wp2
          have n0_ := am (below_drew1 HB.out)
          clear HB
          have HB := n0_
          clear n0_
          have p146 : 0 ≤ (0 : Int) := (by omega)
          have q146 : 0 < (l0.length : Int) := of_decide_eq_true (by assumption)
          obtain ⟨ad146, e146, hx146_0⟩ := Kd.at_string HR0.out 0 p146 q146
          have hw146_0 := hx146_0
          (try rw [show ((0 : Int)).toNat = 0 from rfl] at hw146_0)
          (try rw [show 0 * 1 = 0 from rfl] at hw146_0)
          (try rw [Addr.add_zero'] at hw146_0)
          obtain rfl : ad145 = ad146 := (by injection e146)
          have qi146 : (0 < l0.length) = True := eq_true (by omega)
          (try rw [show ((0 : Int)).toNat = 0 from rfl] at hx146_0)
          (try rw [Addr.add_zero'] at hx146_0)
          replace hx146_0 := (HB.out.cell (World.block_lt_of_cell? w _ hx146_0)).trans hx146_0
          replace p146 := eq_true p146
          replace q146 := eq_true q146
          have p150 : 0 ≤ (0 : Int) := (by omega)
          have q150 : 0 < (l0.length : Int) := of_decide_eq_true (by assumption)
          obtain ⟨ad150, e150, hx150_0⟩ := Kd.at_string HR0.out 0 p150 q150
          have hw150_0 := hx150_0
          (try rw [show ((0 : Int)).toNat = 0 from rfl] at hw150_0)
          (try rw [show 0 * 1 = 0 from rfl] at hw150_0)
          (try rw [Addr.add_zero'] at hw150_0)
          obtain rfl : ad145 = ad150 := (by injection e150)
          have qi150 : (0 < l0.length) = True := eq_true (by omega)
          (try rw [show ((0 : Int)).toNat = 0 from rfl] at hx150_0)
          (try rw [Addr.add_zero'] at hx150_0)
          replace hx150_0 := (HB.out.cell (World.block_lt_of_cell? w _ hx150_0)).trans hx150_0
          replace p150 := eq_true p150
          replace q150 := eq_true q150
          have p151 : 0 ≤ (0 : Int) := (by omega)
          have q151 : 0 < (l1.length : Int) := of_decide_eq_true (by assumption)
          obtain ⟨ad151, e151, hx151_0⟩ := Kd.at_string HR1.out 0 p151 q151
          have hw151_0 := hx151_0
          (try rw [show ((0 : Int)).toNat = 0 from rfl] at hw151_0)
          (try rw [show 0 * 1 = 0 from rfl] at hw151_0)
          (try rw [Addr.add_zero'] at hw151_0)
          cases e151
          have qi151 : (0 < l1.length) = True := eq_true (by omega)
          (try rw [show ((0 : Int)).toNat = 0 from rfl] at hx151_0)
          (try rw [Addr.add_zero'] at hx151_0)
          replace hx151_0 := (HB.out.cell (World.block_lt_of_cell? w _ hx151_0)).trans hx151_0
          replace p151 := eq_true p151
          replace q151 := eq_true q151
          refine start_ (n := 19) (S := fun w' => w'.cell? ad145 = some (.string (rdOf ByteArray.empty l0 0)) ∧ w'.cell? ad145 = some (.string (rdOf ByteArray.empty l0 0)) ∧ w'.cell? ad151 = some (.string (rdOf ByteArray.empty l1 0))) (ds := []) #[false, false, false, false, false, false, false, false, false, false, false, false, false, false, false, false, false, false, false] (by kernel_rfl) rfl rfl ⟨((HB.out.cell (World.block_lt_of_cell? w _ hw146_0)).trans hw146_0), ((HB.out.cell (World.block_lt_of_cell? w _ hw150_0)).trans hw150_0), ((HB.out.cell (World.block_lt_of_cell? w _ hw151_0)).trans hw151_0)⟩ (fun hHeld => ?_); refine with_tabW topic_goes.tab5 topic_goes.bits5 (fun HT_ HW_ => ?_)
          generalize w.drew = w22 at HB hx146_0 hx150_0 hx151_0 hHeld ⊢
          refine pu 0 ?_ (hc := any_of HT_.out (by kernel_rfl))
          refine pu 1 ?_ (hc := any_of HT_.out (by kernel_rfl))
          refine pu 2 ?_ (hc := any_of HT_.out (by kernel_rfl))
          refine pu 3 ?_ (hc := any_of HT_.out (by kernel_rfl))
          refine pu 4 ?_ (hc := any_of HT_.out (by kernel_rfl))
          refine pu 5 ?_ (hc := any_of HT_.out (by kernel_rfl))
          refine take_ (i := 6) (N := some 24) (v := ?_) (a' := ?_) #[true, true, true, true, true, true, true, false, false, false, false, false, false, false, false, false, false, false, false] rfl rfl (take_ofW HT_.out HW_.out (by kernel_rfl)) (fun _ _ _ h => h) (Or.inl ⟨by rfl, ?_⟩) hHeld ?_ ?_
          rotate_left
          ·rintro w' ⟨s0, s1, s2⟩
           go_simp
           with_reducible rfl
          rotate_left
          ·simp only [zp, zi, zz, zs, i64_w, i32_w]
           rfl
          refine pu 7 ?_ (hc := any_of HT_.out (by kernel_rfl))
          refine pu 8 ?_ (hc := any_of HT_.out (by kernel_rfl))
          refine pu 9 ?_ (hc := any_of HT_.out (by kernel_rfl))
          refine pu 10 ?_ (hc := any_of HT_.out (by kernel_rfl))
          refine pu 12 ?_ (hc := any_of HT_.out (by kernel_rfl))
          refine pu 13 ?_ (hc := any_of HT_.out (by kernel_rfl))
          refine take_ (i := 11) (N := some 29) (v := ?_) (a' := ?_) #[true, true, true, true, true, true, true, true, true, true, true, true, true, true, false, false, false, false, false] rfl rfl (take_ofW HT_.out HW_.out (by kernel_rfl)) (fun _ _ _ h => h) (Or.inl ⟨by rfl, ?_⟩) hHeld ?_ ?_
          rotate_left
          ·rintro w' ⟨s0, s1, s2⟩
           go_simp
           with_reducible rfl
          rotate_left
          ·simp only [zp, zi, zz, zs, i64_w, i32_w]
           rfl
          refine take_ (i := 14) (N := some 32) (v := ?_) (a' := ?_) #[true, true, true, true, true, true, true, true, true, true, true, true, true, true, true, false, false, false, false] rfl rfl (take_ofW HT_.out HW_.out (by kernel_rfl)) (fun _ _ _ h => h) (Or.inl ⟨by rfl, ?_⟩) hHeld ?_ ?_
          rotate_left
          ·rintro w' ⟨s0, s1, s2⟩
           go_simp
           with_reducible rfl
          rotate_left
          ·simp only [zp, zi, zz, zs, i64_w, i32_w]
           rfl
          refine pu 15 ?_ (hc := any_of HT_.out (by kernel_rfl))
          refine pu 16 ?_ (hc := any_of HT_.out (by kernel_rfl))
          refine pu 17 ?_ (hc := any_of HT_.out (by kernel_rfl))
          refine pu 18 ?_ (hc := any_of HT_.out (by kernel_rfl))
          refine done_ (done_of HT_.out (by kernel_rfl)) ?_
          try go_wp2
          have n0_ := am (below_drew1 HB.out)
          clear HB
          have HB := n0_
          clear n0_
          obtain ⟨i024, hi024, _, hsz24, _⟩ := info_parts info9
          obtain ⟨A24, hcut24, hA24, hC24⟩ := print_drop_of (P := Tryz.prog) Value.string (⟨#[]⟩ : ByteArray) 22 9 .i64 Tryz.underlying22 hi024 hsz24 (some ad145) c0 l0 1 (by omega) (of_decide_eq_true (by assumption)) HC0.out
          have HR152 := am (Kd.C_of_reads (h1 := fun _ => rfl) (hA24 _ (Kd.reads_of_C HR0.out)))
          have HC152 := am hC24
          clear hA24 hC24 hi024 hsz24
          obtain ⟨i025, hi025, _, hsz25, _⟩ := info_parts info9
          obtain ⟨A25, hcut25, hA25, hC25⟩ := print_drop_of (P := Tryz.prog) Value.string (⟨#[]⟩ : ByteArray) 22 9 .i64 Tryz.underlying22 hi025 hsz25 (some ad151) c1 l1 1 (by omega) (of_decide_eq_true (by assumption)) HC1.out
          have HR153 := am (Kd.C_of_reads (h1 := fun _ => rfl) (hA25 _ (Kd.reads_of_C HR1.out)))
          have HC153 := am hC25
          clear hA25 hC25 hi025 hsz25
          refine start_ (n := 6) (S := fun w' => True) (ds := []) #[false, false, false, false, false, false] (by kernel_rfl) rfl rfl trivial (fun hHeld => ?_)
          generalize w22.drew = w23 at HB HR152 HR153 hHeld ⊢
          refine pu 0 ?_ (hc := by kernel_rfl)
          refine pu 1 ?_ (hc := by kernel_rfl)
          refine pu 2 ?_ (hc := by kernel_rfl)
          refine pu 3 ?_ (hc := by kernel_rfl)
          refine one_ (i := 4) (N := some 40) #[true, true, true, true, true, false] rfl rfl (by kernel_rfl) (by decide) (fun K hK => ?_)
          refine goes_ Tryz.func165 (by kernel_rfl) rfl #[.slice A24 (l0.drop 1).length (c0 - 1), .slice A25 (l1.drop 1).length (c1 - 1)] (by rfl) rfl rfl (by (try simp only [List.map_toArray, List.map_cons, List.map_nil]); first | done | (rw [show (l0.drop 1).length = (l0.length - 1) from List.length_drop] <;> rfl) | (rw [show (l1.drop 1).length = (l1.length - 1) from List.length_drop] <;> rfl) | rfl | (simp only [List.length_drop, List.length_take]; rfl)) ?_
          with_reducible refine (ih k (by omega) _ _ (l0.drop 1) _ _ (l1.drop 1) t154 _ ?side1 ?side2 ?side3 ?side4 A21.out).mono ?_
          (case side1 => repeat (first | exact (Kd.C_below HR152.out HB.out) | (with_reducible refine Kd.C_alloc ?_ _) | (with_reducible refine Kd.C_drewN ?_ _) | (with_reducible refine Kd.C_drew ?_)))
          (case side2 => exact HC152.out)
          (case side3 => repeat (first | exact (Kd.C_below HR153.out HB.out) | (with_reducible refine Kd.C_alloc ?_ _) | (with_reducible refine Kd.C_drewN ?_ _) | (with_reducible refine Kd.C_drew ?_)))
          (case side4 => exact HC153.out)
          rintro e w26 ⟨rfl, hb⟩
          refine ⟨_, rfl, ?_⟩
          have n0_ := am (below_step (by repeat (with_reducible first | exact HB.out | apply ba | apply bn | apply bd)) hb)
          clear HB
          have HB := n0_
          clear n0_
          (try clear hb)
          (try clear hb2)
          (try clear hk)
          (try clear hi)
          refine hK.out _ _ trivial (fun hHeld => ?_)
          clear hK K
          refine norm_ (a' := ?_) ?_ ?_
          rotate_left
          ·show Act.put _ (some 40) _ = _
           simp only [zp, zi, zz, zs, i64_w, i32_w]
           rfl
          refine pu 5 ?_ (hc := by kernel_rfl)
          refine done_ (by kernel_rfl) ?_
          try go_wp2
          go_ret
          exact ⟨by first | rfl | (simp [*] <;> rfl), by repeat (with_reducible first | exact HB.out | apply ba | apply bn | apply bd)⟩
         ·rw [if_neg c20] at H
          exact absurd H (by simp)
        ·rw [if_neg c19] at H
         exact absurd H (by simp)
       ·rw [if_neg c18] at H
        have c18b0 : ((rdOf ByteArray.empty l0 0).toList == (rdOf ByteArray.empty l1 0).toList) = false := beq_eq_false_iff_ne.mpr c18
        have c18b1 : ((rdOf ByteArray.empty l0 0).toList != (rdOf ByteArray.empty l1 0).toList) = true := bne_iff_ne.mpr c18
        obtain rfl := Option.some.inj H
        have p145 : 0 ≤ (0 : Int) := (by omega)
        have q145 : 0 < (l0.length : Int) := of_decide_eq_true (by assumption)
        obtain ⟨ad145, e145, hx145_0⟩ := Kd.at_string HR0.out 0 p145 q145
        cases e145
        have qi145 : (0 < l0.length) = True := eq_true (by omega)
        (try rw [show ((0 : Int)).toNat = 0 from rfl] at hx145_0)
        (try rw [Addr.add_zero'] at hx145_0)
        replace p145 := eq_true p145
        replace q145 := eq_true q145
        go_enter Tryz.func165, Tryz.ntmps165
        try go_wp2
        have n0_ := am (below_drew1 HB.out)
        clear HB
        have HB := n0_
        clear n0_
        have p146 : 0 ≤ (0 : Int) := (by omega)
        have q146 : 0 < (l0.length : Int) := of_decide_eq_true (by assumption)
        obtain ⟨ad146, e146, hx146_0⟩ := Kd.at_string HR0.out 0 p146 q146
        have hw146_0 := hx146_0
        (try rw [show ((0 : Int)).toNat = 0 from rfl] at hw146_0)
        (try rw [show 0 * 1 = 0 from rfl] at hw146_0)
        (try rw [Addr.add_zero'] at hw146_0)
        obtain rfl : ad145 = ad146 := (by injection e146)
        have qi146 : (0 < l0.length) = True := eq_true (by omega)
        (try rw [show ((0 : Int)).toNat = 0 from rfl] at hx146_0)
        (try rw [Addr.add_zero'] at hx146_0)
        replace hx146_0 := (HB.out.cell (World.block_lt_of_cell? w _ hx146_0)).trans hx146_0
        replace p146 := eq_true p146
        replace q146 := eq_true q146
        have p150 : 0 ≤ (0 : Int) := (by omega)
        have q150 : 0 < (l0.length : Int) := of_decide_eq_true (by assumption)
        obtain ⟨ad150, e150, hx150_0⟩ := Kd.at_string HR0.out 0 p150 q150
        have hw150_0 := hx150_0
        (try rw [show ((0 : Int)).toNat = 0 from rfl] at hw150_0)
        (try rw [show 0 * 1 = 0 from rfl] at hw150_0)
        (try rw [Addr.add_zero'] at hw150_0)
        obtain rfl : ad145 = ad150 := (by injection e150)
        have qi150 : (0 < l0.length) = True := eq_true (by omega)
        (try rw [show ((0 : Int)).toNat = 0 from rfl] at hx150_0)
        (try rw [Addr.add_zero'] at hx150_0)
        replace hx150_0 := (HB.out.cell (World.block_lt_of_cell? w _ hx150_0)).trans hx150_0
        replace p150 := eq_true p150
        replace q150 := eq_true q150
        have p151 : 0 ≤ (0 : Int) := (by omega)
        have q151 : 0 < (l1.length : Int) := of_decide_eq_true (by assumption)
        obtain ⟨ad151, e151, hx151_0⟩ := Kd.at_string HR1.out 0 p151 q151
        have hw151_0 := hx151_0
        (try rw [show ((0 : Int)).toNat = 0 from rfl] at hw151_0)
        (try rw [show 0 * 1 = 0 from rfl] at hw151_0)
        (try rw [Addr.add_zero'] at hw151_0)
        cases e151
        have qi151 : (0 < l1.length) = True := eq_true (by omega)
        (try rw [show ((0 : Int)).toNat = 0 from rfl] at hx151_0)
        (try rw [Addr.add_zero'] at hx151_0)
        replace hx151_0 := (HB.out.cell (World.block_lt_of_cell? w _ hx151_0)).trans hx151_0
        replace p151 := eq_true p151
        replace q151 := eq_true q151
        refine start_ (n := 19) (S := fun w' => w'.cell? ad145 = some (.string (rdOf ByteArray.empty l0 0)) ∧ w'.cell? ad145 = some (.string (rdOf ByteArray.empty l0 0)) ∧ w'.cell? ad151 = some (.string (rdOf ByteArray.empty l1 0))) (ds := []) #[false, false, false, false, false, false, false, false, false, false, false, false, false, false, false, false, false, false, false] (by kernel_rfl) rfl rfl ⟨((HB.out.cell (World.block_lt_of_cell? w _ hw146_0)).trans hw146_0), ((HB.out.cell (World.block_lt_of_cell? w _ hw150_0)).trans hw150_0), ((HB.out.cell (World.block_lt_of_cell? w _ hw151_0)).trans hw151_0)⟩ (fun hHeld => ?_); refine with_tabW topic_goes.tab5 topic_goes.bits5 (fun HT_ HW_ => ?_)
        generalize w.drew = w27 at HB hx146_0 hx150_0 hx151_0 hHeld ⊢
        refine pu 0 ?_ (hc := any_of HT_.out (by kernel_rfl))
        refine pu 1 ?_ (hc := any_of HT_.out (by kernel_rfl))
        refine pu 2 ?_ (hc := any_of HT_.out (by kernel_rfl))
        refine pu 3 ?_ (hc := any_of HT_.out (by kernel_rfl))
        refine pu 4 ?_ (hc := any_of HT_.out (by kernel_rfl))
        refine pu 5 ?_ (hc := any_of HT_.out (by kernel_rfl))
        refine take_ (i := 6) (N := some 24) (v := ?_) (a' := ?_) #[true, true, true, true, true, true, true, false, false, false, false, false, false, false, false, false, false, false, false] rfl rfl (take_ofW HT_.out HW_.out (by kernel_rfl)) (fun _ _ _ h => h) (Or.inl ⟨by rfl, ?_⟩) hHeld ?_ ?_
        rotate_left
        ·rintro w' ⟨s0, s1, s2⟩
         go_simp
         with_reducible rfl
        rotate_left
        ·simp only [zp, zi, zz, zs, i64_w, i32_w]
         rfl
        refine pu 7 ?_ (hc := any_of HT_.out (by kernel_rfl))
        refine pu 8 ?_ (hc := any_of HT_.out (by kernel_rfl))
        refine pu 9 ?_ (hc := any_of HT_.out (by kernel_rfl))
        refine pu 10 ?_ (hc := any_of HT_.out (by kernel_rfl))
        refine pu 12 ?_ (hc := any_of HT_.out (by kernel_rfl))
        refine pu 13 ?_ (hc := any_of HT_.out (by kernel_rfl))
        refine take_ (i := 11) (N := some 29) (v := ?_) (a' := ?_) #[true, true, true, true, true, true, true, true, true, true, true, true, true, true, false, false, false, false, false] rfl rfl (take_ofW HT_.out HW_.out (by kernel_rfl)) (fun _ _ _ h => h) (Or.inl ⟨by rfl, ?_⟩) hHeld ?_ ?_
        rotate_left
        ·rintro w' ⟨s0, s1, s2⟩
         go_simp
         with_reducible rfl
        rotate_left
        ·simp only [zp, zi, zz, zs, i64_w, i32_w]
         rfl
        refine take_ (i := 14) (N := some 32) (v := ?_) (a' := ?_) #[true, true, true, true, true, true, true, true, true, true, true, true, true, true, true, false, false, false, false] rfl rfl (take_ofW HT_.out HW_.out (by kernel_rfl)) (fun _ _ _ h => h) (Or.inl ⟨by rfl, ?_⟩) hHeld ?_ ?_
        rotate_left
        ·rintro w' ⟨s0, s1, s2⟩
         go_simp
         with_reducible rfl
        rotate_left
        ·simp only [zp, zi, zz, zs, i64_w, i32_w]
         rfl
        refine pu 15 ?_ (hc := any_of HT_.out (by kernel_rfl))
        refine pu 16 ?_ (hc := any_of HT_.out (by kernel_rfl))
        refine pu 17 ?_ (hc := any_of HT_.out (by kernel_rfl))
        refine pu 18 ?_ (hc := any_of HT_.out (by kernel_rfl))
        refine done_ (done_of HT_.out (by kernel_rfl)) ?_
        try go_wp2
        go_ret
        exact ⟨by first | rfl | (simp [*] <;> rfl), by repeat (with_reducible first | exact HB.out | apply ba | apply bn | apply bd)⟩
      ·rw [if_neg c17] at H
       exact absurd H (by simp)
  ·rw [if_neg c4] at H
   exact absurd H (by simp)

end Go.Proofs.YtfomjbbebgajcaaGreatDoor.MCoverLeast
