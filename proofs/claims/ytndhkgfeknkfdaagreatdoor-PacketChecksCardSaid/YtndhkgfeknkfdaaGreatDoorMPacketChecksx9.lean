-- Printed by a program of this session's own (wip/mkprint.py): contracts of the functions that a law uses. Not trusted: Lean checks it.
import Derived.Test.YtndhkgfeknkfdaaGreatDoorMPacketChecksx0
import Derived.Test.YtndhkgfeknkfdaaGreatDoorMPacketChecksx5
namespace Go.Proofs.YtndhkgfeknkfdaaGreatDoor.MPacketChecks
open Go.RowKit Go.Proofs.YtndhkgfeknkfdaaGreatDoor.Giv Go.Proofs.YtndhkgfeknkfdaaGreatDoorW.PrintWords Go.Proofs.YtndhkgfeknkfdaaGreatDoorW.PrintLast Go.Proofs.YtndhkgfeknkfdaaGreatDoorW.PrintMore
attribute [local go_sem] max2_int min2_int max_two min_two max_three min_three max_four min_four   -- for this text's walks alone
set_option linter.unusedVariables false
set_option linter.unusedSimpArgs false

/-! ### crierref2_qualities: function 105 -/
mutual
def crierref2_qualities.j0 : Nat → Bool → Int → Int → Bool → Int → ByteArray → Bool → ByteArray → List Int → Int → Bool → Bool → ByteArray → Bool → List Int → Bool → Int → Bool → ByteArray → List Int → Int → Bool → Int → List (S82) → List Int → List ByteArray → Option (Bool)
 | 0, _, _, _, _, _, _, _, _, _, _, _, _, _, _, _, _, _, _, _, _, _, _, _, _, _, _ => none
 | k + 1, x30, x249000, x249001, x249002, x249003, x249004, x249005, x249006, x249007, x249008, x249009, x249010, x249011, x249012, x249013, x249014, x249015, x249016, x249017, x249018, x249019, x249020, x249021, x249022, x249023, x249024 => if x30 = true then (some false) else (crierref2_qualities.l0 k 0 x249000 x249001 x249002 x249003 x249004 x249005 x249006 x249007 x249008 x249009 x249010 x249011 x249012 x249013 x249014 x249015 x249016 x249017 x249018 x249019 x249020 x249021 x249022 x249023 x249024)
def crierref2_qualities.l0 : Nat → Int → Int → Int → Bool → Int → ByteArray → Bool → ByteArray → List Int → Int → Bool → Bool → ByteArray → Bool → List Int → Bool → Int → Bool → ByteArray → List Int → Int → Bool → Int → List (S82) → List Int → List ByteArray → Option (Bool)
 | 0, _, _, _, _, _, _, _, _, _, _, _, _, _, _, _, _, _, _, _, _, _, _, _, _, _, _ => none
 | k + 1, x3, x249000, x249001, x249002, x249003, x249004, x249005, x249006, x249007, x249008, x249009, x249010, x249011, x249012, x249013, x249014, x249015, x249016, x249017, x249018, x249019, x249020, x249021, x249022, x249023, x249024 => if x3 < (x249022.length : Int) then (if 0 ≤ x3 then ((crierref2_within.f ((rd_T82 x249022 x3).f1) 2).bind fun t254 => (if t254 = true then (crierref2_qualities.l0 k (wrap64 (x3 + 1)) x249000 x249001 x249002 x249003 x249004 x249005 x249006 x249007 x249008 x249009 x249010 x249011 x249012 x249013 x249014 x249015 x249016 x249017 x249018 x249019 x249020 x249021 x249022 x249023 x249024) else (some false))) else (none)) else (crierref2_qualities.l1 k 0 x249000 x249001 x249002 x249003 x249004 x249005 x249006 x249007 x249008 x249009 x249010 x249011 x249012 x249013 x249014 x249015 x249016 x249017 x249018 x249019 x249020 x249021 x249022 x249023 x249024)
def crierref2_qualities.l1 : Nat → Int → Int → Int → Bool → Int → ByteArray → Bool → ByteArray → List Int → Int → Bool → Bool → ByteArray → Bool → List Int → Bool → Int → Bool → ByteArray → List Int → Int → Bool → Int → List (S82) → List Int → List ByteArray → Option (Bool)
 | 0, _, _, _, _, _, _, _, _, _, _, _, _, _, _, _, _, _, _, _, _, _, _, _, _, _, _ => none
 | k + 1, x4, x249000, x249001, x249002, x249003, x249004, x249005, x249006, x249007, x249008, x249009, x249010, x249011, x249012, x249013, x249014, x249015, x249016, x249017, x249018, x249019, x249020, x249021, x249022, x249023, x249024 => if x4 < (x249023.length : Int) then (if 0 ≤ x4 then ((crierref2_within.f (rd x249023 x4) 2).bind fun t256 => (if t256 = true then (crierref2_qualities.l1 k (wrap64 (x4 + 1)) x249000 x249001 x249002 x249003 x249004 x249005 x249006 x249007 x249008 x249009 x249010 x249011 x249012 x249013 x249014 x249015 x249016 x249017 x249018 x249019 x249020 x249021 x249022 x249023 x249024) else (if (rd x249023 x4) = 128 then (crierref2_qualities.l1 k (wrap64 (x4 + 1)) x249000 x249001 x249002 x249003 x249004 x249005 x249006 x249007 x249008 x249009 x249010 x249011 x249012 x249013 x249014 x249015 x249016 x249017 x249018 x249019 x249020 x249021 x249022 x249023 x249024) else (some false)))) else (none)) else (some true)
end
def crierref2_qualities.f (k : Nat) (a0_0 : Int) (a0_1 : Int) (a0_2 : Bool) (a0_3 : Int) (a0_4 : ByteArray) (a0_5 : Bool) (a0_6 : ByteArray) (l0_7 : List Int) (a0_8 : Int) (a0_9 : Bool) (a0_10 : Bool) (a0_11 : ByteArray) (a0_12 : Bool) (l0_13 : List Int) (a0_14 : Bool) (a0_15 : Int) (a0_16 : Bool) (a0_17 : ByteArray) (l0_18 : List Int) (a0_19 : Int) (a0_20 : Bool) (a0_21 : Int) (l0_22 : List (S82)) (l0_23 : List Int) (l0_24 : List ByteArray) : Option (Bool) := if a0_0 = 1 then (if a0_5 = true then ((crierref2_within.f a0_8 2).bind fun t249 => (if t249 = true then (if a0_0 = 3 then ((crierref2_within.f a0_19 2).bind fun t250 => (crierref2_qualities.j0 k (!t250) a0_0 a0_1 a0_2 a0_3 a0_4 a0_5 a0_6 l0_7 a0_8 a0_9 a0_10 a0_11 a0_12 l0_13 a0_14 a0_15 a0_16 a0_17 l0_18 a0_19 a0_20 a0_21 l0_22 l0_23 l0_24)) else (crierref2_qualities.j0 k false a0_0 a0_1 a0_2 a0_3 a0_4 a0_5 a0_6 l0_7 a0_8 a0_9 a0_10 a0_11 a0_12 l0_13 a0_14 a0_15 a0_16 a0_17 l0_18 a0_19 a0_20 a0_21 l0_22 l0_23 l0_24)) else (crierref2_qualities.j0 k true a0_0 a0_1 a0_2 a0_3 a0_4 a0_5 a0_6 l0_7 a0_8 a0_9 a0_10 a0_11 a0_12 l0_13 a0_14 a0_15 a0_16 a0_17 l0_18 a0_19 a0_20 a0_21 l0_22 l0_23 l0_24))) else (if a0_0 = 3 then ((crierref2_within.f a0_19 2).bind fun t251 => (crierref2_qualities.j0 k (!t251) a0_0 a0_1 a0_2 a0_3 a0_4 a0_5 a0_6 l0_7 a0_8 a0_9 a0_10 a0_11 a0_12 l0_13 a0_14 a0_15 a0_16 a0_17 l0_18 a0_19 a0_20 a0_21 l0_22 l0_23 l0_24)) else (crierref2_qualities.j0 k false a0_0 a0_1 a0_2 a0_3 a0_4 a0_5 a0_6 l0_7 a0_8 a0_9 a0_10 a0_11 a0_12 l0_13 a0_14 a0_15 a0_16 a0_17 l0_18 a0_19 a0_20 a0_21 l0_22 l0_23 l0_24))) else (if a0_0 = 3 then ((crierref2_within.f a0_19 2).bind fun t252 => (crierref2_qualities.j0 k (!t252) a0_0 a0_1 a0_2 a0_3 a0_4 a0_5 a0_6 l0_7 a0_8 a0_9 a0_10 a0_11 a0_12 l0_13 a0_14 a0_15 a0_16 a0_17 l0_18 a0_19 a0_20 a0_21 l0_22 l0_23 l0_24)) else (crierref2_qualities.j0 k false a0_0 a0_1 a0_2 a0_3 a0_4 a0_5 a0_6 l0_7 a0_8 a0_9 a0_10 a0_11 a0_12 l0_13 a0_14 a0_15 a0_16 a0_17 l0_18 a0_19 a0_20 a0_21 l0_22 l0_23 l0_24))
set_option maxHeartbeats 8000000 in
set_option maxRecDepth 100000 in
theorem crierref2_qualities.calls (k : Nat) (a0_0 : Int) (a0_1 : Int) (a0_2 : Bool) (a0_3 : Int) (a0_4 : ByteArray) (a0_5 : Bool) (a0_6 : ByteArray) (A0_7 : Option Addr) (c0_7 : Nat) (l0_7 : List Int) (a0_8 : Int) (a0_9 : Bool) (a0_10 : Bool) (a0_11 : ByteArray) (a0_12 : Bool) (A0_13 : Option Addr) (c0_13 : Nat) (l0_13 : List Int) (a0_14 : Bool) (a0_15 : Int) (a0_16 : Bool) (a0_17 : ByteArray) (A0_18 : Option Addr) (c0_18 : Nat) (l0_18 : List Int) (a0_19 : Int) (a0_20 : Bool) (a0_21 : Int) (A0_22 : Option Addr) (c0_22 : Nat) (l0_22 : List (S82)) (A0_23 : Option Addr) (c0_23 : Nat) (l0_23 : List Int) (A0_24 : Option Addr) (c0_24 : Nat) (l0_24 : List ByteArray) (r : Bool) (w : World) (hr0_7 : Kd.C (Kd.int .u8) w A0_7 l0_7.length l0_7) (hc0_7 : l0_7.length ≤ c0_7) (hr0_13 : Kd.C (Kd.int .u8) w A0_13 l0_13.length l0_13) (hc0_13 : l0_13.length ≤ c0_13) (hr0_18 : Kd.C (Kd.int .u8) w A0_18 l0_18.length l0_18) (hc0_18 : l0_18.length ≤ c0_18) (hr0_22 : Kd.C k82 w A0_22 l0_22.length l0_22) (hc0_22 : l0_22.length ≤ c0_22) (hr0_23 : Kd.C (Kd.int .i64) w A0_23 l0_23.length l0_23) (hc0_23 : l0_23.length ≤ c0_23) (hr0_24 : Kd.C Kd.string w A0_24 l0_24.length l0_24) (hc0_24 : l0_24.length ≤ c0_24) (h : crierref2_qualities.f k a0_0 a0_1 a0_2 a0_3 a0_4 a0_5 a0_6 l0_7 a0_8 a0_9 a0_10 a0_11 a0_12 l0_13 a0_14 a0_15 a0_16 a0_17 l0_18 a0_19 a0_20 a0_21 l0_22 l0_23 l0_24 = some r) :
  Calls Tryz.prog 105 #[.agg #[.int .i64 a0_0, .int .i64 a0_1, .bool a0_2, .int .i64 a0_3, .string a0_4, .bool a0_5, .string a0_6, .slice A0_7 l0_7.length c0_7, .int .i64 a0_8, .bool a0_9, .bool a0_10, .string a0_11, .bool a0_12, .slice A0_13 l0_13.length c0_13, .bool a0_14, .int .i64 a0_15, .bool a0_16, .string a0_17, .slice A0_18 l0_18.length c0_18, .int .i64 a0_19, .bool a0_20, .int .i64 a0_21, .slice A0_22 l0_22.length c0_22, .slice A0_23 l0_23.length c0_23, .slice A0_24 l0_24.length c0_24]] w fun e w' => e = .returned (.bool r) ∧ Below w.heap.size w w' := by
 have hu29 := Tryz.underlying29
 have HR0_7 := Aside0.mk hr0_7
 have HC0_7 := Aside0.mk hc0_7
 clear hr0_7 hc0_7
 have HR0_13 := Aside0.mk hr0_13
 have HC0_13 := Aside0.mk hc0_13
 clear hr0_13 hc0_13
 have HR0_18 := Aside0.mk hr0_18
 have HC0_18 := Aside0.mk hc0_18
 clear hr0_18 hc0_18
 have HR0_22 := Aside0.mk hr0_22
 have HC0_22 := Aside0.mk hc0_22
 clear hr0_22 hc0_22
 have HR0_23 := Aside0.mk hr0_23
 have HC0_23 := Aside0.mk hc0_23
 clear hr0_23 hc0_23
 have HR0_24 := Aside0.mk hr0_24
 have HC0_24 := Aside0.mk hc0_24
 clear hr0_24 hc0_24
 have HB := Aside0.mk (Below.refl w.heap.size w)
 have H : (if a0_0 = 1 then (if a0_5 = true then ((crierref2_within.f a0_8 2).bind fun t249 => (if t249 = true then (if a0_0 = 3 then ((crierref2_within.f a0_19 2).bind fun t250 => (crierref2_qualities.j0 k (!t250) a0_0 a0_1 a0_2 a0_3 a0_4 a0_5 a0_6 l0_7 a0_8 a0_9 a0_10 a0_11 a0_12 l0_13 a0_14 a0_15 a0_16 a0_17 l0_18 a0_19 a0_20 a0_21 l0_22 l0_23 l0_24)) else (crierref2_qualities.j0 k false a0_0 a0_1 a0_2 a0_3 a0_4 a0_5 a0_6 l0_7 a0_8 a0_9 a0_10 a0_11 a0_12 l0_13 a0_14 a0_15 a0_16 a0_17 l0_18 a0_19 a0_20 a0_21 l0_22 l0_23 l0_24)) else (crierref2_qualities.j0 k true a0_0 a0_1 a0_2 a0_3 a0_4 a0_5 a0_6 l0_7 a0_8 a0_9 a0_10 a0_11 a0_12 l0_13 a0_14 a0_15 a0_16 a0_17 l0_18 a0_19 a0_20 a0_21 l0_22 l0_23 l0_24))) else (if a0_0 = 3 then ((crierref2_within.f a0_19 2).bind fun t251 => (crierref2_qualities.j0 k (!t251) a0_0 a0_1 a0_2 a0_3 a0_4 a0_5 a0_6 l0_7 a0_8 a0_9 a0_10 a0_11 a0_12 l0_13 a0_14 a0_15 a0_16 a0_17 l0_18 a0_19 a0_20 a0_21 l0_22 l0_23 l0_24)) else (crierref2_qualities.j0 k false a0_0 a0_1 a0_2 a0_3 a0_4 a0_5 a0_6 l0_7 a0_8 a0_9 a0_10 a0_11 a0_12 l0_13 a0_14 a0_15 a0_16 a0_17 l0_18 a0_19 a0_20 a0_21 l0_22 l0_23 l0_24))) else (if a0_0 = 3 then ((crierref2_within.f a0_19 2).bind fun t252 => (crierref2_qualities.j0 k (!t252) a0_0 a0_1 a0_2 a0_3 a0_4 a0_5 a0_6 l0_7 a0_8 a0_9 a0_10 a0_11 a0_12 l0_13 a0_14 a0_15 a0_16 a0_17 l0_18 a0_19 a0_20 a0_21 l0_22 l0_23 l0_24)) else (crierref2_qualities.j0 k false a0_0 a0_1 a0_2 a0_3 a0_4 a0_5 a0_6 l0_7 a0_8 a0_9 a0_10 a0_11 a0_12 l0_13 a0_14 a0_15 a0_16 a0_17 l0_18 a0_19 a0_20 a0_21 l0_22 l0_23 l0_24))) = some r := h
 clear h
 have HC2 := Aside0.mk H
 clear H
 go_enter Tryz.func105, Tryz.ntmps105
 go_upto_region 1 with (first | ((with_reducible refine gate_dst (N := 1) rfl ?_); refine box_event ?hg (N := 1) ?hd (cs := #[.int .i64 a0_0, .int .i64 a0_1, .bool a0_2, .int .i64 a0_3, .string a0_4, .bool a0_5, .string a0_6, .slice A0_7 l0_7.length c0_7, .int .i64 a0_8, .bool a0_9, .bool a0_10, .string a0_11, .bool a0_12, .slice A0_13 l0_13.length c0_13, .bool a0_14, .int .i64 a0_15, .bool a0_16, .string a0_17, .slice A0_18 l0_18.length c0_18, .int .i64 a0_19, .bool a0_20, .int .i64 a0_21, .slice A0_22 l0_22.length c0_22, .slice A0_23 l0_23.length c0_23, .slice A0_24 l0_24.length c0_24]) (t := 29) ?hr ?_; (case hd => rfl); (case hg => rfl); (case hr => first | (go_simp; done) | (go_simp; rfl)); intro gb248 hg w3 hbox hb; have n0_ := Aside0.mk (below_step (by repeat (with_reducible first | exact HB.out | apply below_alloc | apply pw_below_drewN | apply below_drew1)) hb); have n1_ := Aside0.mk (hbox); have n2_ := Aside0.mk ((by rw [hg]; exact (below_size (by repeat (with_reducible first | exact HB.out | apply below_alloc | apply pw_below_drewN | apply below_drew1))) : w.heap.size ≤ gb248)); have n3_ := Aside0.mk ((by rw [hg]; exact (below_size (by repeat (with_reducible first | exact HB.out | apply below_alloc | apply pw_below_drewN | apply below_drew1))) : w.heap.size ≤ gb248)); clear HB; have HB := n0_; have BK248 := n1_; have GW248 := n2_; have GE248 := n3_; clear n0_ n1_ n2_ n3_; clear hb hbox hg))
 (try simp only [Act.put, List.setIfInBounds_toArray, List.set_cons_zero, List.set_cons_succ])
 go_cut [30] (fun v30 wc => ∃ (kq : Nat) (x30_1 : Bool), v30 = .bool x30_1 ∧ Aside0 (crierref2_qualities.j0 kq x30_1 a0_0 a0_1 a0_2 a0_3 a0_4 a0_5 a0_6 l0_7 a0_8 a0_9 a0_10 a0_11 a0_12 l0_13 a0_14 a0_15 a0_16 a0_17 l0_18 a0_19 a0_20 a0_21 l0_22 l0_23 l0_24 = some r) ∧ Aside0 (kq ≤ k) ∧ Aside0 (wc.heap[gb248]? = some (.cells #[.int .i64 a0_0, .int .i64 a0_1, .bool a0_2, .int .i64 a0_3, .string a0_4, .bool a0_5, .string a0_6, (.slice A0_7 l0_7.length c0_7), .int .i64 a0_8, .bool a0_9, .bool a0_10, .string a0_11, .bool a0_12, (.slice A0_13 l0_13.length c0_13), .bool a0_14, .int .i64 a0_15, .bool a0_16, .string a0_17, (.slice A0_18 l0_18.length c0_18), .int .i64 a0_19, .bool a0_20, .int .i64 a0_21, (.slice A0_22 l0_22.length c0_22), (.slice A0_23 l0_23.length c0_23), (.slice A0_24 l0_24.length c0_24)] 29 (0, 0))) ∧ Aside0 (Below w.heap.size w wc))
 case first =>
  have H := HC2.out
  clear HC2
  by_cases c4 : a0_0 = 1
  ·rw [if_pos c4] at H
   have c4b0 : (a0_0 == 1) = true := beq_iff_eq.mpr c4
   have c4b1 : (a0_0 != 1) = false := bne_eq_false_iff_eq.mpr c4
   clear c4
   (first | rw [c4b0] | (simp only [i64_w, i32_w]; rw [c4b0]) | skip)
   by_cases c5 : a0_5 = true
   ·subst c5
    rw [if_pos rfl] at H
    replace H := Option.bind_eq_some_iff.mp H
    obtain ⟨t249, A60, H⟩ := H
    try dsimp only at H
    have A6 := Aside0.mk A60
    clear A60
    by_cases c7 : t249 = true
    ·subst c7
     rw [if_pos rfl] at H
     by_cases c8 : a0_0 = 3
     ·rw [if_pos c8] at H
      have c8b0 : (a0_0 == 3) = true := beq_iff_eq.mpr c8
      have c8b1 : (a0_0 != 3) = false := bne_eq_false_iff_eq.mpr c8
      clear c8
      replace H := Option.bind_eq_some_iff.mp H
      obtain ⟨t250, A90, H⟩ := H
      try dsimp only at H
      have A9 := Aside0.mk A90
      clear A90
      have H' := Aside0.mk H
      clear H
      have hcz10_0 : w3.cell? ⟨gb248, 0, none⟩ = some (.int .i64 a0_0) := (blk_cell BK248.out 0).trans rfl
      have hcz10_5 : w3.cell? ⟨gb248, 5, none⟩ = some (.bool true) := (blk_cell BK248.out 5).trans rfl
      have hcz10_8 : w3.cell? ⟨gb248, 8, none⟩ = some (.int .i64 a0_8) := (blk_cell BK248.out 8).trans rfl
      have hcz10_19 : w3.cell? ⟨gb248, 19, none⟩ = some (.int .i64 a0_19) := (blk_cell BK248.out 19).trans rfl
      have hcz10_22 : w3.cell? ⟨gb248, 22, none⟩ = some (.slice A0_22 l0_22.length c0_22) := (blk_cell BK248.out 22).trans rfl
      have hcz10_23 : w3.cell? ⟨gb248, 23, none⟩ = some (.slice A0_23 l0_23.length c0_23) := (blk_cell BK248.out 23).trans rfl
      go_wp2_with (first | (go_at_call 101; (with_reducible refine (crierref2_within.calls a0_8 2 true _ A6.out).mono ?_); rintro e w' ⟨rfl, ⟨nd, rfl⟩⟩) | (go_at_call 101; (with_reducible refine (crierref2_within.calls a0_19 2 t250 _ A9.out).mono ?_); rintro e w' ⟨rfl, ⟨nd, rfl⟩⟩))
      go_meet
      case rel => exact ⟨_, (!t250), (by first | rfl | (simp; done) | (simp [*]; done)), H', ⟨by first | omega | exact Nat.le_refl _⟩, ⟨by (with_reducible repeat (first | refine blk_drewN ?_ _ | refine blk_drew ?_ | refine blk_alloc ?_ _)); exact BK248.out⟩, ⟨by repeat (first | (with_reducible first | exact HB.out | apply below_alloc | apply pw_below_drewN | apply below_drew1 | refine below_set ?_ GE248.out) | exact HB.out)⟩⟩
     ·rw [if_neg c8] at H
      have c8b0 : (a0_0 == 3) = false := beq_eq_false_iff_ne.mpr c8
      have c8b1 : (a0_0 != 3) = true := bne_iff_ne.mpr c8
      have H' := Aside0.mk H
      clear H
      have hcz11_0 : w3.cell? ⟨gb248, 0, none⟩ = some (.int .i64 a0_0) := (blk_cell BK248.out 0).trans rfl
      have hcz11_5 : w3.cell? ⟨gb248, 5, none⟩ = some (.bool true) := (blk_cell BK248.out 5).trans rfl
      have hcz11_8 : w3.cell? ⟨gb248, 8, none⟩ = some (.int .i64 a0_8) := (blk_cell BK248.out 8).trans rfl
      have hcz11_19 : w3.cell? ⟨gb248, 19, none⟩ = some (.int .i64 a0_19) := (blk_cell BK248.out 19).trans rfl
      have hcz11_22 : w3.cell? ⟨gb248, 22, none⟩ = some (.slice A0_22 l0_22.length c0_22) := (blk_cell BK248.out 22).trans rfl
      have hcz11_23 : w3.cell? ⟨gb248, 23, none⟩ = some (.slice A0_23 l0_23.length c0_23) := (blk_cell BK248.out 23).trans rfl
      go_wp2_with (first | (go_at_call 101; (with_reducible refine (crierref2_within.calls a0_8 2 true _ A6.out).mono ?_); rintro e w' ⟨rfl, ⟨nd, rfl⟩⟩))
      go_meet
      case rel => exact ⟨_, (false), (by first | rfl | (simp; done) | (simp [*]; done)), H', ⟨by first | omega | exact Nat.le_refl _⟩, ⟨by (with_reducible repeat (first | refine blk_drewN ?_ _ | refine blk_drew ?_ | refine blk_alloc ?_ _)); exact BK248.out⟩, ⟨by repeat (first | (with_reducible first | exact HB.out | apply below_alloc | apply pw_below_drewN | apply below_drew1 | refine below_set ?_ GE248.out) | exact HB.out)⟩⟩
    ·replace c7 := Bool.eq_false_iff.mpr c7
     subst c7
     rw [if_neg (show ¬ (false = true) by decide)] at H
     have H' := Aside0.mk H
     clear H
     have hcz12_0 : w3.cell? ⟨gb248, 0, none⟩ = some (.int .i64 a0_0) := (blk_cell BK248.out 0).trans rfl
     have hcz12_5 : w3.cell? ⟨gb248, 5, none⟩ = some (.bool true) := (blk_cell BK248.out 5).trans rfl
     have hcz12_8 : w3.cell? ⟨gb248, 8, none⟩ = some (.int .i64 a0_8) := (blk_cell BK248.out 8).trans rfl
     have hcz12_19 : w3.cell? ⟨gb248, 19, none⟩ = some (.int .i64 a0_19) := (blk_cell BK248.out 19).trans rfl
     have hcz12_22 : w3.cell? ⟨gb248, 22, none⟩ = some (.slice A0_22 l0_22.length c0_22) := (blk_cell BK248.out 22).trans rfl
     have hcz12_23 : w3.cell? ⟨gb248, 23, none⟩ = some (.slice A0_23 l0_23.length c0_23) := (blk_cell BK248.out 23).trans rfl
     go_wp2_with (first | (go_at_call 101; (with_reducible refine (crierref2_within.calls a0_8 2 false _ A6.out).mono ?_); rintro e w' ⟨rfl, ⟨nd, rfl⟩⟩))
     go_meet
     case rel => exact ⟨_, (true), (by first | rfl | (simp; done) | (simp [*]; done)), H', ⟨by first | omega | exact Nat.le_refl _⟩, ⟨by (with_reducible repeat (first | refine blk_drewN ?_ _ | refine blk_drew ?_ | refine blk_alloc ?_ _)); exact BK248.out⟩, ⟨by repeat (first | (with_reducible first | exact HB.out | apply below_alloc | apply pw_below_drewN | apply below_drew1 | refine below_set ?_ GE248.out) | exact HB.out)⟩⟩
   ·replace c5 := Bool.eq_false_iff.mpr c5
    subst c5
    rw [if_neg (show ¬ (false = true) by decide)] at H
    by_cases c13 : a0_0 = 3
    ·rw [if_pos c13] at H
     have c13b0 : (a0_0 == 3) = true := beq_iff_eq.mpr c13
     have c13b1 : (a0_0 != 3) = false := bne_eq_false_iff_eq.mpr c13
     clear c13
     replace H := Option.bind_eq_some_iff.mp H
     obtain ⟨t251, A140, H⟩ := H
     try dsimp only at H
     have A14 := Aside0.mk A140
     clear A140
     have H' := Aside0.mk H
     clear H
     have hcz15_0 : w3.cell? ⟨gb248, 0, none⟩ = some (.int .i64 a0_0) := (blk_cell BK248.out 0).trans rfl
     have hcz15_5 : w3.cell? ⟨gb248, 5, none⟩ = some (.bool false) := (blk_cell BK248.out 5).trans rfl
     have hcz15_8 : w3.cell? ⟨gb248, 8, none⟩ = some (.int .i64 a0_8) := (blk_cell BK248.out 8).trans rfl
     have hcz15_19 : w3.cell? ⟨gb248, 19, none⟩ = some (.int .i64 a0_19) := (blk_cell BK248.out 19).trans rfl
     have hcz15_22 : w3.cell? ⟨gb248, 22, none⟩ = some (.slice A0_22 l0_22.length c0_22) := (blk_cell BK248.out 22).trans rfl
     have hcz15_23 : w3.cell? ⟨gb248, 23, none⟩ = some (.slice A0_23 l0_23.length c0_23) := (blk_cell BK248.out 23).trans rfl
     go_wp2_with (first | (go_at_call 101; (with_reducible refine (crierref2_within.calls a0_19 2 t251 _ A14.out).mono ?_); rintro e w' ⟨rfl, ⟨nd, rfl⟩⟩))
     go_meet
     case rel => exact ⟨_, (!t251), (by first | rfl | (simp; done) | (simp [*]; done)), H', ⟨by first | omega | exact Nat.le_refl _⟩, ⟨by (with_reducible repeat (first | refine blk_drewN ?_ _ | refine blk_drew ?_ | refine blk_alloc ?_ _)); exact BK248.out⟩, ⟨by repeat (first | (with_reducible first | exact HB.out | apply below_alloc | apply pw_below_drewN | apply below_drew1 | refine below_set ?_ GE248.out) | exact HB.out)⟩⟩
    ·rw [if_neg c13] at H
     have c13b0 : (a0_0 == 3) = false := beq_eq_false_iff_ne.mpr c13
     have c13b1 : (a0_0 != 3) = true := bne_iff_ne.mpr c13
     have H' := Aside0.mk H
     clear H
     have hcz16_0 : w3.cell? ⟨gb248, 0, none⟩ = some (.int .i64 a0_0) := (blk_cell BK248.out 0).trans rfl
     have hcz16_5 : w3.cell? ⟨gb248, 5, none⟩ = some (.bool false) := (blk_cell BK248.out 5).trans rfl
     have hcz16_8 : w3.cell? ⟨gb248, 8, none⟩ = some (.int .i64 a0_8) := (blk_cell BK248.out 8).trans rfl
     have hcz16_19 : w3.cell? ⟨gb248, 19, none⟩ = some (.int .i64 a0_19) := (blk_cell BK248.out 19).trans rfl
     have hcz16_22 : w3.cell? ⟨gb248, 22, none⟩ = some (.slice A0_22 l0_22.length c0_22) := (blk_cell BK248.out 22).trans rfl
     have hcz16_23 : w3.cell? ⟨gb248, 23, none⟩ = some (.slice A0_23 l0_23.length c0_23) := (blk_cell BK248.out 23).trans rfl
     go_wp2
     go_meet
     case rel => exact ⟨_, (false), (by first | rfl | (simp; done) | (simp [*]; done)), H', ⟨by first | omega | exact Nat.le_refl _⟩, ⟨by (with_reducible repeat (first | refine blk_drewN ?_ _ | refine blk_drew ?_ | refine blk_alloc ?_ _)); exact BK248.out⟩, ⟨by repeat (first | (with_reducible first | exact HB.out | apply below_alloc | apply pw_below_drewN | apply below_drew1 | refine below_set ?_ GE248.out) | exact HB.out)⟩⟩
  ·rw [if_neg c4] at H
   have c4b0 : (a0_0 == 1) = false := beq_eq_false_iff_ne.mpr c4
   have c4b1 : (a0_0 != 1) = true := bne_iff_ne.mpr c4
   (first | rw [c4b0] | (simp only [i64_w, i32_w]; rw [c4b0]) | skip)
   by_cases c17 : a0_0 = 3
   ·rw [if_pos c17] at H
    have c17b0 : (a0_0 == 3) = true := beq_iff_eq.mpr c17
    have c17b1 : (a0_0 != 3) = false := bne_eq_false_iff_eq.mpr c17
    clear c17
    replace H := Option.bind_eq_some_iff.mp H
    obtain ⟨t252, A180, H⟩ := H
    try dsimp only at H
    have A18 := Aside0.mk A180
    clear A180
    have H' := Aside0.mk H
    clear H
    have hcz19_0 : w3.cell? ⟨gb248, 0, none⟩ = some (.int .i64 a0_0) := (blk_cell BK248.out 0).trans rfl
    have hcz19_5 : w3.cell? ⟨gb248, 5, none⟩ = some (.bool a0_5) := (blk_cell BK248.out 5).trans rfl
    have hcz19_8 : w3.cell? ⟨gb248, 8, none⟩ = some (.int .i64 a0_8) := (blk_cell BK248.out 8).trans rfl
    have hcz19_19 : w3.cell? ⟨gb248, 19, none⟩ = some (.int .i64 a0_19) := (blk_cell BK248.out 19).trans rfl
    have hcz19_22 : w3.cell? ⟨gb248, 22, none⟩ = some (.slice A0_22 l0_22.length c0_22) := (blk_cell BK248.out 22).trans rfl
    have hcz19_23 : w3.cell? ⟨gb248, 23, none⟩ = some (.slice A0_23 l0_23.length c0_23) := (blk_cell BK248.out 23).trans rfl
    go_wp2_with (first | (go_at_call 101; (with_reducible refine (crierref2_within.calls a0_19 2 t252 _ A18.out).mono ?_); rintro e w' ⟨rfl, ⟨nd, rfl⟩⟩))
    go_meet
    case rel => exact ⟨_, (!t252), (by first | rfl | (simp; done) | (simp [*]; done)), H', ⟨by first | omega | exact Nat.le_refl _⟩, ⟨by (with_reducible repeat (first | refine blk_drewN ?_ _ | refine blk_drew ?_ | refine blk_alloc ?_ _)); exact BK248.out⟩, ⟨by repeat (first | (with_reducible first | exact HB.out | apply below_alloc | apply pw_below_drewN | apply below_drew1 | refine below_set ?_ GE248.out) | exact HB.out)⟩⟩
   ·rw [if_neg c17] at H
    have c17b0 : (a0_0 == 3) = false := beq_eq_false_iff_ne.mpr c17
    have c17b1 : (a0_0 != 3) = true := bne_iff_ne.mpr c17
    have H' := Aside0.mk H
    clear H
    have hcz20_0 : w3.cell? ⟨gb248, 0, none⟩ = some (.int .i64 a0_0) := (blk_cell BK248.out 0).trans rfl
    have hcz20_5 : w3.cell? ⟨gb248, 5, none⟩ = some (.bool a0_5) := (blk_cell BK248.out 5).trans rfl
    have hcz20_8 : w3.cell? ⟨gb248, 8, none⟩ = some (.int .i64 a0_8) := (blk_cell BK248.out 8).trans rfl
    have hcz20_19 : w3.cell? ⟨gb248, 19, none⟩ = some (.int .i64 a0_19) := (blk_cell BK248.out 19).trans rfl
    have hcz20_22 : w3.cell? ⟨gb248, 22, none⟩ = some (.slice A0_22 l0_22.length c0_22) := (blk_cell BK248.out 22).trans rfl
    have hcz20_23 : w3.cell? ⟨gb248, 23, none⟩ = some (.slice A0_23 l0_23.length c0_23) := (blk_cell BK248.out 23).trans rfl
    go_wp2
    go_meet
    case rel => exact ⟨_, (false), (by first | rfl | (simp; done) | (simp [*]; done)), H', ⟨by first | omega | exact Nat.le_refl _⟩, ⟨by (with_reducible repeat (first | refine blk_drewN ?_ _ | refine blk_drew ?_ | refine blk_alloc ?_ _)); exact BK248.out⟩, ⟨by repeat (first | (with_reducible first | exact HB.out | apply below_alloc | apply pw_below_drewN | apply below_drew1 | refine below_set ?_ GE248.out) | exact HB.out)⟩⟩
 case rest =>
  clear HC2
  try clear c1
  try clear p2
  try clear c4
  try clear c4b0
  try clear c4b1
  try clear c5
  try clear c7
  try clear c8
  try clear c8b0
  try clear c8b1
  try clear c10
  try clear c13
  try clear c13b0
  try clear c13b1
  try clear c17
  try clear c17b0
  try clear c17b1
  try clear hcz10_0
  try clear hcz10_19
  try clear hcz10_22
  try clear hcz10_23
  try clear hcz10_5
  try clear hcz10_8
  try clear hcz11_0
  try clear hcz11_19
  try clear hcz11_22
  try clear hcz11_23
  try clear hcz11_5
  try clear hcz11_8
  try clear hcz12_0
  try clear hcz12_19
  try clear hcz12_22
  try clear hcz12_23
  try clear hcz12_5
  try clear hcz12_8
  try clear hcz15_0
  try clear hcz15_19
  try clear hcz15_22
  try clear hcz15_23
  try clear hcz15_5
  try clear hcz15_8
  try clear hcz16_0
  try clear hcz16_19
  try clear hcz16_22
  try clear hcz16_23
  try clear hcz16_5
  try clear hcz16_8
  try clear hcz19_0
  try clear hcz19_19
  try clear hcz19_22
  try clear hcz19_23
  try clear hcz19_5
  try clear hcz19_8
  try clear hcz20_0
  try clear hcz20_19
  try clear hcz20_22
  try clear hcz20_23
  try clear hcz20_5
  try clear hcz20_8
  obtain ⟨kq, x30_1, rfl, HA, HJ1, BK248, HB⟩ := hcut
  cases kq with
  | zero => exact absurd HA.out (by simp [crierref2_qualities.j0])
  | succ kj1 =>
   have H := HA.out
   clear HA
   simp only [crierref2_qualities.j0] at H
   by_cases c21 : x30_1 = true
   ·subst c21
    rw [if_pos rfl] at H
    obtain rfl := Option.some.inj H
    go_wp2
    go_ret
    exact ⟨by first | rfl | (simp [errW_none, errW_some] <;> rfl) | (simp [*, errW_none, errW_some] <;> rfl), by repeat (first | (with_reducible first | exact HB.out | apply below_alloc | apply pw_below_drewN | apply below_drew1 | refine below_set ?_ GE248.out) | exact HB.out)⟩
   ·replace c21 := Bool.eq_false_iff.mpr c21
    subst c21
    rw [if_neg (show ¬ (false = true) by decide)] at H
    have H' := Aside0.mk H
    clear H
    go_wp2
    go_loopg [3] kj1 (fun kq v3 w' => ∃ (x3_2 : Int), v3 = .int .i64 x3_2 ∧ Aside0 (crierref2_qualities.l0 kq x3_2 a0_0 a0_1 a0_2 a0_3 a0_4 a0_5 a0_6 l0_7 a0_8 a0_9 a0_10 a0_11 a0_12 l0_13 a0_14 a0_15 a0_16 a0_17 l0_18 a0_19 a0_20 a0_21 l0_22 l0_23 l0_24 = some r) ∧ Aside0 (kq ≤ kj1) ∧ Aside0 (w'.heap[gb248]? = some (.cells #[.int .i64 a0_0, .int .i64 a0_1, .bool a0_2, .int .i64 a0_3, .string a0_4, .bool a0_5, .string a0_6, (.slice A0_7 l0_7.length c0_7), .int .i64 a0_8, .bool a0_9, .bool a0_10, .string a0_11, .bool a0_12, (.slice A0_13 l0_13.length c0_13), .bool a0_14, .int .i64 a0_15, .bool a0_16, .string a0_17, (.slice A0_18 l0_18.length c0_18), .int .i64 a0_19, .bool a0_20, .int .i64 a0_21, (.slice A0_22 l0_22.length c0_22), (.slice A0_23 l0_23.length c0_23), (.slice A0_24 l0_24.length c0_24)] 29 (0, 0))) ∧ Aside0 (Below w.heap.size w w'))
    case atStart => exact ⟨(0), (by first | rfl | (simp; done) | (simp [*]; done)), H', ⟨Nat.le_refl _⟩, ⟨by (with_reducible repeat (first | refine blk_drewN ?_ _ | refine blk_drew ?_ | refine blk_alloc ?_ _)); exact BK248.out⟩, ⟨by repeat (first | (with_reducible first | exact HB.out | apply below_alloc | apply pw_below_drewN | apply below_drew1 | refine below_set ?_ GE248.out) | exact HB.out)⟩⟩
    case round =>
     clear H'
     try clear c1
     try clear c2
     try clear p2
     try clear c4
     try clear c4b0
     try clear c4b1
     try clear c5
     try clear c7
     try clear c8
     try clear c8b0
     try clear c8b1
     try clear c10
     try clear c13
     try clear c13b0
     try clear c13b1
     try clear c17
     try clear c17b0
     try clear c17b1
     try clear c21
     try clear hcz10_0
     try clear hcz10_19
     try clear hcz10_22
     try clear hcz10_23
     try clear hcz10_5
     try clear hcz10_8
     try clear hcz11_0
     try clear hcz11_19
     try clear hcz11_22
     try clear hcz11_23
     try clear hcz11_5
     try clear hcz11_8
     try clear hcz12_0
     try clear hcz12_19
     try clear hcz12_22
     try clear hcz12_23
     try clear hcz12_5
     try clear hcz12_8
     try clear hcz15_0
     try clear hcz15_19
     try clear hcz15_22
     try clear hcz15_23
     try clear hcz15_5
     try clear hcz15_8
     try clear hcz16_0
     try clear hcz16_19
     try clear hcz16_22
     try clear hcz16_23
     try clear hcz16_5
     try clear hcz16_8
     try clear hcz19_0
     try clear hcz19_19
     try clear hcz19_22
     try clear hcz19_23
     try clear hcz19_5
     try clear hcz19_8
     try clear hcz20_0
     try clear hcz20_19
     try clear hcz20_22
     try clear hcz20_23
     try clear hcz20_5
     try clear hcz20_8
     try clear p2
     obtain ⟨x3_2, rfl, HA, HK2, BK248, HB⟩ := hrel
     cases gk with
     | zero => exact absurd HA.out (by simp [crierref2_qualities.l0])
     | succ k2 =>
      have H := HA.out
      clear HA
      simp only [crierref2_qualities.l0] at H
      by_cases c22 : x3_2 < (l0_22.length : Int)
      ·rw [if_pos c22] at H
       have c22b0 : decide (x3_2 < (l0_22.length : Int)) = true := decide_eq_true c22
       clear c22
       by_cases c23 : 0 ≤ x3_2
       ·rw [if_pos c23] at H
        have c23b0 : decide (0 ≤ x3_2) = true := decide_eq_true c23
        clear c23
        replace H := Option.bind_eq_some_iff.mp H
        obtain ⟨t254, A240, H⟩ := H
        try dsimp only at H
        have A24 := Aside0.mk A240
        clear A240
        by_cases c25 : t254 = true
        ·subst c25
         rw [if_pos rfl] at H
         have H' := Aside0.mk H
         clear H
         have hcz26_0 : wr.cell? ⟨gb248, 0, none⟩ = some (.int .i64 a0_0) := (blk_cell BK248.out 0).trans rfl
         have hcz26_5 : wr.cell? ⟨gb248, 5, none⟩ = some (.bool a0_5) := (blk_cell BK248.out 5).trans rfl
         have hcz26_8 : wr.cell? ⟨gb248, 8, none⟩ = some (.int .i64 a0_8) := (blk_cell BK248.out 8).trans rfl
         have hcz26_19 : wr.cell? ⟨gb248, 19, none⟩ = some (.int .i64 a0_19) := (blk_cell BK248.out 19).trans rfl
         have hcz26_22 : wr.cell? ⟨gb248, 22, none⟩ = some (.slice A0_22 l0_22.length c0_22) := (blk_cell BK248.out 22).trans rfl
         have hcz26_23 : wr.cell? ⟨gb248, 23, none⟩ = some (.slice A0_23 l0_23.length c0_23) := (blk_cell BK248.out 23).trans rfl
         have p253 : 0 ≤ (x3_2 : Int) := of_decide_eq_true (by first | (with_reducible assumption) | assumption)
         have q253 : x3_2 < (l0_22.length : Int) := of_decide_eq_true (by first | (with_reducible assumption) | assumption)
         obtain ⟨ad253, e253, hx253_0, hx253_1⟩ := at_T82 HR0_22.out x3_2 p253 q253
         cases e253
         replace hx253_0 := (HB.out.cell (World.block_lt_of_cell? w _ hx253_0)).trans hx253_0
         replace hx253_1 := (HB.out.cell (World.block_lt_of_cell? w _ hx253_1)).trans hx253_1
         replace p253 := eq_true p253
         replace q253 := eq_true q253
         go_wp2_with (first | ((with_reducible refine gate_callee (f := 101) rfl ?_); refine goesL_ (some 44) rfl rfl Tryz.func101 (by kernel_rfl) rfl #[.int .i64 ((rd_T82 l0_22 x3_2).f1), .int .i64 2] rfl (by (try simp only [List.map_toArray, List.map_cons, List.map_nil]); first | done | rfl | (simp only [List.length_drop, List.length_take]; rfl)) ?_; (with_reducible refine (crierref2_within.calls ((rd_T82 l0_22 x3_2).f1) 2 true _ A24.out).mono ?_); rintro e w' ⟨rfl, ⟨nd, rfl⟩⟩; refine ⟨_, rfl, ?_⟩))
         go_roundg k2
         case measure => have := HJ1.out; have := HK2.out; omega
         case rel => exact ⟨(wrap64 (x3_2 + 1)), (by first | rfl | (simp; done) | (simp [*]; done)), H', ⟨by have := HJ1.out; have := HK2.out; omega⟩, ⟨by (with_reducible repeat (first | refine blk_drewN ?_ _ | refine blk_drew ?_ | refine blk_alloc ?_ _)); exact BK248.out⟩, ⟨by repeat (first | (with_reducible first | exact HB.out | apply below_alloc | apply pw_below_drewN | apply below_drew1 | refine below_set ?_ GE248.out) | exact HB.out)⟩⟩
        ·replace c25 := Bool.eq_false_iff.mpr c25
         subst c25
         rw [if_neg (show ¬ (false = true) by decide)] at H
         obtain rfl := Option.some.inj H
         have hcz27_0 : wr.cell? ⟨gb248, 0, none⟩ = some (.int .i64 a0_0) := (blk_cell BK248.out 0).trans rfl
         have hcz27_5 : wr.cell? ⟨gb248, 5, none⟩ = some (.bool a0_5) := (blk_cell BK248.out 5).trans rfl
         have hcz27_8 : wr.cell? ⟨gb248, 8, none⟩ = some (.int .i64 a0_8) := (blk_cell BK248.out 8).trans rfl
         have hcz27_19 : wr.cell? ⟨gb248, 19, none⟩ = some (.int .i64 a0_19) := (blk_cell BK248.out 19).trans rfl
         have hcz27_22 : wr.cell? ⟨gb248, 22, none⟩ = some (.slice A0_22 l0_22.length c0_22) := (blk_cell BK248.out 22).trans rfl
         have hcz27_23 : wr.cell? ⟨gb248, 23, none⟩ = some (.slice A0_23 l0_23.length c0_23) := (blk_cell BK248.out 23).trans rfl
         have p253 : 0 ≤ (x3_2 : Int) := of_decide_eq_true (by first | (with_reducible assumption) | assumption)
         have q253 : x3_2 < (l0_22.length : Int) := of_decide_eq_true (by first | (with_reducible assumption) | assumption)
         obtain ⟨ad253, e253, hx253_0, hx253_1⟩ := at_T82 HR0_22.out x3_2 p253 q253
         cases e253
         replace hx253_0 := (HB.out.cell (World.block_lt_of_cell? w _ hx253_0)).trans hx253_0
         replace hx253_1 := (HB.out.cell (World.block_lt_of_cell? w _ hx253_1)).trans hx253_1
         replace p253 := eq_true p253
         replace q253 := eq_true q253
         go_wp2_with (first | ((with_reducible refine gate_callee (f := 101) rfl ?_); refine goesL_ (some 44) rfl rfl Tryz.func101 (by kernel_rfl) rfl #[.int .i64 ((rd_T82 l0_22 x3_2).f1), .int .i64 2] rfl (by (try simp only [List.map_toArray, List.map_cons, List.map_nil]); first | done | rfl | (simp only [List.length_drop, List.length_take]; rfl)) ?_; (with_reducible refine (crierref2_within.calls ((rd_T82 l0_22 x3_2).f1) 2 false _ A24.out).mono ?_); rintro e w' ⟨rfl, ⟨nd, rfl⟩⟩; refine ⟨_, rfl, ?_⟩))
         go_ret
         exact ⟨by first | rfl | (simp [errW_none, errW_some] <;> rfl) | (simp [*, errW_none, errW_some] <;> rfl), by repeat (first | (with_reducible first | exact HB.out | apply below_alloc | apply pw_below_drewN | apply below_drew1 | refine below_set ?_ GE248.out) | exact HB.out)⟩
       ·rw [if_neg c23] at H
        exact absurd H (by simp)
      ·rw [if_neg c22] at H
       have c22b0 : decide (x3_2 < (l0_22.length : Int)) = false := decide_eq_false c22
       clear c22
       have H' := Aside0.mk H
       clear H
       have hcz28_0 : wr.cell? ⟨gb248, 0, none⟩ = some (.int .i64 a0_0) := (blk_cell BK248.out 0).trans rfl
       have hcz28_5 : wr.cell? ⟨gb248, 5, none⟩ = some (.bool a0_5) := (blk_cell BK248.out 5).trans rfl
       have hcz28_8 : wr.cell? ⟨gb248, 8, none⟩ = some (.int .i64 a0_8) := (blk_cell BK248.out 8).trans rfl
       have hcz28_19 : wr.cell? ⟨gb248, 19, none⟩ = some (.int .i64 a0_19) := (blk_cell BK248.out 19).trans rfl
       have hcz28_22 : wr.cell? ⟨gb248, 22, none⟩ = some (.slice A0_22 l0_22.length c0_22) := (blk_cell BK248.out 22).trans rfl
       have hcz28_23 : wr.cell? ⟨gb248, 23, none⟩ = some (.slice A0_23 l0_23.length c0_23) := (blk_cell BK248.out 23).trans rfl
       go_wp2
       go_loopg [4] k2 (fun kq v4 w' => ∃ (x4_3 : Int), v4 = .int .i64 x4_3 ∧ Aside0 (crierref2_qualities.l1 kq x4_3 a0_0 a0_1 a0_2 a0_3 a0_4 a0_5 a0_6 l0_7 a0_8 a0_9 a0_10 a0_11 a0_12 l0_13 a0_14 a0_15 a0_16 a0_17 l0_18 a0_19 a0_20 a0_21 l0_22 l0_23 l0_24 = some r) ∧ Aside0 (kq ≤ k2) ∧ Aside0 (w'.heap[gb248]? = some (.cells #[.int .i64 a0_0, .int .i64 a0_1, .bool a0_2, .int .i64 a0_3, .string a0_4, .bool a0_5, .string a0_6, (.slice A0_7 l0_7.length c0_7), .int .i64 a0_8, .bool a0_9, .bool a0_10, .string a0_11, .bool a0_12, (.slice A0_13 l0_13.length c0_13), .bool a0_14, .int .i64 a0_15, .bool a0_16, .string a0_17, (.slice A0_18 l0_18.length c0_18), .int .i64 a0_19, .bool a0_20, .int .i64 a0_21, (.slice A0_22 l0_22.length c0_22), (.slice A0_23 l0_23.length c0_23), (.slice A0_24 l0_24.length c0_24)] 29 (0, 0))) ∧ Aside0 (Below w.heap.size w w'))
       case atStart => exact ⟨(0), (by first | rfl | (simp; done) | (simp [*]; done)), H', ⟨Nat.le_refl _⟩, ⟨by (with_reducible repeat (first | refine blk_drewN ?_ _ | refine blk_drew ?_ | refine blk_alloc ?_ _)); exact BK248.out⟩, ⟨by repeat (first | (with_reducible first | exact HB.out | apply below_alloc | apply pw_below_drewN | apply below_drew1 | refine below_set ?_ GE248.out) | exact HB.out)⟩⟩
       case round =>
        clear H'
        try clear c1
        try clear c2
        try clear p2
        try clear q2
        try clear hx2
        try clear c4
        try clear c4b0
        try clear c4b1
        try clear c5
        try clear p6
        try clear c7
        try clear c8
        try clear c8b0
        try clear c8b1
        try clear c10
        try clear c13
        try clear c13b0
        try clear c13b1
        try clear c17
        try clear c17b0
        try clear c17b1
        try clear c21
        try clear c22
        try clear c22b0
        try clear c23
        try clear c23b0
        try clear c25
        try clear p25
        try clear q25
        try clear hx25
        try clear hcz10_0
        try clear hcz10_19
        try clear hcz10_22
        try clear hcz10_23
        try clear hcz10_5
        try clear hcz10_8
        try clear hcz11_0
        try clear hcz11_19
        try clear hcz11_22
        try clear hcz11_23
        try clear hcz11_5
        try clear hcz11_8
        try clear hcz12_0
        try clear hcz12_19
        try clear hcz12_22
        try clear hcz12_23
        try clear hcz12_5
        try clear hcz12_8
        try clear hcz15_0
        try clear hcz15_19
        try clear hcz15_22
        try clear hcz15_23
        try clear hcz15_5
        try clear hcz15_8
        try clear hcz16_0
        try clear hcz16_19
        try clear hcz16_22
        try clear hcz16_23
        try clear hcz16_5
        try clear hcz16_8
        try clear hcz19_0
        try clear hcz19_19
        try clear hcz19_22
        try clear hcz19_23
        try clear hcz19_5
        try clear hcz19_8
        try clear hcz20_0
        try clear hcz20_19
        try clear hcz20_22
        try clear hcz20_23
        try clear hcz20_5
        try clear hcz20_8
        try clear hcz26_0
        try clear hcz26_19
        try clear hcz26_22
        try clear hcz26_23
        try clear hcz26_5
        try clear hcz26_8
        try clear hcz27_0
        try clear hcz27_19
        try clear hcz27_22
        try clear hcz27_23
        try clear hcz27_5
        try clear hcz27_8
        try clear hcz28_0
        try clear hcz28_19
        try clear hcz28_22
        try clear hcz28_23
        try clear hcz28_5
        try clear hcz28_8
        try clear hx253_0
        try clear hx253_1
        try clear p2
        try clear p253
        try clear q253
        obtain ⟨x4_3, rfl, HA, HK3, BK248, HB⟩ := hrel
        cases gk with
        | zero => exact absurd HA.out (by simp [crierref2_qualities.l1])
        | succ k3 =>
         have H := HA.out
         clear HA
         simp only [crierref2_qualities.l1] at H
         by_cases c29 : x4_3 < (l0_23.length : Int)
         ·rw [if_pos c29] at H
          have c29b0 : decide (x4_3 < (l0_23.length : Int)) = true := decide_eq_true c29
          clear c29
          by_cases c30 : 0 ≤ x4_3
          ·rw [if_pos c30] at H
           have c30b0 : decide (0 ≤ x4_3) = true := decide_eq_true c30
           clear c30
           replace H := Option.bind_eq_some_iff.mp H
           obtain ⟨t256, A310, H⟩ := H
           try dsimp only at H
           have A31 := Aside0.mk A310
           clear A310
           by_cases c32 : t256 = true
           ·subst c32
            rw [if_pos rfl] at H
            have H' := Aside0.mk H
            clear H
            have hcz33_0 : wr.cell? ⟨gb248, 0, none⟩ = some (.int .i64 a0_0) := (blk_cell BK248.out 0).trans rfl
            have hcz33_5 : wr.cell? ⟨gb248, 5, none⟩ = some (.bool a0_5) := (blk_cell BK248.out 5).trans rfl
            have hcz33_8 : wr.cell? ⟨gb248, 8, none⟩ = some (.int .i64 a0_8) := (blk_cell BK248.out 8).trans rfl
            have hcz33_19 : wr.cell? ⟨gb248, 19, none⟩ = some (.int .i64 a0_19) := (blk_cell BK248.out 19).trans rfl
            have hcz33_22 : wr.cell? ⟨gb248, 22, none⟩ = some (.slice A0_22 l0_22.length c0_22) := (blk_cell BK248.out 22).trans rfl
            have hcz33_23 : wr.cell? ⟨gb248, 23, none⟩ = some (.slice A0_23 l0_23.length c0_23) := (blk_cell BK248.out 23).trans rfl
            have p255 : 0 ≤ (x4_3 : Int) := of_decide_eq_true (by first | (with_reducible assumption) | assumption)
            have q255 : x4_3 < (l0_23.length : Int) := of_decide_eq_true (by first | (with_reducible assumption) | assumption)
            obtain ⟨ad255, e255, hx255_0⟩ := Kd.at_int HR0_23.out x4_3 p255 q255
            cases e255
            replace hx255_0 := (HB.out.cell (World.block_lt_of_cell? w _ hx255_0)).trans hx255_0
            replace p255 := eq_true p255
            replace q255 := eq_true q255
            go_wp2_with (first | ((with_reducible refine gate_callee (f := 101) rfl ?_); refine goesL_ (some 58) rfl rfl Tryz.func101 (by kernel_rfl) rfl #[.int .i64 (rd l0_23 x4_3), .int .i64 2] rfl (by (try simp only [List.map_toArray, List.map_cons, List.map_nil]); first | done | rfl | (simp only [List.length_drop, List.length_take]; rfl)) ?_; (with_reducible refine (crierref2_within.calls (rd l0_23 x4_3) 2 true _ A31.out).mono ?_); rintro e w' ⟨rfl, ⟨nd, rfl⟩⟩; refine ⟨_, rfl, ?_⟩))
            go_roundg k3
            case measure => have := HJ1.out; have := HK2.out; have := HK3.out; omega
            case rel => exact ⟨(wrap64 (x4_3 + 1)), (by first | rfl | (simp; done) | (simp [*]; done)), H', ⟨by have := HJ1.out; have := HK2.out; have := HK3.out; omega⟩, ⟨by (with_reducible repeat (first | refine blk_drewN ?_ _ | refine blk_drew ?_ | refine blk_alloc ?_ _)); exact BK248.out⟩, ⟨by repeat (first | (with_reducible first | exact HB.out | apply below_alloc | apply pw_below_drewN | apply below_drew1 | refine below_set ?_ GE248.out) | exact HB.out)⟩⟩
           ·replace c32 := Bool.eq_false_iff.mpr c32
            subst c32
            rw [if_neg (show ¬ (false = true) by decide)] at H
            by_cases c34 : (rd l0_23 x4_3) = 128
            ·rw [if_pos c34] at H
             have c34b0 : ((rd l0_23 x4_3) == 128) = true := beq_iff_eq.mpr c34
             have c34b1 : ((rd l0_23 x4_3) != 128) = false := bne_eq_false_iff_eq.mpr c34
             clear c34
             have H' := Aside0.mk H
             clear H
             have hcz35_0 : wr.cell? ⟨gb248, 0, none⟩ = some (.int .i64 a0_0) := (blk_cell BK248.out 0).trans rfl
             have hcz35_5 : wr.cell? ⟨gb248, 5, none⟩ = some (.bool a0_5) := (blk_cell BK248.out 5).trans rfl
             have hcz35_8 : wr.cell? ⟨gb248, 8, none⟩ = some (.int .i64 a0_8) := (blk_cell BK248.out 8).trans rfl
             have hcz35_19 : wr.cell? ⟨gb248, 19, none⟩ = some (.int .i64 a0_19) := (blk_cell BK248.out 19).trans rfl
             have hcz35_22 : wr.cell? ⟨gb248, 22, none⟩ = some (.slice A0_22 l0_22.length c0_22) := (blk_cell BK248.out 22).trans rfl
             have hcz35_23 : wr.cell? ⟨gb248, 23, none⟩ = some (.slice A0_23 l0_23.length c0_23) := (blk_cell BK248.out 23).trans rfl
             have p255 : 0 ≤ (x4_3 : Int) := of_decide_eq_true (by first | (with_reducible assumption) | assumption)
             have q255 : x4_3 < (l0_23.length : Int) := of_decide_eq_true (by first | (with_reducible assumption) | assumption)
             obtain ⟨ad255, e255, hx255_0⟩ := Kd.at_int HR0_23.out x4_3 p255 q255
             cases e255
             replace hx255_0 := (HB.out.cell (World.block_lt_of_cell? w _ hx255_0)).trans hx255_0
             replace p255 := eq_true p255
             replace q255 := eq_true q255
             go_wp2_with (first | ((with_reducible refine gate_callee (f := 101) rfl ?_); refine goesL_ (some 58) rfl rfl Tryz.func101 (by kernel_rfl) rfl #[.int .i64 (rd l0_23 x4_3), .int .i64 2] rfl (by (try simp only [List.map_toArray, List.map_cons, List.map_nil]); first | done | rfl | (simp only [List.length_drop, List.length_take]; rfl)) ?_; (with_reducible refine (crierref2_within.calls (rd l0_23 x4_3) 2 false _ A31.out).mono ?_); rintro e w' ⟨rfl, ⟨nd, rfl⟩⟩; refine ⟨_, rfl, ?_⟩; have p257 : 0 ≤ (x4_3 : Int) := of_decide_eq_true (by first | (with_reducible assumption) | assumption); have q257 : x4_3 < (l0_23.length : Int) := of_decide_eq_true (by first | (with_reducible assumption) | assumption); obtain ⟨ad257, e257, hx257_0⟩ := Kd.at_int HR0_23.out x4_3 p257 q257; obtain rfl : ad255 = ad257 := (by injection e257); replace hx257_0 := (HB.out.cell (World.block_lt_of_cell? w _ hx257_0)).trans hx257_0; replace p257 := eq_true p257; replace q257 := eq_true q257))
             go_roundg k3
             case measure => have := HJ1.out; have := HK2.out; have := HK3.out; omega
             case rel => exact ⟨(wrap64 (x4_3 + 1)), (by first | rfl | (simp; done) | (simp [*]; done)), H', ⟨by have := HJ1.out; have := HK2.out; have := HK3.out; omega⟩, ⟨by (with_reducible repeat (first | refine blk_drewN ?_ _ | refine blk_drew ?_ | refine blk_alloc ?_ _)); exact BK248.out⟩, ⟨by repeat (first | (with_reducible first | exact HB.out | apply below_alloc | apply pw_below_drewN | apply below_drew1 | refine below_set ?_ GE248.out) | exact HB.out)⟩⟩
            ·rw [if_neg c34] at H
             have c34b0 : ((rd l0_23 x4_3) == 128) = false := beq_eq_false_iff_ne.mpr c34
             have c34b1 : ((rd l0_23 x4_3) != 128) = true := bne_iff_ne.mpr c34
             obtain rfl := Option.some.inj H
             have hcz36_0 : wr.cell? ⟨gb248, 0, none⟩ = some (.int .i64 a0_0) := (blk_cell BK248.out 0).trans rfl
             have hcz36_5 : wr.cell? ⟨gb248, 5, none⟩ = some (.bool a0_5) := (blk_cell BK248.out 5).trans rfl
             have hcz36_8 : wr.cell? ⟨gb248, 8, none⟩ = some (.int .i64 a0_8) := (blk_cell BK248.out 8).trans rfl
             have hcz36_19 : wr.cell? ⟨gb248, 19, none⟩ = some (.int .i64 a0_19) := (blk_cell BK248.out 19).trans rfl
             have hcz36_22 : wr.cell? ⟨gb248, 22, none⟩ = some (.slice A0_22 l0_22.length c0_22) := (blk_cell BK248.out 22).trans rfl
             have hcz36_23 : wr.cell? ⟨gb248, 23, none⟩ = some (.slice A0_23 l0_23.length c0_23) := (blk_cell BK248.out 23).trans rfl
             have p255 : 0 ≤ (x4_3 : Int) := of_decide_eq_true (by first | (with_reducible assumption) | assumption)
             have q255 : x4_3 < (l0_23.length : Int) := of_decide_eq_true (by first | (with_reducible assumption) | assumption)
             obtain ⟨ad255, e255, hx255_0⟩ := Kd.at_int HR0_23.out x4_3 p255 q255
             cases e255
             replace hx255_0 := (HB.out.cell (World.block_lt_of_cell? w _ hx255_0)).trans hx255_0
             replace p255 := eq_true p255
             replace q255 := eq_true q255
             go_wp2_with (first | ((with_reducible refine gate_callee (f := 101) rfl ?_); refine goesL_ (some 58) rfl rfl Tryz.func101 (by kernel_rfl) rfl #[.int .i64 (rd l0_23 x4_3), .int .i64 2] rfl (by (try simp only [List.map_toArray, List.map_cons, List.map_nil]); first | done | rfl | (simp only [List.length_drop, List.length_take]; rfl)) ?_; (with_reducible refine (crierref2_within.calls (rd l0_23 x4_3) 2 false _ A31.out).mono ?_); rintro e w' ⟨rfl, ⟨nd, rfl⟩⟩; refine ⟨_, rfl, ?_⟩; have p257 : 0 ≤ (x4_3 : Int) := of_decide_eq_true (by first | (with_reducible assumption) | assumption); have q257 : x4_3 < (l0_23.length : Int) := of_decide_eq_true (by first | (with_reducible assumption) | assumption); obtain ⟨ad257, e257, hx257_0⟩ := Kd.at_int HR0_23.out x4_3 p257 q257; obtain rfl : ad255 = ad257 := (by injection e257); replace hx257_0 := (HB.out.cell (World.block_lt_of_cell? w _ hx257_0)).trans hx257_0; replace p257 := eq_true p257; replace q257 := eq_true q257))
             go_ret
             exact ⟨by first | rfl | (simp [errW_none, errW_some] <;> rfl) | (simp [*, errW_none, errW_some] <;> rfl), by repeat (first | (with_reducible first | exact HB.out | apply below_alloc | apply pw_below_drewN | apply below_drew1 | refine below_set ?_ GE248.out) | exact HB.out)⟩
          ·rw [if_neg c30] at H
           exact absurd H (by simp)
         ·rw [if_neg c29] at H
          have c29b0 : decide (x4_3 < (l0_23.length : Int)) = false := decide_eq_false c29
          clear c29
          obtain rfl := Option.some.inj H
          have hcz37_0 : wr.cell? ⟨gb248, 0, none⟩ = some (.int .i64 a0_0) := (blk_cell BK248.out 0).trans rfl
          have hcz37_5 : wr.cell? ⟨gb248, 5, none⟩ = some (.bool a0_5) := (blk_cell BK248.out 5).trans rfl
          have hcz37_8 : wr.cell? ⟨gb248, 8, none⟩ = some (.int .i64 a0_8) := (blk_cell BK248.out 8).trans rfl
          have hcz37_19 : wr.cell? ⟨gb248, 19, none⟩ = some (.int .i64 a0_19) := (blk_cell BK248.out 19).trans rfl
          have hcz37_22 : wr.cell? ⟨gb248, 22, none⟩ = some (.slice A0_22 l0_22.length c0_22) := (blk_cell BK248.out 22).trans rfl
          have hcz37_23 : wr.cell? ⟨gb248, 23, none⟩ = some (.slice A0_23 l0_23.length c0_23) := (blk_cell BK248.out 23).trans rfl
          go_wp2
          go_ret
          exact ⟨by first | rfl | (simp [errW_none, errW_some] <;> rfl) | (simp [*, errW_none, errW_some] <;> rfl), by repeat (first | (with_reducible first | exact HB.out | apply below_alloc | apply pw_below_drewN | apply below_drew1 | refine below_set ?_ GE248.out) | exact HB.out)⟩

end Go.Proofs.YtndhkgfeknkfdaaGreatDoor.MPacketChecks
