-- Printed by a program of this session's own (wip/mkprint.py): contracts of the functions that a law uses. Not trusted: Lean checks it.
import Derived.Test.YtndhkgfeknkfdaaGreatDoorMPacketChecksx0
import Derived.Test.YtndhkgfeknkfdaaGreatDoorMPacketChecksx3
namespace Go.Proofs.YtndhkgfeknkfdaaGreatDoor.MPacketChecks
open Go.RowKit Go.Proofs.YtndhkgfeknkfdaaGreatDoor.Giv Go.Proofs.YtndhkgfeknkfdaaGreatDoorW.PrintWords Go.Proofs.YtndhkgfeknkfdaaGreatDoorW.PrintLast Go.Proofs.YtndhkgfeknkfdaaGreatDoorW.PrintMore
attribute [local go_sem] max2_int min2_int max_two min_two max_three min_three max_four min_four   -- for this text's walks alone
set_option linter.unusedVariables false
set_option linter.unusedSimpArgs false

/-! ### packet_qualities: function 97 -/
mutual
def packet_qualities.j0 : Nat → Bool → Int → Int → Bool → Int → ByteArray → Bool → ByteArray → List Int → Int → Bool → Bool → ByteArray → Bool → List Int → Bool → Int → Bool → ByteArray → List Int → Int → Bool → Int → List (S82) → List Int → List ByteArray → Option (Bool)
 | 0, _, _, _, _, _, _, _, _, _, _, _, _, _, _, _, _, _, _, _, _, _, _, _, _, _, _ => none
 | k + 1, x18, x200000, x200001, x200002, x200003, x200004, x200005, x200006, x200007, x200008, x200009, x200010, x200011, x200012, x200013, x200014, x200015, x200016, x200017, x200018, x200019, x200020, x200021, x200022, x200023, x200024 => if x18 = true then (some false) else (packet_qualities.l0 k x200022 (x200022.length : Int) 0 x200000 x200001 x200002 x200003 x200004 x200005 x200006 x200007 x200008 x200009 x200010 x200011 x200012 x200013 x200014 x200015 x200016 x200017 x200018 x200019 x200020 x200021 x200022 x200023 x200024)
def packet_qualities.l0 : Nat → List (S82) → Int → Int → Int → Int → Bool → Int → ByteArray → Bool → ByteArray → List Int → Int → Bool → Bool → ByteArray → Bool → List Int → Bool → Int → Bool → ByteArray → List Int → Int → Bool → Int → List (S82) → List Int → List ByteArray → Option (Bool)
 | 0, _, _, _, _, _, _, _, _, _, _, _, _, _, _, _, _, _, _, _, _, _, _, _, _, _, _, _, _ => none
 | k + 1, x20, x21, x22, x200000, x200001, x200002, x200003, x200004, x200005, x200006, x200007, x200008, x200009, x200010, x200011, x200012, x200013, x200014, x200015, x200016, x200017, x200018, x200019, x200020, x200021, x200022, x200023, x200024 => if x22 < x21 then (if 0 ≤ x22 then (if x22 < (x20.length : Int) then ((packet_isQoS.f ((rd_T82 x20 x22).f1)).bind fun t204 => (if t204 = true then (packet_qualities.l0 k x20 x21 (wrap64 (x22 + 1)) x200000 x200001 x200002 x200003 x200004 x200005 x200006 x200007 x200008 x200009 x200010 x200011 x200012 x200013 x200014 x200015 x200016 x200017 x200018 x200019 x200020 x200021 x200022 x200023 x200024) else (some false))) else (none)) else (none)) else (packet_qualities.l1 k x200023 (x200023.length : Int) 0)
def packet_qualities.l1 : Nat → List Int → Int → Int → Option (Bool)
 | 0, _, _, _ => none
 | k + 1, x32, x33, x34 => if x34 < x33 then (if 0 ≤ x34 then (if x34 < (x32.length : Int) then ((packet_isQoS.f (rd x32 x34)).bind fun t206 => (if t206 = true then (packet_qualities.l1 k x32 x33 (wrap64 (x34 + 1))) else (if (rd x32 x34) = 128 then (packet_qualities.l1 k x32 x33 (wrap64 (x34 + 1))) else (some false)))) else (none)) else (none)) else (some true)
end
def packet_qualities.f (k : Nat) (a0_0 : Int) (a0_1 : Int) (a0_2 : Bool) (a0_3 : Int) (a0_4 : ByteArray) (a0_5 : Bool) (a0_6 : ByteArray) (l0_7 : List Int) (a0_8 : Int) (a0_9 : Bool) (a0_10 : Bool) (a0_11 : ByteArray) (a0_12 : Bool) (l0_13 : List Int) (a0_14 : Bool) (a0_15 : Int) (a0_16 : Bool) (a0_17 : ByteArray) (l0_18 : List Int) (a0_19 : Int) (a0_20 : Bool) (a0_21 : Int) (l0_22 : List (S82)) (l0_23 : List Int) (l0_24 : List ByteArray) : Option (Bool) := (packet_isQoS.f a0_8).bind fun t200 => (if t200 = true then ((packet_isQoS.f a0_19).bind fun t201 => (packet_qualities.j0 k (!t201) a0_0 a0_1 a0_2 a0_3 a0_4 a0_5 a0_6 l0_7 a0_8 a0_9 a0_10 a0_11 a0_12 l0_13 a0_14 a0_15 a0_16 a0_17 l0_18 a0_19 a0_20 a0_21 l0_22 l0_23 l0_24)) else (packet_qualities.j0 k true a0_0 a0_1 a0_2 a0_3 a0_4 a0_5 a0_6 l0_7 a0_8 a0_9 a0_10 a0_11 a0_12 l0_13 a0_14 a0_15 a0_16 a0_17 l0_18 a0_19 a0_20 a0_21 l0_22 l0_23 l0_24))
set_option maxHeartbeats 8000000 in
set_option maxRecDepth 100000 in
theorem packet_qualities.calls (k : Nat) (a0_0 : Int) (a0_1 : Int) (a0_2 : Bool) (a0_3 : Int) (a0_4 : ByteArray) (a0_5 : Bool) (a0_6 : ByteArray) (A0_7 : Option Addr) (c0_7 : Nat) (l0_7 : List Int) (a0_8 : Int) (a0_9 : Bool) (a0_10 : Bool) (a0_11 : ByteArray) (a0_12 : Bool) (A0_13 : Option Addr) (c0_13 : Nat) (l0_13 : List Int) (a0_14 : Bool) (a0_15 : Int) (a0_16 : Bool) (a0_17 : ByteArray) (A0_18 : Option Addr) (c0_18 : Nat) (l0_18 : List Int) (a0_19 : Int) (a0_20 : Bool) (a0_21 : Int) (A0_22 : Option Addr) (c0_22 : Nat) (l0_22 : List (S82)) (A0_23 : Option Addr) (c0_23 : Nat) (l0_23 : List Int) (A0_24 : Option Addr) (c0_24 : Nat) (l0_24 : List ByteArray) (r : Bool) (w : World) (hr0_7 : Kd.C (Kd.int .u8) w A0_7 l0_7.length l0_7) (hc0_7 : l0_7.length ≤ c0_7) (hr0_13 : Kd.C (Kd.int .u8) w A0_13 l0_13.length l0_13) (hc0_13 : l0_13.length ≤ c0_13) (hr0_18 : Kd.C (Kd.int .u8) w A0_18 l0_18.length l0_18) (hc0_18 : l0_18.length ≤ c0_18) (hr0_22 : Kd.C k82 w A0_22 l0_22.length l0_22) (hc0_22 : l0_22.length ≤ c0_22) (hr0_23 : Kd.C (Kd.int .i64) w A0_23 l0_23.length l0_23) (hc0_23 : l0_23.length ≤ c0_23) (hr0_24 : Kd.C Kd.string w A0_24 l0_24.length l0_24) (hc0_24 : l0_24.length ≤ c0_24) (h : packet_qualities.f k a0_0 a0_1 a0_2 a0_3 a0_4 a0_5 a0_6 l0_7 a0_8 a0_9 a0_10 a0_11 a0_12 l0_13 a0_14 a0_15 a0_16 a0_17 l0_18 a0_19 a0_20 a0_21 l0_22 l0_23 l0_24 = some r) :
  Calls Tryz.prog 97 #[.agg #[.int .i64 a0_0, .int .i64 a0_1, .bool a0_2, .int .i64 a0_3, .string a0_4, .bool a0_5, .string a0_6, .slice A0_7 l0_7.length c0_7, .int .i64 a0_8, .bool a0_9, .bool a0_10, .string a0_11, .bool a0_12, .slice A0_13 l0_13.length c0_13, .bool a0_14, .int .i64 a0_15, .bool a0_16, .string a0_17, .slice A0_18 l0_18.length c0_18, .int .i64 a0_19, .bool a0_20, .int .i64 a0_21, .slice A0_22 l0_22.length c0_22, .slice A0_23 l0_23.length c0_23, .slice A0_24 l0_24.length c0_24]] w fun e w' => e = .returned (.bool r) ∧ Below w.heap.size w w' := by
 have hu29 := Tryz.underlying29
 have hu82 := Tryz.underlying82
 have HR0_7 := Aside0.mk hr0_7
 have HC0_7 := Aside0.mk hc0_7
 clear hr0_7 hc0_7
 have HR0_13 := Aside0.mk hr0_13
 have HC0_13 := Aside0.mk hc0_13
 clear hr0_13 hc0_13
 have HR0_18 := Aside0.mk hr0_18
 have HC0_18 := Aside0.mk hc0_18
 clear hr0_18 hc0_18
 have HR0_22 := Aside0.mk hr0_22
 have HC0_22 := Aside0.mk hc0_22
 clear hr0_22 hc0_22
 have HR0_23 := Aside0.mk hr0_23
 have HC0_23 := Aside0.mk hc0_23
 clear hr0_23 hc0_23
 have HR0_24 := Aside0.mk hr0_24
 have HC0_24 := Aside0.mk hc0_24
 clear hr0_24 hc0_24
 have HB := Aside0.mk (Below.refl w.heap.size w)
 have H : ((packet_isQoS.f a0_8).bind fun t200 => (if t200 = true then ((packet_isQoS.f a0_19).bind fun t201 => (packet_qualities.j0 k (!t201) a0_0 a0_1 a0_2 a0_3 a0_4 a0_5 a0_6 l0_7 a0_8 a0_9 a0_10 a0_11 a0_12 l0_13 a0_14 a0_15 a0_16 a0_17 l0_18 a0_19 a0_20 a0_21 l0_22 l0_23 l0_24)) else (packet_qualities.j0 k true a0_0 a0_1 a0_2 a0_3 a0_4 a0_5 a0_6 l0_7 a0_8 a0_9 a0_10 a0_11 a0_12 l0_13 a0_14 a0_15 a0_16 a0_17 l0_18 a0_19 a0_20 a0_21 l0_22 l0_23 l0_24))) = some r := h
 clear h
 have HC2 := Aside0.mk H
 clear H
 go_enter Tryz.func97, Tryz.ntmps97
 go_upto_region 1 with (first | ((with_reducible refine gate_dst (N := 1) rfl ?_); refine box_event ?hg (N := 1) ?hd (cs := #[.int .i64 a0_0, .int .i64 a0_1, .bool a0_2, .int .i64 a0_3, .string a0_4, .bool a0_5, .string a0_6, .slice A0_7 l0_7.length c0_7, .int .i64 a0_8, .bool a0_9, .bool a0_10, .string a0_11, .bool a0_12, .slice A0_13 l0_13.length c0_13, .bool a0_14, .int .i64 a0_15, .bool a0_16, .string a0_17, .slice A0_18 l0_18.length c0_18, .int .i64 a0_19, .bool a0_20, .int .i64 a0_21, .slice A0_22 l0_22.length c0_22, .slice A0_23 l0_23.length c0_23, .slice A0_24 l0_24.length c0_24]) (t := 29) ?hr ?_; (case hd => rfl); (case hg => rfl); (case hr => first | (go_simp; done) | (go_simp; rfl)); intro gb199 hg w3 hbox hb; have n0_ := Aside0.mk (below_step (by repeat (with_reducible first | exact HB.out | apply below_alloc | apply pw_below_drewN | apply below_drew1)) hb); have n1_ := Aside0.mk (hbox); have n2_ := Aside0.mk ((by rw [hg]; exact (below_size (by repeat (with_reducible first | exact HB.out | apply below_alloc | apply pw_below_drewN | apply below_drew1))) : w.heap.size ≤ gb199)); have n3_ := Aside0.mk ((by rw [hg]; exact (below_size (by repeat (with_reducible first | exact HB.out | apply below_alloc | apply pw_below_drewN | apply below_drew1))) : w.heap.size ≤ gb199)); clear HB; have HB := n0_; have BK199 := n1_; have GW199 := n2_; have GE199 := n3_; clear n0_ n1_ n2_ n3_; clear hb hbox hg))
 (try simp only [Act.put, List.setIfInBounds_toArray, List.set_cons_zero, List.set_cons_succ])
 go_cut [18] (fun v18 wc => ∃ (kq : Nat) (x18_1 : Bool), v18 = .bool x18_1 ∧ Aside0 (packet_qualities.j0 kq x18_1 a0_0 a0_1 a0_2 a0_3 a0_4 a0_5 a0_6 l0_7 a0_8 a0_9 a0_10 a0_11 a0_12 l0_13 a0_14 a0_15 a0_16 a0_17 l0_18 a0_19 a0_20 a0_21 l0_22 l0_23 l0_24 = some r) ∧ Aside0 (kq ≤ k) ∧ Aside0 (wc.heap[gb199]? = some (.cells #[.int .i64 a0_0, .int .i64 a0_1, .bool a0_2, .int .i64 a0_3, .string a0_4, .bool a0_5, .string a0_6, (.slice A0_7 l0_7.length c0_7), .int .i64 a0_8, .bool a0_9, .bool a0_10, .string a0_11, .bool a0_12, (.slice A0_13 l0_13.length c0_13), .bool a0_14, .int .i64 a0_15, .bool a0_16, .string a0_17, (.slice A0_18 l0_18.length c0_18), .int .i64 a0_19, .bool a0_20, .int .i64 a0_21, (.slice A0_22 l0_22.length c0_22), (.slice A0_23 l0_23.length c0_23), (.slice A0_24 l0_24.length c0_24)] 29 (0, 0))) ∧ Aside0 (Below w.heap.size w wc))
 case first =>
  have H := HC2.out
  clear HC2
  replace H := Option.bind_eq_some_iff.mp H
  obtain ⟨t200, A40, H⟩ := H
  try dsimp only at H
  have A4 := Aside0.mk A40
  clear A40
  by_cases c5 : t200 = true
  ·subst c5
   rw [if_pos rfl] at H
   replace H := Option.bind_eq_some_iff.mp H
   obtain ⟨t201, A60, H⟩ := H
   try dsimp only at H
   have A6 := Aside0.mk A60
   clear A60
   have H' := Aside0.mk H
   clear H
   have hcz7_0 : w3.cell? ⟨gb199, 0, none⟩ = some (.int .i64 a0_0) := (blk_cell BK199.out 0).trans rfl
   have hcz7_1 : w3.cell? ⟨gb199, 1, none⟩ = some (.int .i64 a0_1) := (blk_cell BK199.out 1).trans rfl
   have hcz7_2 : w3.cell? ⟨gb199, 2, none⟩ = some (.bool a0_2) := (blk_cell BK199.out 2).trans rfl
   have hcz7_3 : w3.cell? ⟨gb199, 3, none⟩ = some (.int .i64 a0_3) := (blk_cell BK199.out 3).trans rfl
   have hcz7_4 : w3.cell? ⟨gb199, 4, none⟩ = some (.string a0_4) := (blk_cell BK199.out 4).trans rfl
   have hcz7_5 : w3.cell? ⟨gb199, 5, none⟩ = some (.bool a0_5) := (blk_cell BK199.out 5).trans rfl
   have hcz7_6 : w3.cell? ⟨gb199, 6, none⟩ = some (.string a0_6) := (blk_cell BK199.out 6).trans rfl
   have hcz7_7 : w3.cell? ⟨gb199, 7, none⟩ = some (.slice A0_7 l0_7.length c0_7) := (blk_cell BK199.out 7).trans rfl
   have hcz7_8 : w3.cell? ⟨gb199, 8, none⟩ = some (.int .i64 a0_8) := (blk_cell BK199.out 8).trans rfl
   have hcz7_9 : w3.cell? ⟨gb199, 9, none⟩ = some (.bool a0_9) := (blk_cell BK199.out 9).trans rfl
   have hcz7_10 : w3.cell? ⟨gb199, 10, none⟩ = some (.bool a0_10) := (blk_cell BK199.out 10).trans rfl
   have hcz7_11 : w3.cell? ⟨gb199, 11, none⟩ = some (.string a0_11) := (blk_cell BK199.out 11).trans rfl
   have hcz7_12 : w3.cell? ⟨gb199, 12, none⟩ = some (.bool a0_12) := (blk_cell BK199.out 12).trans rfl
   have hcz7_13 : w3.cell? ⟨gb199, 13, none⟩ = some (.slice A0_13 l0_13.length c0_13) := (blk_cell BK199.out 13).trans rfl
   have hcz7_14 : w3.cell? ⟨gb199, 14, none⟩ = some (.bool a0_14) := (blk_cell BK199.out 14).trans rfl
   have hcz7_15 : w3.cell? ⟨gb199, 15, none⟩ = some (.int .i64 a0_15) := (blk_cell BK199.out 15).trans rfl
   have hcz7_16 : w3.cell? ⟨gb199, 16, none⟩ = some (.bool a0_16) := (blk_cell BK199.out 16).trans rfl
   have hcz7_17 : w3.cell? ⟨gb199, 17, none⟩ = some (.string a0_17) := (blk_cell BK199.out 17).trans rfl
   have hcz7_18 : w3.cell? ⟨gb199, 18, none⟩ = some (.slice A0_18 l0_18.length c0_18) := (blk_cell BK199.out 18).trans rfl
   have hcz7_19 : w3.cell? ⟨gb199, 19, none⟩ = some (.int .i64 a0_19) := (blk_cell BK199.out 19).trans rfl
   have hcz7_20 : w3.cell? ⟨gb199, 20, none⟩ = some (.bool a0_20) := (blk_cell BK199.out 20).trans rfl
   have hcz7_21 : w3.cell? ⟨gb199, 21, none⟩ = some (.int .i64 a0_21) := (blk_cell BK199.out 21).trans rfl
   have hcz7_22 : w3.cell? ⟨gb199, 22, none⟩ = some (.slice A0_22 l0_22.length c0_22) := (blk_cell BK199.out 22).trans rfl
   have hcz7_23 : w3.cell? ⟨gb199, 23, none⟩ = some (.slice A0_23 l0_23.length c0_23) := (blk_cell BK199.out 23).trans rfl
   have hcz7_24 : w3.cell? ⟨gb199, 24, none⟩ = some (.slice A0_24 l0_24.length c0_24) := (blk_cell BK199.out 24).trans rfl
   have hfz7_0 := blk_frozen BK199.out 0
   have hfz7_1 := blk_frozen BK199.out 1
   have hfz7_2 := blk_frozen BK199.out 2
   have hfz7_3 := blk_frozen BK199.out 3
   have hfz7_4 := blk_frozen BK199.out 4
   have hfz7_5 := blk_frozen BK199.out 5
   have hfz7_6 := blk_frozen BK199.out 6
   have hfz7_7 := blk_frozen BK199.out 7
   have hfz7_8 := blk_frozen BK199.out 8
   have hfz7_9 := blk_frozen BK199.out 9
   have hfz7_10 := blk_frozen BK199.out 10
   have hfz7_11 := blk_frozen BK199.out 11
   have hfz7_12 := blk_frozen BK199.out 12
   have hfz7_13 := blk_frozen BK199.out 13
   have hfz7_14 := blk_frozen BK199.out 14
   have hfz7_15 := blk_frozen BK199.out 15
   have hfz7_16 := blk_frozen BK199.out 16
   have hfz7_17 := blk_frozen BK199.out 17
   have hfz7_18 := blk_frozen BK199.out 18
   have hfz7_19 := blk_frozen BK199.out 19
   have hfz7_20 := blk_frozen BK199.out 20
   have hfz7_21 := blk_frozen BK199.out 21
   have hfz7_22 := blk_frozen BK199.out 22
   have hfz7_23 := blk_frozen BK199.out 23
   have hfz7_24 := blk_frozen BK199.out 24
   go_wp2_with (first | ((with_reducible refine gate_callee (f := 108) rfl ?_); refine goesL_ (some 10) rfl rfl Tryz.func108 (by kernel_rfl) rfl #[.int .i64 a0_8] rfl (by (try simp only [List.map_toArray, List.map_cons, List.map_nil]); first | done | rfl | (simp only [List.length_drop, List.length_take]; rfl)) ?_; (with_reducible refine (packet_isQoS.calls a0_8 true _ A4.out).mono ?_); rintro e w' ⟨rfl, ⟨nd, rfl⟩⟩; refine ⟨_, rfl, ?_⟩) | (go_at_call 108; (with_reducible refine (packet_isQoS.calls a0_19 t201 _ A6.out).mono ?_); rintro e w' ⟨rfl, ⟨nd, rfl⟩⟩))
   go_meet
   case rel => exact ⟨_, (!t201), (by first | rfl | (simp; done) | (simp [*]; done)), H', ⟨by first | omega | exact Nat.le_refl _⟩, ⟨by (with_reducible repeat (first | refine blk_drewN ?_ _ | refine blk_drew ?_ | refine blk_alloc ?_ _)); exact BK199.out⟩, ⟨by repeat (first | (with_reducible first | exact HB.out | apply below_alloc | apply pw_below_drewN | apply below_drew1 | refine below_set ?_ GE199.out) | exact HB.out)⟩⟩
  ·replace c5 := Bool.eq_false_iff.mpr c5
   subst c5
   rw [if_neg (show ¬ (false = true) by decide)] at H
   have H' := Aside0.mk H
   clear H
   have hcz8_0 : w3.cell? ⟨gb199, 0, none⟩ = some (.int .i64 a0_0) := (blk_cell BK199.out 0).trans rfl
   have hcz8_1 : w3.cell? ⟨gb199, 1, none⟩ = some (.int .i64 a0_1) := (blk_cell BK199.out 1).trans rfl
   have hcz8_2 : w3.cell? ⟨gb199, 2, none⟩ = some (.bool a0_2) := (blk_cell BK199.out 2).trans rfl
   have hcz8_3 : w3.cell? ⟨gb199, 3, none⟩ = some (.int .i64 a0_3) := (blk_cell BK199.out 3).trans rfl
   have hcz8_4 : w3.cell? ⟨gb199, 4, none⟩ = some (.string a0_4) := (blk_cell BK199.out 4).trans rfl
   have hcz8_5 : w3.cell? ⟨gb199, 5, none⟩ = some (.bool a0_5) := (blk_cell BK199.out 5).trans rfl
   have hcz8_6 : w3.cell? ⟨gb199, 6, none⟩ = some (.string a0_6) := (blk_cell BK199.out 6).trans rfl
   have hcz8_7 : w3.cell? ⟨gb199, 7, none⟩ = some (.slice A0_7 l0_7.length c0_7) := (blk_cell BK199.out 7).trans rfl
   have hcz8_8 : w3.cell? ⟨gb199, 8, none⟩ = some (.int .i64 a0_8) := (blk_cell BK199.out 8).trans rfl
   have hcz8_9 : w3.cell? ⟨gb199, 9, none⟩ = some (.bool a0_9) := (blk_cell BK199.out 9).trans rfl
   have hcz8_10 : w3.cell? ⟨gb199, 10, none⟩ = some (.bool a0_10) := (blk_cell BK199.out 10).trans rfl
   have hcz8_11 : w3.cell? ⟨gb199, 11, none⟩ = some (.string a0_11) := (blk_cell BK199.out 11).trans rfl
   have hcz8_12 : w3.cell? ⟨gb199, 12, none⟩ = some (.bool a0_12) := (blk_cell BK199.out 12).trans rfl
   have hcz8_13 : w3.cell? ⟨gb199, 13, none⟩ = some (.slice A0_13 l0_13.length c0_13) := (blk_cell BK199.out 13).trans rfl
   have hcz8_14 : w3.cell? ⟨gb199, 14, none⟩ = some (.bool a0_14) := (blk_cell BK199.out 14).trans rfl
   have hcz8_15 : w3.cell? ⟨gb199, 15, none⟩ = some (.int .i64 a0_15) := (blk_cell BK199.out 15).trans rfl
   have hcz8_16 : w3.cell? ⟨gb199, 16, none⟩ = some (.bool a0_16) := (blk_cell BK199.out 16).trans rfl
   have hcz8_17 : w3.cell? ⟨gb199, 17, none⟩ = some (.string a0_17) := (blk_cell BK199.out 17).trans rfl
   have hcz8_18 : w3.cell? ⟨gb199, 18, none⟩ = some (.slice A0_18 l0_18.length c0_18) := (blk_cell BK199.out 18).trans rfl
   have hcz8_19 : w3.cell? ⟨gb199, 19, none⟩ = some (.int .i64 a0_19) := (blk_cell BK199.out 19).trans rfl
   have hcz8_20 : w3.cell? ⟨gb199, 20, none⟩ = some (.bool a0_20) := (blk_cell BK199.out 20).trans rfl
   have hcz8_21 : w3.cell? ⟨gb199, 21, none⟩ = some (.int .i64 a0_21) := (blk_cell BK199.out 21).trans rfl
   have hcz8_22 : w3.cell? ⟨gb199, 22, none⟩ = some (.slice A0_22 l0_22.length c0_22) := (blk_cell BK199.out 22).trans rfl
   have hcz8_23 : w3.cell? ⟨gb199, 23, none⟩ = some (.slice A0_23 l0_23.length c0_23) := (blk_cell BK199.out 23).trans rfl
   have hcz8_24 : w3.cell? ⟨gb199, 24, none⟩ = some (.slice A0_24 l0_24.length c0_24) := (blk_cell BK199.out 24).trans rfl
   have hfz8_0 := blk_frozen BK199.out 0
   have hfz8_1 := blk_frozen BK199.out 1
   have hfz8_2 := blk_frozen BK199.out 2
   have hfz8_3 := blk_frozen BK199.out 3
   have hfz8_4 := blk_frozen BK199.out 4
   have hfz8_5 := blk_frozen BK199.out 5
   have hfz8_6 := blk_frozen BK199.out 6
   have hfz8_7 := blk_frozen BK199.out 7
   have hfz8_8 := blk_frozen BK199.out 8
   have hfz8_9 := blk_frozen BK199.out 9
   have hfz8_10 := blk_frozen BK199.out 10
   have hfz8_11 := blk_frozen BK199.out 11
   have hfz8_12 := blk_frozen BK199.out 12
   have hfz8_13 := blk_frozen BK199.out 13
   have hfz8_14 := blk_frozen BK199.out 14
   have hfz8_15 := blk_frozen BK199.out 15
   have hfz8_16 := blk_frozen BK199.out 16
   have hfz8_17 := blk_frozen BK199.out 17
   have hfz8_18 := blk_frozen BK199.out 18
   have hfz8_19 := blk_frozen BK199.out 19
   have hfz8_20 := blk_frozen BK199.out 20
   have hfz8_21 := blk_frozen BK199.out 21
   have hfz8_22 := blk_frozen BK199.out 22
   have hfz8_23 := blk_frozen BK199.out 23
   have hfz8_24 := blk_frozen BK199.out 24
   go_wp2_with (first | ((with_reducible refine gate_callee (f := 108) rfl ?_); refine goesL_ (some 10) rfl rfl Tryz.func108 (by kernel_rfl) rfl #[.int .i64 a0_8] rfl (by (try simp only [List.map_toArray, List.map_cons, List.map_nil]); first | done | rfl | (simp only [List.length_drop, List.length_take]; rfl)) ?_; (with_reducible refine (packet_isQoS.calls a0_8 false _ A4.out).mono ?_); rintro e w' ⟨rfl, ⟨nd, rfl⟩⟩; refine ⟨_, rfl, ?_⟩))
   go_meet
   case rel => exact ⟨_, (true), (by first | rfl | (simp; done) | (simp [*]; done)), H', ⟨by first | omega | exact Nat.le_refl _⟩, ⟨by (with_reducible repeat (first | refine blk_drewN ?_ _ | refine blk_drew ?_ | refine blk_alloc ?_ _)); exact BK199.out⟩, ⟨by repeat (first | (with_reducible first | exact HB.out | apply below_alloc | apply pw_below_drewN | apply below_drew1 | refine below_set ?_ GE199.out) | exact HB.out)⟩⟩
 case rest =>
  clear HC2
  try clear c1
  try clear p2
  try clear c5
  try clear hcz7_0
  try clear hcz7_1
  try clear hcz7_10
  try clear hcz7_11
  try clear hcz7_12
  try clear hcz7_13
  try clear hcz7_14
  try clear hcz7_15
  try clear hcz7_16
  try clear hcz7_17
  try clear hcz7_18
  try clear hcz7_19
  try clear hcz7_2
  try clear hcz7_20
  try clear hcz7_21
  try clear hcz7_22
  try clear hcz7_23
  try clear hcz7_24
  try clear hcz7_3
  try clear hcz7_4
  try clear hcz7_5
  try clear hcz7_6
  try clear hcz7_7
  try clear hcz7_8
  try clear hcz7_9
  try clear hcz8_0
  try clear hcz8_1
  try clear hcz8_10
  try clear hcz8_11
  try clear hcz8_12
  try clear hcz8_13
  try clear hcz8_14
  try clear hcz8_15
  try clear hcz8_16
  try clear hcz8_17
  try clear hcz8_18
  try clear hcz8_19
  try clear hcz8_2
  try clear hcz8_20
  try clear hcz8_21
  try clear hcz8_22
  try clear hcz8_23
  try clear hcz8_24
  try clear hcz8_3
  try clear hcz8_4
  try clear hcz8_5
  try clear hcz8_6
  try clear hcz8_7
  try clear hcz8_8
  try clear hcz8_9
  try clear hfz7_0
  try clear hfz7_1
  try clear hfz7_10
  try clear hfz7_11
  try clear hfz7_12
  try clear hfz7_13
  try clear hfz7_14
  try clear hfz7_15
  try clear hfz7_16
  try clear hfz7_17
  try clear hfz7_18
  try clear hfz7_19
  try clear hfz7_2
  try clear hfz7_20
  try clear hfz7_21
  try clear hfz7_22
  try clear hfz7_23
  try clear hfz7_24
  try clear hfz7_3
  try clear hfz7_4
  try clear hfz7_5
  try clear hfz7_6
  try clear hfz7_7
  try clear hfz7_8
  try clear hfz7_9
  try clear hfz8_0
  try clear hfz8_1
  try clear hfz8_10
  try clear hfz8_11
  try clear hfz8_12
  try clear hfz8_13
  try clear hfz8_14
  try clear hfz8_15
  try clear hfz8_16
  try clear hfz8_17
  try clear hfz8_18
  try clear hfz8_19
  try clear hfz8_2
  try clear hfz8_20
  try clear hfz8_21
  try clear hfz8_22
  try clear hfz8_23
  try clear hfz8_24
  try clear hfz8_3
  try clear hfz8_4
  try clear hfz8_5
  try clear hfz8_6
  try clear hfz8_7
  try clear hfz8_8
  try clear hfz8_9
  obtain ⟨kq, x18_1, rfl, HA, HJ1, BK199, HB⟩ := hcut
  cases kq with
  | zero => exact absurd HA.out (by simp [packet_qualities.j0])
  | succ kj1 =>
   have H := HA.out
   clear HA
   simp only [packet_qualities.j0] at H
   by_cases c9 : x18_1 = true
   ·subst c9
    rw [if_pos rfl] at H
    obtain rfl := Option.some.inj H
    go_wp2
    go_ret
    exact ⟨by first | rfl | (simp [errW_none, errW_some] <;> rfl) | (simp [*, errW_none, errW_some] <;> rfl), by repeat (first | (with_reducible first | exact HB.out | apply below_alloc | apply pw_below_drewN | apply below_drew1 | refine below_set ?_ GE199.out) | exact HB.out)⟩
   ·replace c9 := Bool.eq_false_iff.mpr c9
    subst c9
    rw [if_neg (show ¬ (false = true) by decide)] at H
    have H' := Aside0.mk H
    clear H
    have hcz10_0 : wc.cell? ⟨gb199, 0, none⟩ = some (.int .i64 a0_0) := (blk_cell BK199.out 0).trans rfl
    have hcz10_1 : wc.cell? ⟨gb199, 1, none⟩ = some (.int .i64 a0_1) := (blk_cell BK199.out 1).trans rfl
    have hcz10_2 : wc.cell? ⟨gb199, 2, none⟩ = some (.bool a0_2) := (blk_cell BK199.out 2).trans rfl
    have hcz10_3 : wc.cell? ⟨gb199, 3, none⟩ = some (.int .i64 a0_3) := (blk_cell BK199.out 3).trans rfl
    have hcz10_4 : wc.cell? ⟨gb199, 4, none⟩ = some (.string a0_4) := (blk_cell BK199.out 4).trans rfl
    have hcz10_5 : wc.cell? ⟨gb199, 5, none⟩ = some (.bool a0_5) := (blk_cell BK199.out 5).trans rfl
    have hcz10_6 : wc.cell? ⟨gb199, 6, none⟩ = some (.string a0_6) := (blk_cell BK199.out 6).trans rfl
    have hcz10_7 : wc.cell? ⟨gb199, 7, none⟩ = some (.slice A0_7 l0_7.length c0_7) := (blk_cell BK199.out 7).trans rfl
    have hcz10_8 : wc.cell? ⟨gb199, 8, none⟩ = some (.int .i64 a0_8) := (blk_cell BK199.out 8).trans rfl
    have hcz10_9 : wc.cell? ⟨gb199, 9, none⟩ = some (.bool a0_9) := (blk_cell BK199.out 9).trans rfl
    have hcz10_10 : wc.cell? ⟨gb199, 10, none⟩ = some (.bool a0_10) := (blk_cell BK199.out 10).trans rfl
    have hcz10_11 : wc.cell? ⟨gb199, 11, none⟩ = some (.string a0_11) := (blk_cell BK199.out 11).trans rfl
    have hcz10_12 : wc.cell? ⟨gb199, 12, none⟩ = some (.bool a0_12) := (blk_cell BK199.out 12).trans rfl
    have hcz10_13 : wc.cell? ⟨gb199, 13, none⟩ = some (.slice A0_13 l0_13.length c0_13) := (blk_cell BK199.out 13).trans rfl
    have hcz10_14 : wc.cell? ⟨gb199, 14, none⟩ = some (.bool a0_14) := (blk_cell BK199.out 14).trans rfl
    have hcz10_15 : wc.cell? ⟨gb199, 15, none⟩ = some (.int .i64 a0_15) := (blk_cell BK199.out 15).trans rfl
    have hcz10_16 : wc.cell? ⟨gb199, 16, none⟩ = some (.bool a0_16) := (blk_cell BK199.out 16).trans rfl
    have hcz10_17 : wc.cell? ⟨gb199, 17, none⟩ = some (.string a0_17) := (blk_cell BK199.out 17).trans rfl
    have hcz10_18 : wc.cell? ⟨gb199, 18, none⟩ = some (.slice A0_18 l0_18.length c0_18) := (blk_cell BK199.out 18).trans rfl
    have hcz10_19 : wc.cell? ⟨gb199, 19, none⟩ = some (.int .i64 a0_19) := (blk_cell BK199.out 19).trans rfl
    have hcz10_20 : wc.cell? ⟨gb199, 20, none⟩ = some (.bool a0_20) := (blk_cell BK199.out 20).trans rfl
    have hcz10_21 : wc.cell? ⟨gb199, 21, none⟩ = some (.int .i64 a0_21) := (blk_cell BK199.out 21).trans rfl
    have hcz10_22 : wc.cell? ⟨gb199, 22, none⟩ = some (.slice A0_22 l0_22.length c0_22) := (blk_cell BK199.out 22).trans rfl
    have hcz10_23 : wc.cell? ⟨gb199, 23, none⟩ = some (.slice A0_23 l0_23.length c0_23) := (blk_cell BK199.out 23).trans rfl
    have hcz10_24 : wc.cell? ⟨gb199, 24, none⟩ = some (.slice A0_24 l0_24.length c0_24) := (blk_cell BK199.out 24).trans rfl
    have hfz10_0 := blk_frozen BK199.out 0
    have hfz10_1 := blk_frozen BK199.out 1
    have hfz10_2 := blk_frozen BK199.out 2
    have hfz10_3 := blk_frozen BK199.out 3
    have hfz10_4 := blk_frozen BK199.out 4
    have hfz10_5 := blk_frozen BK199.out 5
    have hfz10_6 := blk_frozen BK199.out 6
    have hfz10_7 := blk_frozen BK199.out 7
    have hfz10_8 := blk_frozen BK199.out 8
    have hfz10_9 := blk_frozen BK199.out 9
    have hfz10_10 := blk_frozen BK199.out 10
    have hfz10_11 := blk_frozen BK199.out 11
    have hfz10_12 := blk_frozen BK199.out 12
    have hfz10_13 := blk_frozen BK199.out 13
    have hfz10_14 := blk_frozen BK199.out 14
    have hfz10_15 := blk_frozen BK199.out 15
    have hfz10_16 := blk_frozen BK199.out 16
    have hfz10_17 := blk_frozen BK199.out 17
    have hfz10_18 := blk_frozen BK199.out 18
    have hfz10_19 := blk_frozen BK199.out 19
    have hfz10_20 := blk_frozen BK199.out 20
    have hfz10_21 := blk_frozen BK199.out 21
    have hfz10_22 := blk_frozen BK199.out 22
    have hfz10_23 := blk_frozen BK199.out 23
    have hfz10_24 := blk_frozen BK199.out 24
    go_wp2
    go_loopg [22] kj1 (fun kq v22 w' => ∃ (x22_2 : Int), v22 = .int .i64 x22_2 ∧ Aside0 (packet_qualities.l0 kq l0_22 (l0_22.length : Int) x22_2 a0_0 a0_1 a0_2 a0_3 a0_4 a0_5 a0_6 l0_7 a0_8 a0_9 a0_10 a0_11 a0_12 l0_13 a0_14 a0_15 a0_16 a0_17 l0_18 a0_19 a0_20 a0_21 l0_22 l0_23 l0_24 = some r) ∧ Aside0 (kq ≤ kj1) ∧ Aside0 (w'.heap[gb199]? = some (.cells #[.int .i64 a0_0, .int .i64 a0_1, .bool a0_2, .int .i64 a0_3, .string a0_4, .bool a0_5, .string a0_6, (.slice A0_7 l0_7.length c0_7), .int .i64 a0_8, .bool a0_9, .bool a0_10, .string a0_11, .bool a0_12, (.slice A0_13 l0_13.length c0_13), .bool a0_14, .int .i64 a0_15, .bool a0_16, .string a0_17, (.slice A0_18 l0_18.length c0_18), .int .i64 a0_19, .bool a0_20, .int .i64 a0_21, (.slice A0_22 l0_22.length c0_22), (.slice A0_23 l0_23.length c0_23), (.slice A0_24 l0_24.length c0_24)] 29 (0, 0))) ∧ Aside0 (Below w.heap.size w w'))
    case atStart => exact ⟨(0), (by first | rfl | (simp; done) | (simp [*]; done)), H', ⟨Nat.le_refl _⟩, ⟨by (with_reducible repeat (first | refine blk_drewN ?_ _ | refine blk_drew ?_ | refine blk_alloc ?_ _)); exact BK199.out⟩, ⟨by repeat (first | (with_reducible first | exact HB.out | apply below_alloc | apply pw_below_drewN | apply below_drew1 | refine below_set ?_ GE199.out) | exact HB.out)⟩⟩
    case round =>
     clear H'
     try clear c1
     try clear p2
     try clear c5
     try clear c9
     try clear c10
     try clear hcz10_0
     try clear hcz10_1
     try clear hcz10_10
     try clear hcz10_11
     try clear hcz10_12
     try clear hcz10_13
     try clear hcz10_14
     try clear hcz10_15
     try clear hcz10_16
     try clear hcz10_17
     try clear hcz10_18
     try clear hcz10_19
     try clear hcz10_2
     try clear hcz10_20
     try clear hcz10_21
     try clear hcz10_22
     try clear hcz10_23
     try clear hcz10_24
     try clear hcz10_3
     try clear hcz10_4
     try clear hcz10_5
     try clear hcz10_6
     try clear hcz10_7
     try clear hcz10_8
     try clear hcz10_9
     try clear hcz7_0
     try clear hcz7_1
     try clear hcz7_10
     try clear hcz7_11
     try clear hcz7_12
     try clear hcz7_13
     try clear hcz7_14
     try clear hcz7_15
     try clear hcz7_16
     try clear hcz7_17
     try clear hcz7_18
     try clear hcz7_19
     try clear hcz7_2
     try clear hcz7_20
     try clear hcz7_21
     try clear hcz7_22
     try clear hcz7_23
     try clear hcz7_24
     try clear hcz7_3
     try clear hcz7_4
     try clear hcz7_5
     try clear hcz7_6
     try clear hcz7_7
     try clear hcz7_8
     try clear hcz7_9
     try clear hcz8_0
     try clear hcz8_1
     try clear hcz8_10
     try clear hcz8_11
     try clear hcz8_12
     try clear hcz8_13
     try clear hcz8_14
     try clear hcz8_15
     try clear hcz8_16
     try clear hcz8_17
     try clear hcz8_18
     try clear hcz8_19
     try clear hcz8_2
     try clear hcz8_20
     try clear hcz8_21
     try clear hcz8_22
     try clear hcz8_23
     try clear hcz8_24
     try clear hcz8_3
     try clear hcz8_4
     try clear hcz8_5
     try clear hcz8_6
     try clear hcz8_7
     try clear hcz8_8
     try clear hcz8_9
     try clear hfz10_0
     try clear hfz10_1
     try clear hfz10_10
     try clear hfz10_11
     try clear hfz10_12
     try clear hfz10_13
     try clear hfz10_14
     try clear hfz10_15
     try clear hfz10_16
     try clear hfz10_17
     try clear hfz10_18
     try clear hfz10_19
     try clear hfz10_2
     try clear hfz10_20
     try clear hfz10_21
     try clear hfz10_22
     try clear hfz10_23
     try clear hfz10_24
     try clear hfz10_3
     try clear hfz10_4
     try clear hfz10_5
     try clear hfz10_6
     try clear hfz10_7
     try clear hfz10_8
     try clear hfz10_9
     try clear hfz7_0
     try clear hfz7_1
     try clear hfz7_10
     try clear hfz7_11
     try clear hfz7_12
     try clear hfz7_13
     try clear hfz7_14
     try clear hfz7_15
     try clear hfz7_16
     try clear hfz7_17
     try clear hfz7_18
     try clear hfz7_19
     try clear hfz7_2
     try clear hfz7_20
     try clear hfz7_21
     try clear hfz7_22
     try clear hfz7_23
     try clear hfz7_24
     try clear hfz7_3
     try clear hfz7_4
     try clear hfz7_5
     try clear hfz7_6
     try clear hfz7_7
     try clear hfz7_8
     try clear hfz7_9
     try clear hfz8_0
     try clear hfz8_1
     try clear hfz8_10
     try clear hfz8_11
     try clear hfz8_12
     try clear hfz8_13
     try clear hfz8_14
     try clear hfz8_15
     try clear hfz8_16
     try clear hfz8_17
     try clear hfz8_18
     try clear hfz8_19
     try clear hfz8_2
     try clear hfz8_20
     try clear hfz8_21
     try clear hfz8_22
     try clear hfz8_23
     try clear hfz8_24
     try clear hfz8_3
     try clear hfz8_4
     try clear hfz8_5
     try clear hfz8_6
     try clear hfz8_7
     try clear hfz8_8
     try clear hfz8_9
     try clear p2
     obtain ⟨x22_2, rfl, HA, HK2, BK199, HB⟩ := hrel
     cases gk with
     | zero => exact absurd HA.out (by simp [packet_qualities.l0])
     | succ k2 =>
      have H := HA.out
      clear HA
      simp only [packet_qualities.l0] at H
      by_cases c11 : x22_2 < (l0_22.length : Int)
      ·rw [if_pos c11] at H
       have c11b0 : decide (x22_2 < (l0_22.length : Int)) = true := decide_eq_true c11
       clear c11
       by_cases c12 : 0 ≤ x22_2
       ·rw [if_pos c12] at H
        have c12b0 : decide (0 ≤ x22_2) = true := decide_eq_true c12
        clear c12
        by_cases c13 : x22_2 < (l0_22.length : Int)
        ·rw [if_pos c13] at H
         have c13b0 : decide (x22_2 < (l0_22.length : Int)) = true := decide_eq_true c13
         clear c13
         replace H := Option.bind_eq_some_iff.mp H
         obtain ⟨t204, A140, H⟩ := H
         try dsimp only at H
         have A14 := Aside0.mk A140
         clear A140
         by_cases c15 : t204 = true
         ·subst c15
          rw [if_pos rfl] at H
          have H' := Aside0.mk H
          clear H
          have p202 : 0 ≤ (x22_2 : Int) := of_decide_eq_true (by first | (with_reducible assumption) | assumption)
          have q202 : x22_2 < (l0_22.length : Int) := of_decide_eq_true (by first | (with_reducible assumption) | assumption)
          obtain ⟨ad202, e202, hx202_0, hx202_1⟩ := at_T82 HR0_22.out x22_2 p202 q202
          cases e202
          replace hx202_0 := (HB.out.cell (World.block_lt_of_cell? w _ hx202_0)).trans hx202_0
          replace hx202_1 := (HB.out.cell (World.block_lt_of_cell? w _ hx202_1)).trans hx202_1
          replace p202 := eq_true p202
          replace q202 := eq_true q202
          go_wp2_with (first | ((with_reducible refine gate_dst (N := 4) rfl ?_); refine box_event ?hg (N := 4) ?hd (cs := #[.string (⟨#[]⟩ : ByteArray), .int .i64 0]) (t := 82) ?hr ?_; (case hd => rfl); (case hg => rfl); (case hr => first | (go_simp; done) | (go_simp; rfl)); intro gb203 hg w16 hbox hb; have n0_ := Aside0.mk (blk_below (g := gb199) (o := .cells #[.int .i64 a0_0, .int .i64 a0_1, .bool a0_2, .int .i64 a0_3, .string a0_4, .bool a0_5, .string a0_6, .slice A0_7 l0_7.length c0_7, .int .i64 a0_8, .bool a0_9, .bool a0_10, .string a0_11, .bool a0_12, .slice A0_13 l0_13.length c0_13, .bool a0_14, .int .i64 a0_15, .bool a0_16, .string a0_17, .slice A0_18 l0_18.length c0_18, .int .i64 a0_19, .bool a0_20, .int .i64 a0_21, .slice (some ad202) l0_22.length c0_22, .slice A0_23 l0_23.length c0_23, .slice A0_24 l0_24.length c0_24] 29 (0, 0)) (by (with_reducible repeat (first | refine blk_drewN ?_ _ | refine blk_drew ?_ | refine blk_alloc ?_ _)); exact BK199.out) hb); have n1_ := Aside0.mk (below_step (by repeat (first | (with_reducible first | exact HB.out | apply below_alloc | apply pw_below_drewN | apply below_drew1 | refine below_set ?_ GE199.out) | exact HB.out)) hb); have n2_ := Aside0.mk (hbox); have n3_ := Aside0.mk ((by rw [hg]; exact (below_size (by repeat (first | (with_reducible first | exact HB.out | apply below_alloc | apply pw_below_drewN | apply below_drew1 | refine below_set ?_ GE199.out) | exact HB.out))) : w.heap.size ≤ gb203)); have n4_ := Aside0.mk ((by rw [hg]; exact (below_size (by repeat (first | (with_reducible first | exact HB.out | apply below_alloc | apply pw_below_drewN | apply below_drew1 | refine below_set ?_ GE199.out) | exact HB.out))) : w.heap.size ≤ gb203)); have n5_ := Aside0.mk ((by rw [hg]; exact Nat.ne_of_lt (blk_lt (g := gb199) (o := .cells #[.int .i64 a0_0, .int .i64 a0_1, .bool a0_2, .int .i64 a0_3, .string a0_4, .bool a0_5, .string a0_6, .slice A0_7 l0_7.length c0_7, .int .i64 a0_8, .bool a0_9, .bool a0_10, .string a0_11, .bool a0_12, .slice A0_13 l0_13.length c0_13, .bool a0_14, .int .i64 a0_15, .bool a0_16, .string a0_17, .slice A0_18 l0_18.length c0_18, .int .i64 a0_19, .bool a0_20, .int .i64 a0_21, .slice (some ad202) l0_22.length c0_22, .slice A0_23 l0_23.length c0_23, .slice A0_24 l0_24.length c0_24] 29 (0, 0)) (by (with_reducible repeat (first | refine blk_drewN ?_ _ | refine blk_drew ?_ | refine blk_alloc ?_ _)); exact BK199.out)) : gb199 ≠ gb203)); have n6_ := Aside0.mk ((by rw [hg]; exact Nat.ne_of_gt (blk_lt (g := gb199) (o := .cells #[.int .i64 a0_0, .int .i64 a0_1, .bool a0_2, .int .i64 a0_3, .string a0_4, .bool a0_5, .string a0_6, .slice A0_7 l0_7.length c0_7, .int .i64 a0_8, .bool a0_9, .bool a0_10, .string a0_11, .bool a0_12, .slice A0_13 l0_13.length c0_13, .bool a0_14, .int .i64 a0_15, .bool a0_16, .string a0_17, .slice A0_18 l0_18.length c0_18, .int .i64 a0_19, .bool a0_20, .int .i64 a0_21, .slice (some ad202) l0_22.length c0_22, .slice A0_23 l0_23.length c0_23, .slice A0_24 l0_24.length c0_24] 29 (0, 0)) (by (with_reducible repeat (first | refine blk_drewN ?_ _ | refine blk_drew ?_ | refine blk_alloc ?_ _)); exact BK199.out)) : gb203 ≠ gb199)); clear BK199; clear HB; have BK199 := n0_; have HB := n1_; have BK203 := n2_; have GW203 := n3_; have GE203 := n4_; have NB199_203 := n5_; have NB203_199 := n6_; clear n0_ n1_ n2_ n3_ n4_ n5_ n6_; clear hb hbox hg; have hnb17 := NB203_199.out; have hnc17 := NB199_203.out; have hcz18_0 : w16.cell? ⟨gb203, 0, none⟩ = some (.string (⟨#[]⟩ : ByteArray)) := (blk_cell BK203.out 0).trans rfl; have hcz18_1 : w16.cell? ⟨gb203, 1, none⟩ = some (.int .i64 0) := (blk_cell BK203.out 1).trans rfl; have hfz18_0 := blk_frozen BK203.out 0; have hfz18_1 := blk_frozen BK203.out 1) | ((with_reducible refine gate_callee (f := 108) rfl ?_); refine goesL_ (some 28) rfl rfl Tryz.func108 (by kernel_rfl) rfl #[.int .i64 ((rd_T82 l0_22 x22_2).f1)] rfl (by (try simp only [List.map_toArray, List.map_cons, List.map_nil]); first | done | rfl | (simp only [List.length_drop, List.length_take]; rfl)) ?_; (with_reducible refine (packet_isQoS.calls ((rd_T82 l0_22 x22_2).f1) true _ A14.out).mono ?_); rintro e w' ⟨rfl, ⟨nd, rfl⟩⟩; refine ⟨_, rfl, ?_⟩))
          go_roundg k2
          case measure => have := HJ1.out; have := HK2.out; omega
          case rel => exact ⟨(wrap64 (x22_2 + 1)), (by first | rfl | (simp; done) | (simp [*]; done)), H', ⟨by have := HJ1.out; have := HK2.out; omega⟩, ⟨by (with_reducible repeat (first | refine blk_drewN ?_ _ | refine blk_drew ?_ | refine blk_alloc ?_ _)); refine blk_far ?_ NB199_203.out _; (with_reducible repeat (first | refine blk_drewN ?_ _ | refine blk_drew ?_ | refine blk_alloc ?_ _)); refine blk_far ?_ NB199_203.out _; (with_reducible repeat (first | refine blk_drewN ?_ _ | refine blk_drew ?_ | refine blk_alloc ?_ _)); exact BK199.out⟩, ⟨by repeat (first | (with_reducible first | exact HB.out | apply below_alloc | apply pw_below_drewN | apply below_drew1 | refine below_set ?_ GE199.out | refine below_set ?_ GE203.out) | exact HB.out)⟩⟩
         ·replace c15 := Bool.eq_false_iff.mpr c15
          subst c15
          rw [if_neg (show ¬ (false = true) by decide)] at H
          obtain rfl := Option.some.inj H
          have p202 : 0 ≤ (x22_2 : Int) := of_decide_eq_true (by first | (with_reducible assumption) | assumption)
          have q202 : x22_2 < (l0_22.length : Int) := of_decide_eq_true (by first | (with_reducible assumption) | assumption)
          obtain ⟨ad202, e202, hx202_0, hx202_1⟩ := at_T82 HR0_22.out x22_2 p202 q202
          cases e202
          replace hx202_0 := (HB.out.cell (World.block_lt_of_cell? w _ hx202_0)).trans hx202_0
          replace hx202_1 := (HB.out.cell (World.block_lt_of_cell? w _ hx202_1)).trans hx202_1
          replace p202 := eq_true p202
          replace q202 := eq_true q202
          go_wp2_with (first | ((with_reducible refine gate_dst (N := 4) rfl ?_); refine box_event ?hg (N := 4) ?hd (cs := #[.string (⟨#[]⟩ : ByteArray), .int .i64 0]) (t := 82) ?hr ?_; (case hd => rfl); (case hg => rfl); (case hr => first | (go_simp; done) | (go_simp; rfl)); intro gb203 hg w19 hbox hb; have n0_ := Aside0.mk (blk_below (g := gb199) (o := .cells #[.int .i64 a0_0, .int .i64 a0_1, .bool a0_2, .int .i64 a0_3, .string a0_4, .bool a0_5, .string a0_6, .slice A0_7 l0_7.length c0_7, .int .i64 a0_8, .bool a0_9, .bool a0_10, .string a0_11, .bool a0_12, .slice A0_13 l0_13.length c0_13, .bool a0_14, .int .i64 a0_15, .bool a0_16, .string a0_17, .slice A0_18 l0_18.length c0_18, .int .i64 a0_19, .bool a0_20, .int .i64 a0_21, .slice (some ad202) l0_22.length c0_22, .slice A0_23 l0_23.length c0_23, .slice A0_24 l0_24.length c0_24] 29 (0, 0)) (by (with_reducible repeat (first | refine blk_drewN ?_ _ | refine blk_drew ?_ | refine blk_alloc ?_ _)); exact BK199.out) hb); have n1_ := Aside0.mk (below_step (by repeat (first | (with_reducible first | exact HB.out | apply below_alloc | apply pw_below_drewN | apply below_drew1 | refine below_set ?_ GE199.out) | exact HB.out)) hb); have n2_ := Aside0.mk (hbox); have n3_ := Aside0.mk ((by rw [hg]; exact (below_size (by repeat (first | (with_reducible first | exact HB.out | apply below_alloc | apply pw_below_drewN | apply below_drew1 | refine below_set ?_ GE199.out) | exact HB.out))) : w.heap.size ≤ gb203)); have n4_ := Aside0.mk ((by rw [hg]; exact (below_size (by repeat (first | (with_reducible first | exact HB.out | apply below_alloc | apply pw_below_drewN | apply below_drew1 | refine below_set ?_ GE199.out) | exact HB.out))) : w.heap.size ≤ gb203)); have n5_ := Aside0.mk ((by rw [hg]; exact Nat.ne_of_lt (blk_lt (g := gb199) (o := .cells #[.int .i64 a0_0, .int .i64 a0_1, .bool a0_2, .int .i64 a0_3, .string a0_4, .bool a0_5, .string a0_6, .slice A0_7 l0_7.length c0_7, .int .i64 a0_8, .bool a0_9, .bool a0_10, .string a0_11, .bool a0_12, .slice A0_13 l0_13.length c0_13, .bool a0_14, .int .i64 a0_15, .bool a0_16, .string a0_17, .slice A0_18 l0_18.length c0_18, .int .i64 a0_19, .bool a0_20, .int .i64 a0_21, .slice (some ad202) l0_22.length c0_22, .slice A0_23 l0_23.length c0_23, .slice A0_24 l0_24.length c0_24] 29 (0, 0)) (by (with_reducible repeat (first | refine blk_drewN ?_ _ | refine blk_drew ?_ | refine blk_alloc ?_ _)); exact BK199.out)) : gb199 ≠ gb203)); have n6_ := Aside0.mk ((by rw [hg]; exact Nat.ne_of_gt (blk_lt (g := gb199) (o := .cells #[.int .i64 a0_0, .int .i64 a0_1, .bool a0_2, .int .i64 a0_3, .string a0_4, .bool a0_5, .string a0_6, .slice A0_7 l0_7.length c0_7, .int .i64 a0_8, .bool a0_9, .bool a0_10, .string a0_11, .bool a0_12, .slice A0_13 l0_13.length c0_13, .bool a0_14, .int .i64 a0_15, .bool a0_16, .string a0_17, .slice A0_18 l0_18.length c0_18, .int .i64 a0_19, .bool a0_20, .int .i64 a0_21, .slice (some ad202) l0_22.length c0_22, .slice A0_23 l0_23.length c0_23, .slice A0_24 l0_24.length c0_24] 29 (0, 0)) (by (with_reducible repeat (first | refine blk_drewN ?_ _ | refine blk_drew ?_ | refine blk_alloc ?_ _)); exact BK199.out)) : gb203 ≠ gb199)); clear BK199; clear HB; have BK199 := n0_; have HB := n1_; have BK203 := n2_; have GW203 := n3_; have GE203 := n4_; have NB199_203 := n5_; have NB203_199 := n6_; clear n0_ n1_ n2_ n3_ n4_ n5_ n6_; clear hb hbox hg; have hnb20 := NB203_199.out; have hnc20 := NB199_203.out; have hcz21_0 : w19.cell? ⟨gb203, 0, none⟩ = some (.string (⟨#[]⟩ : ByteArray)) := (blk_cell BK203.out 0).trans rfl; have hcz21_1 : w19.cell? ⟨gb203, 1, none⟩ = some (.int .i64 0) := (blk_cell BK203.out 1).trans rfl; have hfz21_0 := blk_frozen BK203.out 0; have hfz21_1 := blk_frozen BK203.out 1) | ((with_reducible refine gate_callee (f := 108) rfl ?_); refine goesL_ (some 28) rfl rfl Tryz.func108 (by kernel_rfl) rfl #[.int .i64 ((rd_T82 l0_22 x22_2).f1)] rfl (by (try simp only [List.map_toArray, List.map_cons, List.map_nil]); first | done | rfl | (simp only [List.length_drop, List.length_take]; rfl)) ?_; (with_reducible refine (packet_isQoS.calls ((rd_T82 l0_22 x22_2).f1) false _ A14.out).mono ?_); rintro e w' ⟨rfl, ⟨nd, rfl⟩⟩; refine ⟨_, rfl, ?_⟩))
          go_ret
          exact ⟨by first | rfl | (simp [errW_none, errW_some] <;> rfl) | (simp [*, errW_none, errW_some] <;> rfl), by repeat (first | (with_reducible first | exact HB.out | apply below_alloc | apply pw_below_drewN | apply below_drew1 | refine below_set ?_ GE199.out | refine below_set ?_ GE203.out) | exact HB.out)⟩
        ·rw [if_neg c13] at H
         exact absurd H (by simp)
       ·rw [if_neg c12] at H
        exact absurd H (by simp)
      ·rw [if_neg c11] at H
       have c11b0 : decide (x22_2 < (l0_22.length : Int)) = false := decide_eq_false c11
       clear c11
       have H' := Aside0.mk H
       clear H
       have hcz22_0 : wr.cell? ⟨gb199, 0, none⟩ = some (.int .i64 a0_0) := (blk_cell BK199.out 0).trans rfl
       have hcz22_1 : wr.cell? ⟨gb199, 1, none⟩ = some (.int .i64 a0_1) := (blk_cell BK199.out 1).trans rfl
       have hcz22_2 : wr.cell? ⟨gb199, 2, none⟩ = some (.bool a0_2) := (blk_cell BK199.out 2).trans rfl
       have hcz22_3 : wr.cell? ⟨gb199, 3, none⟩ = some (.int .i64 a0_3) := (blk_cell BK199.out 3).trans rfl
       have hcz22_4 : wr.cell? ⟨gb199, 4, none⟩ = some (.string a0_4) := (blk_cell BK199.out 4).trans rfl
       have hcz22_5 : wr.cell? ⟨gb199, 5, none⟩ = some (.bool a0_5) := (blk_cell BK199.out 5).trans rfl
       have hcz22_6 : wr.cell? ⟨gb199, 6, none⟩ = some (.string a0_6) := (blk_cell BK199.out 6).trans rfl
       have hcz22_7 : wr.cell? ⟨gb199, 7, none⟩ = some (.slice A0_7 l0_7.length c0_7) := (blk_cell BK199.out 7).trans rfl
       have hcz22_8 : wr.cell? ⟨gb199, 8, none⟩ = some (.int .i64 a0_8) := (blk_cell BK199.out 8).trans rfl
       have hcz22_9 : wr.cell? ⟨gb199, 9, none⟩ = some (.bool a0_9) := (blk_cell BK199.out 9).trans rfl
       have hcz22_10 : wr.cell? ⟨gb199, 10, none⟩ = some (.bool a0_10) := (blk_cell BK199.out 10).trans rfl
       have hcz22_11 : wr.cell? ⟨gb199, 11, none⟩ = some (.string a0_11) := (blk_cell BK199.out 11).trans rfl
       have hcz22_12 : wr.cell? ⟨gb199, 12, none⟩ = some (.bool a0_12) := (blk_cell BK199.out 12).trans rfl
       have hcz22_13 : wr.cell? ⟨gb199, 13, none⟩ = some (.slice A0_13 l0_13.length c0_13) := (blk_cell BK199.out 13).trans rfl
       have hcz22_14 : wr.cell? ⟨gb199, 14, none⟩ = some (.bool a0_14) := (blk_cell BK199.out 14).trans rfl
       have hcz22_15 : wr.cell? ⟨gb199, 15, none⟩ = some (.int .i64 a0_15) := (blk_cell BK199.out 15).trans rfl
       have hcz22_16 : wr.cell? ⟨gb199, 16, none⟩ = some (.bool a0_16) := (blk_cell BK199.out 16).trans rfl
       have hcz22_17 : wr.cell? ⟨gb199, 17, none⟩ = some (.string a0_17) := (blk_cell BK199.out 17).trans rfl
       have hcz22_18 : wr.cell? ⟨gb199, 18, none⟩ = some (.slice A0_18 l0_18.length c0_18) := (blk_cell BK199.out 18).trans rfl
       have hcz22_19 : wr.cell? ⟨gb199, 19, none⟩ = some (.int .i64 a0_19) := (blk_cell BK199.out 19).trans rfl
       have hcz22_20 : wr.cell? ⟨gb199, 20, none⟩ = some (.bool a0_20) := (blk_cell BK199.out 20).trans rfl
       have hcz22_21 : wr.cell? ⟨gb199, 21, none⟩ = some (.int .i64 a0_21) := (blk_cell BK199.out 21).trans rfl
       have hcz22_22 : wr.cell? ⟨gb199, 22, none⟩ = some (.slice A0_22 l0_22.length c0_22) := (blk_cell BK199.out 22).trans rfl
       have hcz22_23 : wr.cell? ⟨gb199, 23, none⟩ = some (.slice A0_23 l0_23.length c0_23) := (blk_cell BK199.out 23).trans rfl
       have hcz22_24 : wr.cell? ⟨gb199, 24, none⟩ = some (.slice A0_24 l0_24.length c0_24) := (blk_cell BK199.out 24).trans rfl
       have hfz22_0 := blk_frozen BK199.out 0
       have hfz22_1 := blk_frozen BK199.out 1
       have hfz22_2 := blk_frozen BK199.out 2
       have hfz22_3 := blk_frozen BK199.out 3
       have hfz22_4 := blk_frozen BK199.out 4
       have hfz22_5 := blk_frozen BK199.out 5
       have hfz22_6 := blk_frozen BK199.out 6
       have hfz22_7 := blk_frozen BK199.out 7
       have hfz22_8 := blk_frozen BK199.out 8
       have hfz22_9 := blk_frozen BK199.out 9
       have hfz22_10 := blk_frozen BK199.out 10
       have hfz22_11 := blk_frozen BK199.out 11
       have hfz22_12 := blk_frozen BK199.out 12
       have hfz22_13 := blk_frozen BK199.out 13
       have hfz22_14 := blk_frozen BK199.out 14
       have hfz22_15 := blk_frozen BK199.out 15
       have hfz22_16 := blk_frozen BK199.out 16
       have hfz22_17 := blk_frozen BK199.out 17
       have hfz22_18 := blk_frozen BK199.out 18
       have hfz22_19 := blk_frozen BK199.out 19
       have hfz22_20 := blk_frozen BK199.out 20
       have hfz22_21 := blk_frozen BK199.out 21
       have hfz22_22 := blk_frozen BK199.out 22
       have hfz22_23 := blk_frozen BK199.out 23
       have hfz22_24 := blk_frozen BK199.out 24
       go_wp2
       go_loopg [34] k2 (fun kq v34 w' => ∃ (x34_3 : Int), v34 = .int .i64 x34_3 ∧ Aside0 (packet_qualities.l1 kq l0_23 (l0_23.length : Int) x34_3 = some r) ∧ Aside0 (kq ≤ k2) ∧ Aside0 (w'.heap[gb199]? = some (.cells #[.int .i64 a0_0, .int .i64 a0_1, .bool a0_2, .int .i64 a0_3, .string a0_4, .bool a0_5, .string a0_6, (.slice A0_7 l0_7.length c0_7), .int .i64 a0_8, .bool a0_9, .bool a0_10, .string a0_11, .bool a0_12, (.slice A0_13 l0_13.length c0_13), .bool a0_14, .int .i64 a0_15, .bool a0_16, .string a0_17, (.slice A0_18 l0_18.length c0_18), .int .i64 a0_19, .bool a0_20, .int .i64 a0_21, (.slice A0_22 l0_22.length c0_22), (.slice A0_23 l0_23.length c0_23), (.slice A0_24 l0_24.length c0_24)] 29 (0, 0))) ∧ Aside0 (Below w.heap.size w w'))
       case atStart => exact ⟨(0), (by first | rfl | (simp; done) | (simp [*]; done)), H', ⟨Nat.le_refl _⟩, ⟨by (with_reducible repeat (first | refine blk_drewN ?_ _ | refine blk_drew ?_ | refine blk_alloc ?_ _)); exact BK199.out⟩, ⟨by repeat (first | (with_reducible first | exact HB.out | apply below_alloc | apply pw_below_drewN | apply below_drew1 | refine below_set ?_ GE199.out) | exact HB.out)⟩⟩
       case round =>
        clear H'
        try clear c1
        try clear c2
        try clear p2
        try clear q2
        try clear hx2
        try clear c5
        try clear p6
        try clear c9
        try clear c10
        try clear c11
        try clear c11b0
        try clear c12
        try clear c12b0
        try clear c13
        try clear c13b0
        try clear c15
        try clear c17
        try clear c20
        try clear p20
        try clear q20
        try clear hx20
        try clear hcz10_0
        try clear hcz10_1
        try clear hcz10_10
        try clear hcz10_11
        try clear hcz10_12
        try clear hcz10_13
        try clear hcz10_14
        try clear hcz10_15
        try clear hcz10_16
        try clear hcz10_17
        try clear hcz10_18
        try clear hcz10_19
        try clear hcz10_2
        try clear hcz10_20
        try clear hcz10_21
        try clear hcz10_22
        try clear hcz10_23
        try clear hcz10_24
        try clear hcz10_3
        try clear hcz10_4
        try clear hcz10_5
        try clear hcz10_6
        try clear hcz10_7
        try clear hcz10_8
        try clear hcz10_9
        try clear hcz18_0
        try clear hcz18_1
        try clear hcz21_0
        try clear hcz21_1
        try clear hcz22_0
        try clear hcz22_1
        try clear hcz22_10
        try clear hcz22_11
        try clear hcz22_12
        try clear hcz22_13
        try clear hcz22_14
        try clear hcz22_15
        try clear hcz22_16
        try clear hcz22_17
        try clear hcz22_18
        try clear hcz22_19
        try clear hcz22_2
        try clear hcz22_20
        try clear hcz22_21
        try clear hcz22_22
        try clear hcz22_23
        try clear hcz22_24
        try clear hcz22_3
        try clear hcz22_4
        try clear hcz22_5
        try clear hcz22_6
        try clear hcz22_7
        try clear hcz22_8
        try clear hcz22_9
        try clear hcz7_0
        try clear hcz7_1
        try clear hcz7_10
        try clear hcz7_11
        try clear hcz7_12
        try clear hcz7_13
        try clear hcz7_14
        try clear hcz7_15
        try clear hcz7_16
        try clear hcz7_17
        try clear hcz7_18
        try clear hcz7_19
        try clear hcz7_2
        try clear hcz7_20
        try clear hcz7_21
        try clear hcz7_22
        try clear hcz7_23
        try clear hcz7_24
        try clear hcz7_3
        try clear hcz7_4
        try clear hcz7_5
        try clear hcz7_6
        try clear hcz7_7
        try clear hcz7_8
        try clear hcz7_9
        try clear hcz8_0
        try clear hcz8_1
        try clear hcz8_10
        try clear hcz8_11
        try clear hcz8_12
        try clear hcz8_13
        try clear hcz8_14
        try clear hcz8_15
        try clear hcz8_16
        try clear hcz8_17
        try clear hcz8_18
        try clear hcz8_19
        try clear hcz8_2
        try clear hcz8_20
        try clear hcz8_21
        try clear hcz8_22
        try clear hcz8_23
        try clear hcz8_24
        try clear hcz8_3
        try clear hcz8_4
        try clear hcz8_5
        try clear hcz8_6
        try clear hcz8_7
        try clear hcz8_8
        try clear hcz8_9
        try clear hfz10_0
        try clear hfz10_1
        try clear hfz10_10
        try clear hfz10_11
        try clear hfz10_12
        try clear hfz10_13
        try clear hfz10_14
        try clear hfz10_15
        try clear hfz10_16
        try clear hfz10_17
        try clear hfz10_18
        try clear hfz10_19
        try clear hfz10_2
        try clear hfz10_20
        try clear hfz10_21
        try clear hfz10_22
        try clear hfz10_23
        try clear hfz10_24
        try clear hfz10_3
        try clear hfz10_4
        try clear hfz10_5
        try clear hfz10_6
        try clear hfz10_7
        try clear hfz10_8
        try clear hfz10_9
        try clear hfz18_0
        try clear hfz18_1
        try clear hfz21_0
        try clear hfz21_1
        try clear hfz22_0
        try clear hfz22_1
        try clear hfz22_10
        try clear hfz22_11
        try clear hfz22_12
        try clear hfz22_13
        try clear hfz22_14
        try clear hfz22_15
        try clear hfz22_16
        try clear hfz22_17
        try clear hfz22_18
        try clear hfz22_19
        try clear hfz22_2
        try clear hfz22_20
        try clear hfz22_21
        try clear hfz22_22
        try clear hfz22_23
        try clear hfz22_24
        try clear hfz22_3
        try clear hfz22_4
        try clear hfz22_5
        try clear hfz22_6
        try clear hfz22_7
        try clear hfz22_8
        try clear hfz22_9
        try clear hfz7_0
        try clear hfz7_1
        try clear hfz7_10
        try clear hfz7_11
        try clear hfz7_12
        try clear hfz7_13
        try clear hfz7_14
        try clear hfz7_15
        try clear hfz7_16
        try clear hfz7_17
        try clear hfz7_18
        try clear hfz7_19
        try clear hfz7_2
        try clear hfz7_20
        try clear hfz7_21
        try clear hfz7_22
        try clear hfz7_23
        try clear hfz7_24
        try clear hfz7_3
        try clear hfz7_4
        try clear hfz7_5
        try clear hfz7_6
        try clear hfz7_7
        try clear hfz7_8
        try clear hfz7_9
        try clear hfz8_0
        try clear hfz8_1
        try clear hfz8_10
        try clear hfz8_11
        try clear hfz8_12
        try clear hfz8_13
        try clear hfz8_14
        try clear hfz8_15
        try clear hfz8_16
        try clear hfz8_17
        try clear hfz8_18
        try clear hfz8_19
        try clear hfz8_2
        try clear hfz8_20
        try clear hfz8_21
        try clear hfz8_22
        try clear hfz8_23
        try clear hfz8_24
        try clear hfz8_3
        try clear hfz8_4
        try clear hfz8_5
        try clear hfz8_6
        try clear hfz8_7
        try clear hfz8_8
        try clear hfz8_9
        try clear hx202_0
        try clear hx202_1
        try clear p2
        try clear p202
        try clear q202
        obtain ⟨x34_3, rfl, HA, HK3, BK199, HB⟩ := hrel
        cases gk with
        | zero => exact absurd HA.out (by simp [packet_qualities.l1])
        | succ k3 =>
         have H := HA.out
         clear HA
         simp only [packet_qualities.l1] at H
         by_cases c23 : x34_3 < (l0_23.length : Int)
         ·rw [if_pos c23] at H
          have c23b0 : decide (x34_3 < (l0_23.length : Int)) = true := decide_eq_true c23
          clear c23
          by_cases c24 : 0 ≤ x34_3
          ·rw [if_pos c24] at H
           have c24b0 : decide (0 ≤ x34_3) = true := decide_eq_true c24
           clear c24
           by_cases c25 : x34_3 < (l0_23.length : Int)
           ·rw [if_pos c25] at H
            have c25b0 : decide (x34_3 < (l0_23.length : Int)) = true := decide_eq_true c25
            clear c25
            replace H := Option.bind_eq_some_iff.mp H
            obtain ⟨t206, A260, H⟩ := H
            try dsimp only at H
            have A26 := Aside0.mk A260
            clear A260
            by_cases c27 : t206 = true
            ·subst c27
             rw [if_pos rfl] at H
             have H' := Aside0.mk H
             clear H
             have p205 : 0 ≤ (x34_3 : Int) := of_decide_eq_true (by first | (with_reducible assumption) | assumption)
             have q205 : x34_3 < (l0_23.length : Int) := of_decide_eq_true (by first | (with_reducible assumption) | assumption)
             obtain ⟨ad205, e205, hx205_0⟩ := Kd.at_int HR0_23.out x34_3 p205 q205
             cases e205
             replace hx205_0 := (HB.out.cell (World.block_lt_of_cell? w _ hx205_0)).trans hx205_0
             replace p205 := eq_true p205
             replace q205 := eq_true q205
             go_wp2_with (first | ((with_reducible refine gate_callee (f := 108) rfl ?_); refine goesL_ (some 39) rfl rfl Tryz.func108 (by kernel_rfl) rfl #[.int .i64 (rd l0_23 x34_3)] rfl (by (try simp only [List.map_toArray, List.map_cons, List.map_nil]); first | done | rfl | (simp only [List.length_drop, List.length_take]; rfl)) ?_; (with_reducible refine (packet_isQoS.calls (rd l0_23 x34_3) true _ A26.out).mono ?_); rintro e w' ⟨rfl, ⟨nd, rfl⟩⟩; refine ⟨_, rfl, ?_⟩))
             go_roundg k3
             case measure => have := HJ1.out; have := HK2.out; have := HK3.out; omega
             case rel => exact ⟨(wrap64 (x34_3 + 1)), (by first | rfl | (simp; done) | (simp [*]; done)), H', ⟨by have := HJ1.out; have := HK2.out; have := HK3.out; omega⟩, ⟨by (with_reducible repeat (first | refine blk_drewN ?_ _ | refine blk_drew ?_ | refine blk_alloc ?_ _)); exact BK199.out⟩, ⟨by repeat (first | (with_reducible first | exact HB.out | apply below_alloc | apply pw_below_drewN | apply below_drew1 | refine below_set ?_ GE199.out) | exact HB.out)⟩⟩
            ·replace c27 := Bool.eq_false_iff.mpr c27
             subst c27
             rw [if_neg (show ¬ (false = true) by decide)] at H
             by_cases c28 : (rd l0_23 x34_3) = 128
             ·rw [if_pos c28] at H
              have c28b0 : ((rd l0_23 x34_3) == 128) = true := beq_iff_eq.mpr c28
              have c28b1 : ((rd l0_23 x34_3) != 128) = false := bne_eq_false_iff_eq.mpr c28
              clear c28
              have H' := Aside0.mk H
              clear H
              have p205 : 0 ≤ (x34_3 : Int) := of_decide_eq_true (by first | (with_reducible assumption) | assumption)
              have q205 : x34_3 < (l0_23.length : Int) := of_decide_eq_true (by first | (with_reducible assumption) | assumption)
              obtain ⟨ad205, e205, hx205_0⟩ := Kd.at_int HR0_23.out x34_3 p205 q205
              cases e205
              replace hx205_0 := (HB.out.cell (World.block_lt_of_cell? w _ hx205_0)).trans hx205_0
              replace p205 := eq_true p205
              replace q205 := eq_true q205
              go_wp2_with (first | ((with_reducible refine gate_callee (f := 108) rfl ?_); refine goesL_ (some 39) rfl rfl Tryz.func108 (by kernel_rfl) rfl #[.int .i64 (rd l0_23 x34_3)] rfl (by (try simp only [List.map_toArray, List.map_cons, List.map_nil]); first | done | rfl | (simp only [List.length_drop, List.length_take]; rfl)) ?_; (with_reducible refine (packet_isQoS.calls (rd l0_23 x34_3) false _ A26.out).mono ?_); rintro e w' ⟨rfl, ⟨nd, rfl⟩⟩; refine ⟨_, rfl, ?_⟩))
              go_roundg k3
              case measure => have := HJ1.out; have := HK2.out; have := HK3.out; omega
              case rel => exact ⟨(wrap64 (x34_3 + 1)), (by first | rfl | (simp; done) | (simp [*]; done)), H', ⟨by have := HJ1.out; have := HK2.out; have := HK3.out; omega⟩, ⟨by (with_reducible repeat (first | refine blk_drewN ?_ _ | refine blk_drew ?_ | refine blk_alloc ?_ _)); exact BK199.out⟩, ⟨by repeat (first | (with_reducible first | exact HB.out | apply below_alloc | apply pw_below_drewN | apply below_drew1 | refine below_set ?_ GE199.out) | exact HB.out)⟩⟩
             ·rw [if_neg c28] at H
              have c28b0 : ((rd l0_23 x34_3) == 128) = false := beq_eq_false_iff_ne.mpr c28
              have c28b1 : ((rd l0_23 x34_3) != 128) = true := bne_iff_ne.mpr c28
              obtain rfl := Option.some.inj H
              have p205 : 0 ≤ (x34_3 : Int) := of_decide_eq_true (by first | (with_reducible assumption) | assumption)
              have q205 : x34_3 < (l0_23.length : Int) := of_decide_eq_true (by first | (with_reducible assumption) | assumption)
              obtain ⟨ad205, e205, hx205_0⟩ := Kd.at_int HR0_23.out x34_3 p205 q205
              cases e205
              replace hx205_0 := (HB.out.cell (World.block_lt_of_cell? w _ hx205_0)).trans hx205_0
              replace p205 := eq_true p205
              replace q205 := eq_true q205
              go_wp2_with (first | ((with_reducible refine gate_callee (f := 108) rfl ?_); refine goesL_ (some 39) rfl rfl Tryz.func108 (by kernel_rfl) rfl #[.int .i64 (rd l0_23 x34_3)] rfl (by (try simp only [List.map_toArray, List.map_cons, List.map_nil]); first | done | rfl | (simp only [List.length_drop, List.length_take]; rfl)) ?_; (with_reducible refine (packet_isQoS.calls (rd l0_23 x34_3) false _ A26.out).mono ?_); rintro e w' ⟨rfl, ⟨nd, rfl⟩⟩; refine ⟨_, rfl, ?_⟩))
              go_ret
              exact ⟨by first | rfl | (simp [errW_none, errW_some] <;> rfl) | (simp [*, errW_none, errW_some] <;> rfl), by repeat (first | (with_reducible first | exact HB.out | apply below_alloc | apply pw_below_drewN | apply below_drew1 | refine below_set ?_ GE199.out) | exact HB.out)⟩
           ·rw [if_neg c25] at H
            exact absurd H (by simp)
          ·rw [if_neg c24] at H
           exact absurd H (by simp)
         ·rw [if_neg c23] at H
          have c23b0 : decide (x34_3 < (l0_23.length : Int)) = false := decide_eq_false c23
          clear c23
          obtain rfl := Option.some.inj H
          go_wp2
          go_ret
          exact ⟨by first | rfl | (simp [errW_none, errW_some] <;> rfl) | (simp [*, errW_none, errW_some] <;> rfl), by repeat (first | (with_reducible first | exact HB.out | apply below_alloc | apply pw_below_drewN | apply below_drew1 | refine below_set ?_ GE199.out) | exact HB.out)⟩

end Go.Proofs.YtndhkgfeknkfdaaGreatDoor.MPacketChecks
