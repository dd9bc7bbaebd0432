/- crierlaw2.known: the chapter's examples hold. -/
import Derived.Test.YtipliohgnaoblaaDoorCnt
namespace Go.Proofs.YtipliohgnaoblaaDoor.Pk
open Go.RowKit Go.Proofs.YtipliohgnaoblaaDoor.Giv Go.Proofs.YtipliohgnaoblaaDoorW.PrintWords Go.Proofs.YtipliohgnaoblaaDoorW.PrintLast Go.Proofs.YtipliohgnaoblaaDoorW.PrintMore Go.Proofs.YtipliohgnaoblaaDoor.MPacketStays
set_option linter.unusedVariables false
set_option linter.unusedSimpArgs false
set_option maxHeartbeats 8000000
set_option maxRecDepth 100000
theorem rd_nil (w : World) {A18 : Option Addr} {c18 : Nat} {l18 : List Int} (h : (Kd.int .u8).C w A18 l18.length l18) (hc : l18.length ≤ c18) : Rd w none 0 [] none 0 [] A18 c18 l18 none 0 [] none 0 [] none 0 [] :=
  ⟨Kd.C_nil _ _, Nat.le_refl _, Kd.C_nil _ _, Nat.le_refl _, h, hc, Kd.C_nil _ _, Nat.le_refl _, Kd.C_nil _ _, Nat.le_refl _, Kd.C_nil _ _, Nat.le_refl _⟩
def p1 : P := ⟨3, 0, false, 0, ⟨#[]⟩, false, ⟨#[]⟩, [], 0, false, false, ⟨#[]⟩, false, [], false, 0, false, ⟨#[97]⟩, [1, 2, 3], 1, false, 7, [], [], []⟩
def p2 : P := ⟨3, 0, false, 0, ⟨#[]⟩, false, ⟨#[]⟩, [], 0, false, false, ⟨#[]⟩, false, [], false, 0, false, ⟨#[97]⟩, [1, 2, 3], 1, false, 0, [], [], []⟩
def p3 : P := ⟨1, 4, true, 60, ⟨#[99]⟩, false, ⟨#[]⟩, [], 0, false, false, ⟨#[]⟩, false, [], false, 0, false, ⟨#[]⟩, [], 0, false, 0, [], [], []⟩
def p4 : P := ⟨8, 0, false, 0, ⟨#[]⟩, false, ⟨#[]⟩, [], 0, false, false, ⟨#[]⟩, false, [], false, 0, false, ⟨#[]⟩, [], 0, false, 1, [], [], []⟩
theorem p1_check : p1.check = 0 := by decide +kernel
theorem p2_check : p2.check = 26 := by decide +kernel
theorem p3_check : p3.check = 0 := by decide +kernel
theorem p4_check : p4.check = 28 := by decide +kernel
theorem p1_flags : p1.flags = 2 := by decide +kernel
theorem p1_length : p1.length = 8 := by decide +kernel
theorem p3_length : p3.length = 13 := by decide +kernel
theorem s1 : p1.sum ≤ 4294967280 := by decide +kernel
theorem s2 : p2.sum ≤ 4294967280 := by decide +kernel
theorem s3 : p3.sum ≤ 4294967280 := by decide +kernel
theorem s4 : p4.sum ≤ 4294967280 := by decide +kernel
theorem k1 (A : Option Addr) (c : Nat) (w : World) (hT : HasT w) (h : (Kd.int .u8).C w A 3 [1, 2, 3]) (hc : 3 ≤ c) : Calls Tryd.prog 9 #[.agg #[.int .i64 (3), .int .i64 (0), .bool false, .int .i64 (0), .string ⟨#[]⟩, .bool false, .string ⟨#[]⟩, .slice none 0 0, .int .i64 (0), .bool false, .bool false, .string ⟨#[]⟩, .bool false, .slice none 0 0, .bool false, .int .i64 (0), .bool false, .string ⟨#[97]⟩, .slice A 3 c, .int .i64 (1), .bool false, .int .i64 (7), .slice none 0 0, .slice none 0 0, .slice none 0 0]] w fun e w' => e = .returned (.int .i64 (0)) ∧ Below w.heap.size w w' := by
  refine (Check_P (3) (0) (false) (0) (⟨#[]⟩) (false) (⟨#[]⟩) (none) 0 ([]) (0) (false) (false) (⟨#[]⟩) (false) (none) 0 ([]) (false) (0) (false) (⟨#[97]⟩) (A) c ([1, 2, 3]) (1) (false) (7) (none) 0 ([]) (none) 0 ([]) (none) 0 ([]) w hT (rd_nil w (l18 := [1, 2, 3]) h hc) s1).mono ?_
  rintro e w' ⟨rfl, hb⟩
  exact ⟨congrArg (fun x => Ending.returned (.int .i64 x)) p1_check, hb⟩
theorem k2 (A : Option Addr) (c : Nat) (w : World) (hT : HasT w) (hT2 : Kin.FlagsT w) (h : (Kd.int .u8).C w A 3 [1, 2, 3]) (hc : 3 ≤ c) : Calls Tryd.prog 12 #[.agg #[.int .i64 (3), .int .i64 (0), .bool false, .int .i64 (0), .string ⟨#[]⟩, .bool false, .string ⟨#[]⟩, .slice none 0 0, .int .i64 (0), .bool false, .bool false, .string ⟨#[]⟩, .bool false, .slice none 0 0, .bool false, .int .i64 (0), .bool false, .string ⟨#[97]⟩, .slice A 3 c, .int .i64 (1), .bool false, .int .i64 (7), .slice none 0 0, .slice none 0 0, .slice none 0 0]] w fun e w' => e = .returned (.int .i64 (2)) ∧ Below w.heap.size w w' := by
  refine (Flags_P (3) (0) (false) (0) (⟨#[]⟩) (false) (⟨#[]⟩) (none) 0 ([]) (0) (false) (false) (⟨#[]⟩) (false) (none) 0 ([]) (false) (0) (false) (⟨#[97]⟩) (A) c ([1, 2, 3]) (1) (false) (7) (none) 0 ([]) (none) 0 ([]) (none) 0 ([]) w hT hT2 (rd_nil w (l18 := [1, 2, 3]) h hc) s1).mono ?_
  rintro e w' ⟨rfl, hb⟩
  exact ⟨congrArg (fun x => Ending.returned (.int .i64 x)) p1_flags, hb⟩
theorem k3 (A : Option Addr) (c : Nat) (w : World) (hT : HasT w) (h : (Kd.int .u8).C w A 3 [1, 2, 3]) (hc : 3 ≤ c) : Calls Tryd.prog 10 #[.agg #[.int .i64 (3), .int .i64 (0), .bool false, .int .i64 (0), .string ⟨#[]⟩, .bool false, .string ⟨#[]⟩, .slice none 0 0, .int .i64 (0), .bool false, .bool false, .string ⟨#[]⟩, .bool false, .slice none 0 0, .bool false, .int .i64 (0), .bool false, .string ⟨#[97]⟩, .slice A 3 c, .int .i64 (1), .bool false, .int .i64 (7), .slice none 0 0, .slice none 0 0, .slice none 0 0]] w fun e w' => e = .returned (.int .i64 (8)) ∧ Below w.heap.size w w' := by
  refine (Length_P (3) (0) (false) (0) (⟨#[]⟩) (false) (⟨#[]⟩) (none) 0 ([]) (0) (false) (false) (⟨#[]⟩) (false) (none) 0 ([]) (false) (0) (false) (⟨#[97]⟩) (A) c ([1, 2, 3]) (1) (false) (7) (none) 0 ([]) (none) 0 ([]) (none) 0 ([]) w hT (rd_nil w (l18 := [1, 2, 3]) h hc) s1).mono ?_
  rintro e w' ⟨rfl, hb⟩
  exact ⟨congrArg (fun x => Ending.returned (.int .i64 x)) p1_length, hb⟩
theorem k4 (A : Option Addr) (c : Nat) (w : World) (hT : HasT w) (h : (Kd.int .u8).C w A 3 [1, 2, 3]) (hc : 3 ≤ c) : Calls Tryd.prog 9 #[.agg #[.int .i64 (3), .int .i64 (0), .bool false, .int .i64 (0), .string ⟨#[]⟩, .bool false, .string ⟨#[]⟩, .slice none 0 0, .int .i64 (0), .bool false, .bool false, .string ⟨#[]⟩, .bool false, .slice none 0 0, .bool false, .int .i64 (0), .bool false, .string ⟨#[97]⟩, .slice A 3 c, .int .i64 (1), .bool false, .int .i64 (0), .slice none 0 0, .slice none 0 0, .slice none 0 0]] w fun e w' => e = .returned (.int .i64 (26)) ∧ Below w.heap.size w w' := by
  refine (Check_P (3) (0) (false) (0) (⟨#[]⟩) (false) (⟨#[]⟩) (none) 0 ([]) (0) (false) (false) (⟨#[]⟩) (false) (none) 0 ([]) (false) (0) (false) (⟨#[97]⟩) (A) c ([1, 2, 3]) (1) (false) (0) (none) 0 ([]) (none) 0 ([]) (none) 0 ([]) w hT (rd_nil w (l18 := [1, 2, 3]) h hc) s2).mono ?_
  rintro e w' ⟨rfl, hb⟩
  exact ⟨congrArg (fun x => Ending.returned (.int .i64 x)) p2_check, hb⟩
theorem k5 (w : World) (hT : HasT w) : Calls Tryd.prog 9 #[.agg #[.int .i64 (1), .int .i64 (4), .bool true, .int .i64 (60), .string ⟨#[99]⟩, .bool false, .string ⟨#[]⟩, .slice none 0 0, .int .i64 (0), .bool false, .bool false, .string ⟨#[]⟩, .bool false, .slice none 0 0, .bool false, .int .i64 (0), .bool false, .string ⟨#[]⟩, .slice none 0 0, .int .i64 (0), .bool false, .int .i64 (0), .slice none 0 0, .slice none 0 0, .slice none 0 0]] w fun e w' => e = .returned (.int .i64 (0)) ∧ Below w.heap.size w w' := by
  refine (Check_P (1) (4) (true) (60) (⟨#[99]⟩) (false) (⟨#[]⟩) (none) 0 ([]) (0) (false) (false) (⟨#[]⟩) (false) (none) 0 ([]) (false) (0) (false) (⟨#[]⟩) (none) 0 ([]) (0) (false) (0) (none) 0 ([]) (none) 0 ([]) (none) 0 ([]) w hT (rd_nil w (l18 := []) (Kd.C_nil _ _) (by decide)) s3).mono ?_
  rintro e w' ⟨rfl, hb⟩
  exact ⟨congrArg (fun x => Ending.returned (.int .i64 x)) p3_check, hb⟩
theorem k6 (w : World) (hT : HasT w) : Calls Tryd.prog 10 #[.agg #[.int .i64 (1), .int .i64 (4), .bool true, .int .i64 (60), .string ⟨#[99]⟩, .bool false, .string ⟨#[]⟩, .slice none 0 0, .int .i64 (0), .bool false, .bool false, .string ⟨#[]⟩, .bool false, .slice none 0 0, .bool false, .int .i64 (0), .bool false, .string ⟨#[]⟩, .slice none 0 0, .int .i64 (0), .bool false, .int .i64 (0), .slice none 0 0, .slice none 0 0, .slice none 0 0]] w fun e w' => e = .returned (.int .i64 (13)) ∧ Below w.heap.size w w' := by
  refine (Length_P (1) (4) (true) (60) (⟨#[99]⟩) (false) (⟨#[]⟩) (none) 0 ([]) (0) (false) (false) (⟨#[]⟩) (false) (none) 0 ([]) (false) (0) (false) (⟨#[]⟩) (none) 0 ([]) (0) (false) (0) (none) 0 ([]) (none) 0 ([]) (none) 0 ([]) w hT (rd_nil w (l18 := []) (Kd.C_nil _ _) (by decide)) s3).mono ?_
  rintro e w' ⟨rfl, hb⟩
  exact ⟨congrArg (fun x => Ending.returned (.int .i64 x)) p3_length, hb⟩
theorem k7 (w : World) (hT : HasT w) : Calls Tryd.prog 9 #[.agg #[.int .i64 (8), .int .i64 (0), .bool false, .int .i64 (0), .string ⟨#[]⟩, .bool false, .string ⟨#[]⟩, .slice none 0 0, .int .i64 (0), .bool false, .bool false, .string ⟨#[]⟩, .bool false, .slice none 0 0, .bool false, .int .i64 (0), .bool false, .string ⟨#[]⟩, .slice none 0 0, .int .i64 (0), .bool false, .int .i64 (1), .slice none 0 0, .slice none 0 0, .slice none 0 0]] w fun e w' => e = .returned (.int .i64 (28)) ∧ Below w.heap.size w w' := by
  refine (Check_P (8) (0) (false) (0) (⟨#[]⟩) (false) (⟨#[]⟩) (none) 0 ([]) (0) (false) (false) (⟨#[]⟩) (false) (none) 0 ([]) (false) (0) (false) (⟨#[]⟩) (none) 0 ([]) (0) (false) (1) (none) 0 ([]) (none) 0 ([]) (none) 0 ([]) w hT (rd_nil w (l18 := []) (Kd.C_nil _ _) (by decide)) s4).mono ?_
  rintro e w' ⟨rfl, hb⟩
  exact ⟨congrArg (fun x => Ending.returned (.int .i64 x)) p4_check, hb⟩
theorem m1 (w : World) (hT : Kin.FlagsT w) : Calls Tryd.prog 11 #[.int .i64 3, .int .i64 10] w fun e w' => e = .returned (.bool true) ∧ Drawn0 w w' := Kin.May_calls 3 10 w hT
theorem m2 (w : World) (hT : Kin.FlagsT w) : Calls Tryd.prog 11 #[.int .i64 3, .int .i64 8] w fun e w' => e = .returned (.bool false) ∧ Drawn0 w w' := Kin.May_calls 3 8 w hT
theorem m3 (w : World) (hT : Kin.FlagsT w) : Calls Tryd.prog 11 #[.int .i64 6, .int .i64 0] w fun e w' => e = .returned (.bool false) ∧ Drawn0 w w' := Kin.May_calls 6 0 w hT
theorem tabs_below {w w2 : World} (h : Kin.FlagsT w) (hb : Below w.heap.size w w2) : Kin.FlagsT w2 :=
  fun i hi => (Below.cell hb (p := ⟨1, i, none⟩) (Cr_cell_lt (h i hi))).trans (h i hi)
theorem known_calls (w : World) (hT : HasT w) (hT2 : Kin.FlagsT w) : Calls Tryd.prog 5 #[] w fun e w' => e = .returned (.bool true) ∧ Below w.heap.size w w' := by
  have hu29 := Tryd.underlying29
  have HT := Aside0.mk hT
  have HT2 := Aside0.mk hT2
  have HB := Aside0.mk (Below.refl w.heap.size w)
  clear hT hT2
  go_enter Tryd.func5, Tryd.ntmps5
  go_upto_region 2 with (first | ((with_reducible refine gate_dst (N := 4) rfl ?_); refine Kd.R_lit (Kd.int .u8) (w0 := w) (okp := fun _ => False) (ok := fun k => w.heap.size ≤ k) w.heap.size 5 rfl (N := 4) rfl (xs := [1, 2, 3]) (inner := [.int .u8 1, .int .u8 2, .int .u8 3]) ?z1 ?z2 ?z3 ?z4 ?z5 ?z6 ?z7 ?_; (case z1 => first | (go_simp; done) | (go_simp; rfl)); (case z2 => exact Kd.reps_scalar _); (case z3 => intro k hk; exact hk.elim); (case z4 => exact Nat.le_refl _); (case z5 => exact HB.out); (case z6 => exact Nat.le_refl _); (case z7 => decide); intro v1 w1 hR1 hb1 hg1 hat1; obtain ⟨A, c, rfl⟩ := Kd.R_slice hR1; have RR := Aside0.mk hR1; clear HB; have HB := Aside0.mk hb1; clear hR1 hb1 hg1 hat1) | ((with_reducible refine gate_dst (N := 1) rfl ?_); refine box_event ?hg (N := 1) ?hd (cs := #[.int .i64 0, .int .i64 0, .bool false, .int .i64 0, .string ⟨#[]⟩, .bool false, .string ⟨#[]⟩, .slice none 0 0, .int .i64 0, .bool false, .bool false, .string ⟨#[]⟩, .bool false, .slice none 0 0, .bool false, .int .i64 0, .bool false, .string ⟨#[]⟩, .slice none 0 0, .int .i64 0, .bool false, .int .i64 0, .slice none 0 0, .slice none 0 0, .slice none 0 0]) (t := 29) ?hr ?_; (case hd => rfl); (case hg => rfl); (case hr => first | (go_simp; done) | (go_simp; rfl)); intro ga hg wa hbox hb; have n0_ := Aside0.mk (below_step HB.out hb); have n1_ := Aside0.mk (show w.heap.size ≤ ga by rw [hg]; exact HB.out.size); have n2_ := Aside0.mk (Kd.R_below (Kd.R_elderB RR.out ga (by rw [hg]; exact Nat.le_refl _)) hb); clear HB RR ; have HB := n0_; have Gga := n1_; have RR := n2_; clear n0_ n1_ n2_; have Bga := Aside0.mk hbox; clear hg hbox hb) | (refine wpList_store_row rfl rfl 29 (.tmp 1) (.tmp 6) rfl ga rfl 29 _ #[.int .i64 (3), .int .i64 (0), .bool false, .int .i64 (0), .string ⟨#[]⟩, .bool false, .string ⟨#[]⟩, .slice none 0 0, .int .i64 (0), .bool false, .bool false, .string ⟨#[]⟩, .bool false, .slice none 0 0, .bool false, .int .i64 (0), .bool false, .string ⟨#[97]⟩, .slice A 3 c, .int .i64 (1), .bool false, .int .i64 (7), .slice none 0 0, .slice none 0 0, .slice none 0 0] Bga.out rfl (by kernel_rfl) rfl rfl ?_; intro wb hx hk; have n0_ := Aside0.mk (hk.below HB.out Gga.out); have n2_ := Aside0.mk (Kd.R_keep RR.out hk.2 (fun k hq => hq.2)); clear HB RR Bga ; have HB := n0_; have RR := n2_; have Bga := Aside0.mk hx; clear n0_ n2_ hx hk))
  try simp only [Act.put, List.setIfInBounds_toArray, List.set_cons_zero, List.set_cons_succ]
  go_upto_region 4 with (first | ((with_reducible refine gate_dst (N := 7) rfl ?_); refine wpList_load_row rfl 29 (.tmp 1) rfl ga rfl 29 #[.int .i64 (3), .int .i64 (0), .bool false, .int .i64 (0), .string ⟨#[]⟩, .bool false, .string ⟨#[]⟩, .slice none 0 0, .int .i64 (0), .bool false, .bool false, .string ⟨#[]⟩, .bool false, .slice none 0 0, .bool false, .int .i64 (0), .bool false, .string ⟨#[97]⟩, .slice A 3 c, .int .i64 (1), .bool false, .int .i64 (7), .slice none 0 0, .slice none 0 0, .slice none 0 0] (0, 0) _ (by first | exact Bga.out | exact blk_drewN Bga.out _ | exact blk_drew Bga.out) hu29 rfl (by kernel_rfl) ?_) | ((with_reducible refine gate_dst (N := 11) rfl ?_); refine wpList_load_rowG (by rfl) 29 (.tmp 1) rfl ga rfl 29 #[.int .i64 (3), .int .i64 (0), .bool false, .int .i64 (0), .string ⟨#[]⟩, .bool false, .string ⟨#[]⟩, .slice none 0 0, .int .i64 (0), .bool false, .bool false, .string ⟨#[]⟩, .bool false, .slice none 0 0, .bool false, .int .i64 (0), .bool false, .string ⟨#[97]⟩, .slice A 3 c, .int .i64 (1), .bool false, .int .i64 (7), .slice none 0 0, .slice none 0 0, .slice none 0 0] (0, 0) _ (by first | exact Bga.out | exact blk_drewN Bga.out _ | exact blk_drew Bga.out) hu29 rfl (by kernel_rfl) ?_) | ((with_reducible refine gate_dst (N := 16) rfl ?_); refine wpList_load_rowG (by rfl) 29 (.tmp 1) rfl ga rfl 29 #[.int .i64 (3), .int .i64 (0), .bool false, .int .i64 (0), .string ⟨#[]⟩, .bool false, .string ⟨#[]⟩, .slice none 0 0, .int .i64 (0), .bool false, .bool false, .string ⟨#[]⟩, .bool false, .slice none 0 0, .bool false, .int .i64 (0), .bool false, .string ⟨#[97]⟩, .slice A 3 c, .int .i64 (1), .bool false, .int .i64 (7), .slice none 0 0, .slice none 0 0, .slice none 0 0] (0, 0) _ (by first | exact Bga.out | exact blk_drewN Bga.out _ | exact blk_drew Bga.out) hu29 rfl (by kernel_rfl) ?_) | (go_at_call 9; ((refine (k1 A c _ (HT.out.below (by repeat (first | exact HB.out | (with_reducible first | apply below_alloc | apply pw_below_drewN | apply below_drew1)))) (Kd.R_reads' (by first | exact RR.out | exact Kd.R_drewN RR.out _ | exact Kd.R_drew RR.out)).2.2 (Kd.R_reads' RR.out).2.1).mono ?_); rintro e w9 ⟨rfl, hb⟩; have n0_ := Aside0.mk (below_step (by repeat (first | exact HB.out | (with_reducible first | apply below_alloc | apply pw_below_drewN | apply below_drew1))) hb); have n2_ := Aside0.mk (Kd.R_below (by first | exact RR.out | exact Kd.R_drewN RR.out _ | exact Kd.R_drew RR.out) hb); have n3ga := Aside0.mk (blk_below (by first | exact Bga.out | exact blk_drewN Bga.out _ | exact blk_drew Bga.out) hb); clear HB RR hb Bga; have HB := n0_; have RR := n2_; clear n0_ n2_; have Bga := n3ga; clear n3ga)) | (go_at_call 12; ((refine (k2 A c _ (HT.out.below (by repeat (first | exact HB.out | (with_reducible first | apply below_alloc | apply pw_below_drewN | apply below_drew1)))) (tabs_below HT2.out (by repeat (first | exact HB.out | (with_reducible first | apply below_alloc | apply pw_below_drewN | apply below_drew1)))) (Kd.R_reads' (by first | exact RR.out | exact Kd.R_drewN RR.out _ | exact Kd.R_drew RR.out)).2.2 (Kd.R_reads' RR.out).2.1).mono ?_); rintro e w9 ⟨rfl, hb⟩; have n0_ := Aside0.mk (below_step (by repeat (first | exact HB.out | (with_reducible first | apply below_alloc | apply pw_below_drewN | apply below_drew1))) hb); have n2_ := Aside0.mk (Kd.R_below (by first | exact RR.out | exact Kd.R_drewN RR.out _ | exact Kd.R_drew RR.out) hb); have n3ga := Aside0.mk (blk_below (by first | exact Bga.out | exact blk_drewN Bga.out _ | exact blk_drew Bga.out) hb); clear HB RR hb Bga; have HB := n0_; have RR := n2_; clear n0_ n2_; have Bga := n3ga; clear n3ga)) | (go_at_call 10; ((refine (k3 A c _ (HT.out.below (by repeat (first | exact HB.out | (with_reducible first | apply below_alloc | apply pw_below_drewN | apply below_drew1)))) (Kd.R_reads' (by first | exact RR.out | exact Kd.R_drewN RR.out _ | exact Kd.R_drew RR.out)).2.2 (Kd.R_reads' RR.out).2.1).mono ?_); rintro e w9 ⟨rfl, hb⟩; have n0_ := Aside0.mk (below_step (by repeat (first | exact HB.out | (with_reducible first | apply below_alloc | apply pw_below_drewN | apply below_drew1))) hb); have n2_ := Aside0.mk (Kd.R_below (by first | exact RR.out | exact Kd.R_drewN RR.out _ | exact Kd.R_drew RR.out) hb); have n3ga := Aside0.mk (blk_below (by first | exact Bga.out | exact blk_drewN Bga.out _ | exact blk_drew Bga.out) hb); clear HB RR hb Bga; have HB := n0_; have RR := n2_; clear n0_ n2_; have Bga := n3ga; clear n3ga)))
  have hz : w9.cell? ⟨ga, 15, none⟩ = some (.int .i64 0) ∨ True := .inr trivial
  clear hz
  have hz21 : w9.cell? ⟨ga, 21, none⟩ = some (.int .i64 7) := (blk_cell Bga.out 21).trans rfl
  have hf21 : w9.frozen? ⟨ga, 21, none⟩ = false := blk_frozen Bga.out 21
  go_upto_region 5 with (fail)
  have n0_ := Aside0.mk (below_set (j := 21) (v := .int .i64 0) HB.out Gga.out)
  have n1_ := Aside0.mk (blk_put (cs' := #[.int .i64 (3), .int .i64 (0), .bool false, .int .i64 (0), .string ⟨#[]⟩, .bool false, .string ⟨#[]⟩, .slice none 0 0, .int .i64 (0), .bool false, .bool false, .string ⟨#[]⟩, .bool false, .slice none 0 0, .bool false, .int .i64 (0), .bool false, .string ⟨#[97]⟩, .slice A 3 c, .int .i64 (1), .bool false, .int .i64 (0), .slice none 0 0, .slice none 0 0, .slice none 0 0]) Bga.out 21 (.int .i64 0) rfl)
  have n2_ := Aside0.mk (Kd.R_far (p := ⟨ga, 21, none⟩) RR.out (fun k hk => hk.2) (.int .i64 0))
  clear HB Bga RR hz21 hf21
  have HB := n0_
  have Bga := n1_
  have RR := n2_
  clear n0_ n1_ n2_
  generalize (w9.setCell ⟨ga, 21, none⟩ (.int .i64 0)) = wc at *
  go_upto_region 6 with (first | ((with_reducible refine gate_dst (N := 2) rfl ?_); refine box_event ?hg (N := 2) ?hd (cs := #[.int .i64 0, .int .i64 0, .bool false, .int .i64 0, .string ⟨#[]⟩, .bool false, .string ⟨#[]⟩, .slice none 0 0, .int .i64 0, .bool false, .bool false, .string ⟨#[]⟩, .bool false, .slice none 0 0, .bool false, .int .i64 0, .bool false, .string ⟨#[]⟩, .slice none 0 0, .int .i64 0, .bool false, .int .i64 0, .slice none 0 0, .slice none 0 0, .slice none 0 0]) (t := 29) ?hr ?_; (case hd => rfl); (case hg => rfl); (case hr => first | (go_simp; done) | (go_simp; rfl)); intro gb hg wd hbox hb; have n0_ := Aside0.mk (below_step HB.out hb); have n1_ := Aside0.mk (show w.heap.size ≤ gb by rw [hg]; exact HB.out.size); have n2_ := Aside0.mk (Kd.R_below (Kd.R_elderB RR.out gb (by rw [hg]; exact Nat.le_refl _)) hb); have Ngagb := Aside0.mk (show ga ≠ gb by rw [hg]; exact Nat.ne_of_lt (blk_lt Bga.out)); have n3ga := Aside0.mk (blk_below Bga.out hb); clear HB RR Bga; have HB := n0_; have Ggb := n1_; have RR := n2_; clear n0_ n1_ n2_; have Bga := n3ga; clear n3ga; have Bgb := Aside0.mk hbox; clear hg hbox hb) | (refine wpList_store_row rfl rfl 29 (.tmp 2) (.tmp 21) rfl gb rfl 29 _ #[.int .i64 (1), .int .i64 (4), .bool true, .int .i64 (60), .string ⟨#[99]⟩, .bool false, .string ⟨#[]⟩, .slice none 0 0, .int .i64 (0), .bool false, .bool false, .string ⟨#[]⟩, .bool false, .slice none 0 0, .bool false, .int .i64 (0), .bool false, .string ⟨#[]⟩, .slice none 0 0, .int .i64 (0), .bool false, .int .i64 (0), .slice none 0 0, .slice none 0 0, .slice none 0 0] Bgb.out rfl (by kernel_rfl) rfl rfl ?_; intro we hx hk; have n0_ := Aside0.mk (hk.below HB.out Ggb.out); have n2_ := Aside0.mk (Kd.R_keep RR.out hk.2 (fun k hq => hq.2)); have n3ga := Aside0.mk (hk.blk Bga.out Ngagb.out); clear HB RR Bgb Bga; have HB := n0_; have RR := n2_; have Bgb := Aside0.mk hx; clear n0_ n2_ hx hk; have Bga := n3ga; clear n3ga))
  try simp only [Act.put, List.setIfInBounds_toArray, List.set_cons_zero, List.set_cons_succ]
  go_upto_region 7 with (first | ((with_reducible refine gate_dst (N := 3) rfl ?_); refine box_event ?hg (N := 3) ?hd (cs := #[.int .i64 0, .int .i64 0, .bool false, .int .i64 0, .string ⟨#[]⟩, .bool false, .string ⟨#[]⟩, .slice none 0 0, .int .i64 0, .bool false, .bool false, .string ⟨#[]⟩, .bool false, .slice none 0 0, .bool false, .int .i64 0, .bool false, .string ⟨#[]⟩, .slice none 0 0, .int .i64 0, .bool false, .int .i64 0, .slice none 0 0, .slice none 0 0, .slice none 0 0]) (t := 29) ?hr ?_; (case hd => rfl); (case hg => rfl); (case hr => first | (go_simp; done) | (go_simp; rfl)); intro gc hg wf hbox hb; have n0_ := Aside0.mk (below_step HB.out hb); have n1_ := Aside0.mk (show w.heap.size ≤ gc by rw [hg]; exact HB.out.size); have n2_ := Aside0.mk (Kd.R_below (Kd.R_elderB RR.out gc (by rw [hg]; exact Nat.le_refl _)) hb); have Ngagc := Aside0.mk (show ga ≠ gc by rw [hg]; exact Nat.ne_of_lt (blk_lt Bga.out)); have n3ga := Aside0.mk (blk_below Bga.out hb); have Ngbgc := Aside0.mk (show gb ≠ gc by rw [hg]; exact Nat.ne_of_lt (blk_lt Bgb.out)); have n3gb := Aside0.mk (blk_below Bgb.out hb); clear HB RR Bga Bgb; have HB := n0_; have Ggc := n1_; have RR := n2_; clear n0_ n1_ n2_; have Bga := n3ga; clear n3ga; have Bgb := n3gb; clear n3gb; have Bgc := Aside0.mk hbox; clear hg hbox hb) | (refine wpList_store_row rfl rfl 29 (.tmp 3) (.tmp 22) rfl gc rfl 29 _ #[.int .i64 (8), .int .i64 (0), .bool false, .int .i64 (0), .string ⟨#[]⟩, .bool false, .string ⟨#[]⟩, .slice none 0 0, .int .i64 (0), .bool false, .bool false, .string ⟨#[]⟩, .bool false, .slice none 0 0, .bool false, .int .i64 (0), .bool false, .string ⟨#[]⟩, .slice none 0 0, .int .i64 (0), .bool false, .int .i64 (1), .slice none 0 0, .slice none 0 0, .slice none 0 0] Bgc.out rfl (by kernel_rfl) rfl rfl ?_; intro wg hx hk; have n0_ := Aside0.mk (hk.below HB.out Ggc.out); have n2_ := Aside0.mk (Kd.R_keep RR.out hk.2 (fun k hq => hq.2)); have n3ga := Aside0.mk (hk.blk Bga.out Ngagc.out); have n3gb := Aside0.mk (hk.blk Bgb.out Ngbgc.out); clear HB RR Bgc Bga Bgb; have HB := n0_; have RR := n2_; have Bgc := Aside0.mk hx; clear n0_ n2_ hx hk; have Bga := n3ga; clear n3ga; have Bgb := n3gb; clear n3gb))
  try simp only [Act.put, List.setIfInBounds_toArray, List.set_cons_zero, List.set_cons_succ]
  go_wp2_with (first | ((with_reducible refine gate_dst (N := 23) rfl ?_); refine wpList_load_row rfl 29 (.tmp 1) rfl ga rfl 29 #[.int .i64 (3), .int .i64 (0), .bool false, .int .i64 (0), .string ⟨#[]⟩, .bool false, .string ⟨#[]⟩, .slice none 0 0, .int .i64 (0), .bool false, .bool false, .string ⟨#[]⟩, .bool false, .slice none 0 0, .bool false, .int .i64 (0), .bool false, .string ⟨#[97]⟩, .slice A 3 c, .int .i64 (1), .bool false, .int .i64 (0), .slice none 0 0, .slice none 0 0, .slice none 0 0] (0, 0) _ (by first | exact Bga.out | exact blk_drewN Bga.out _ | exact blk_drew Bga.out) hu29 rfl (by kernel_rfl) ?_))
  (refine (k4 A c _ (HT.out.below (by repeat (first | exact HB.out | (with_reducible first | apply below_alloc | apply pw_below_drewN | apply below_drew1)))) (Kd.R_reads' (by first | exact RR.out | exact Kd.R_drewN RR.out _ | exact Kd.R_drew RR.out)).2.2 (Kd.R_reads' RR.out).2.1).mono ?_)
  rintro e w9 ⟨rfl, hb⟩
  have n0_ := Aside0.mk (below_step (by repeat (first | exact HB.out | (with_reducible first | apply below_alloc | apply pw_below_drewN | apply below_drew1))) hb)
  have n2_ := Aside0.mk (Kd.R_below (by first | exact RR.out | exact Kd.R_drewN RR.out _ | exact Kd.R_drew RR.out) hb)
  have n3ga := Aside0.mk (blk_below (by first | exact Bga.out | exact blk_drewN Bga.out _ | exact blk_drew Bga.out) hb)
  have n3gb := Aside0.mk (blk_below (by first | exact Bgb.out | exact blk_drewN Bgb.out _ | exact blk_drew Bgb.out) hb)
  have n3gc := Aside0.mk (blk_below (by first | exact Bgc.out | exact blk_drewN Bgc.out _ | exact blk_drew Bgc.out) hb)
  clear HB RR hb Bga Bgb Bgc
  have HB := n0_
  have RR := n2_
  clear n0_ n2_
  have Bga := n3ga
  clear n3ga
  have Bgb := n3gb
  clear n3gb
  have Bgc := n3gc
  clear n3gc
  go_wp2_with (first | ((with_reducible refine gate_dst (N := 27) rfl ?_); refine wpList_load_rowG (by rfl) 29 (.tmp 2) rfl gb rfl 29 #[.int .i64 (1), .int .i64 (4), .bool true, .int .i64 (60), .string ⟨#[99]⟩, .bool false, .string ⟨#[]⟩, .slice none 0 0, .int .i64 (0), .bool false, .bool false, .string ⟨#[]⟩, .bool false, .slice none 0 0, .bool false, .int .i64 (0), .bool false, .string ⟨#[]⟩, .slice none 0 0, .int .i64 (0), .bool false, .int .i64 (0), .slice none 0 0, .slice none 0 0, .slice none 0 0] (0, 0) _ (by first | exact Bgb.out | exact blk_drewN Bgb.out _ | exact blk_drew Bgb.out) hu29 rfl (by kernel_rfl) ?_))
  (refine (k5 _ (HT.out.below (by repeat (first | exact HB.out | (with_reducible first | apply below_alloc | apply pw_below_drewN | apply below_drew1))))).mono ?_)
  rintro e w9 ⟨rfl, hb⟩
  have n0_ := Aside0.mk (below_step (by repeat (first | exact HB.out | (with_reducible first | apply below_alloc | apply pw_below_drewN | apply below_drew1))) hb)
  have n2_ := Aside0.mk (Kd.R_below (by first | exact RR.out | exact Kd.R_drewN RR.out _ | exact Kd.R_drew RR.out) hb)
  have n3ga := Aside0.mk (blk_below (by first | exact Bga.out | exact blk_drewN Bga.out _ | exact blk_drew Bga.out) hb)
  have n3gb := Aside0.mk (blk_below (by first | exact Bgb.out | exact blk_drewN Bgb.out _ | exact blk_drew Bgb.out) hb)
  have n3gc := Aside0.mk (blk_below (by first | exact Bgc.out | exact blk_drewN Bgc.out _ | exact blk_drew Bgc.out) hb)
  clear HB RR hb Bga Bgb Bgc
  have HB := n0_
  have RR := n2_
  clear n0_ n2_
  have Bga := n3ga
  clear n3ga
  have Bgb := n3gb
  clear n3gb
  have Bgc := n3gc
  clear n3gc
  go_wp2_with (first | ((with_reducible refine gate_dst (N := 32) rfl ?_); refine wpList_load_rowG (by rfl) 29 (.tmp 2) rfl gb rfl 29 #[.int .i64 (1), .int .i64 (4), .bool true, .int .i64 (60), .string ⟨#[99]⟩, .bool false, .string ⟨#[]⟩, .slice none 0 0, .int .i64 (0), .bool false, .bool false, .string ⟨#[]⟩, .bool false, .slice none 0 0, .bool false, .int .i64 (0), .bool false, .string ⟨#[]⟩, .slice none 0 0, .int .i64 (0), .bool false, .int .i64 (0), .slice none 0 0, .slice none 0 0, .slice none 0 0] (0, 0) _ (by first | exact Bgb.out | exact blk_drewN Bgb.out _ | exact blk_drew Bgb.out) hu29 rfl (by kernel_rfl) ?_))
  (refine (k6 _ (HT.out.below (by repeat (first | exact HB.out | (with_reducible first | apply below_alloc | apply pw_below_drewN | apply below_drew1))))).mono ?_)
  rintro e w9 ⟨rfl, hb⟩
  have n0_ := Aside0.mk (below_step (by repeat (first | exact HB.out | (with_reducible first | apply below_alloc | apply pw_below_drewN | apply below_drew1))) hb)
  have n2_ := Aside0.mk (Kd.R_below (by first | exact RR.out | exact Kd.R_drewN RR.out _ | exact Kd.R_drew RR.out) hb)
  have n3ga := Aside0.mk (blk_below (by first | exact Bga.out | exact blk_drewN Bga.out _ | exact blk_drew Bga.out) hb)
  have n3gb := Aside0.mk (blk_below (by first | exact Bgb.out | exact blk_drewN Bgb.out _ | exact blk_drew Bgb.out) hb)
  have n3gc := Aside0.mk (blk_below (by first | exact Bgc.out | exact blk_drewN Bgc.out _ | exact blk_drew Bgc.out) hb)
  clear HB RR hb Bga Bgb Bgc
  have HB := n0_
  have RR := n2_
  clear n0_ n2_
  have Bga := n3ga
  clear n3ga
  have Bgb := n3gb
  clear n3gb
  have Bgc := n3gc
  clear n3gc
  go_wp2_with (first | ((with_reducible refine gate_dst (N := 37) rfl ?_); refine wpList_load_rowG (by rfl) 29 (.tmp 3) rfl gc rfl 29 #[.int .i64 (8), .int .i64 (0), .bool false, .int .i64 (0), .string ⟨#[]⟩, .bool false, .string ⟨#[]⟩, .slice none 0 0, .int .i64 (0), .bool false, .bool false, .string ⟨#[]⟩, .bool false, .slice none 0 0, .bool false, .int .i64 (0), .bool false, .string ⟨#[]⟩, .slice none 0 0, .int .i64 (0), .bool false, .int .i64 (1), .slice none 0 0, .slice none 0 0, .slice none 0 0] (0, 0) _ (by first | exact Bgc.out | exact blk_drewN Bgc.out _ | exact blk_drew Bgc.out) hu29 rfl (by kernel_rfl) ?_))
  (refine (k7 _ (HT.out.below (by repeat (first | exact HB.out | (with_reducible first | apply below_alloc | apply pw_below_drewN | apply below_drew1))))).mono ?_)
  rintro e w9 ⟨rfl, hb⟩
  have n0_ := Aside0.mk (below_step (by repeat (first | exact HB.out | (with_reducible first | apply below_alloc | apply pw_below_drewN | apply below_drew1))) hb)
  have n2_ := Aside0.mk (Kd.R_below (by first | exact RR.out | exact Kd.R_drewN RR.out _ | exact Kd.R_drew RR.out) hb)
  have n3ga := Aside0.mk (blk_below (by first | exact Bga.out | exact blk_drewN Bga.out _ | exact blk_drew Bga.out) hb)
  have n3gb := Aside0.mk (blk_below (by first | exact Bgb.out | exact blk_drewN Bgb.out _ | exact blk_drew Bgb.out) hb)
  have n3gc := Aside0.mk (blk_below (by first | exact Bgc.out | exact blk_drewN Bgc.out _ | exact blk_drew Bgc.out) hb)
  clear HB RR hb Bga Bgb Bgc
  have HB := n0_
  have RR := n2_
  clear n0_ n2_
  have Bga := n3ga
  clear n3ga
  have Bgb := n3gb
  clear n3gb
  have Bgc := n3gc
  clear n3gc
  go_wp2_with fail
  refine (m1 _ (tabs_below HT2.out (by repeat (first | exact HB.out | (with_reducible first | apply below_alloc | apply pw_below_drewN | apply below_drew1))))).mono ?_
  rintro e w' ⟨rfl, ⟨nd, rfl⟩⟩
  go_wp2_with fail
  refine (m2 _ (tabs_below HT2.out (by repeat (first | exact HB.out | (with_reducible first | apply below_alloc | apply pw_below_drewN | apply below_drew1))))).mono ?_
  rintro e w' ⟨rfl, ⟨nd, rfl⟩⟩
  go_wp2_with fail
  refine (m3 _ (tabs_below HT2.out (by repeat (first | exact HB.out | (with_reducible first | apply below_alloc | apply pw_below_drewN | apply below_drew1))))).mono ?_
  rintro e w' ⟨rfl, ⟨nd, rfl⟩⟩
  go_wp2
  go_ret
  exact ⟨rfl, by repeat (first | exact HB.out | (with_reducible first | apply below_alloc | apply pw_below_drewN | apply below_drew1))⟩

end Go.Proofs.YtipliohgnaoblaaDoor.Pk
