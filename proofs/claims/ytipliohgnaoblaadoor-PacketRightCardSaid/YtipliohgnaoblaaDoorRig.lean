/- PacketRight: the walk of the law. -/
import Derived.Test.YtipliohgnaoblaaDoorKno
import Derived.Test.YtipliohgnaoblaaDoorSap
namespace Go.Proofs.YtipliohgnaoblaaDoor.Pk
open Go.RowKit Go.Proofs.YtipliohgnaoblaaDoor.Giv Go.Proofs.YtipliohgnaoblaaDoorW.PrintWords Go.Proofs.YtipliohgnaoblaaDoorW.PrintLast Go.Proofs.YtipliohgnaoblaaDoorW.PrintMore Go.Proofs.YtipliohgnaoblaaDoor.MPacketStays
set_option linter.unusedVariables false
set_option linter.unusedSimpArgs false
set_option maxHeartbeats 3000000
set_option maxRecDepth 100000
theorem rangeAt_blk {w : World} {g : Nat} {cs : Array Value} {t : TypeId} {fr : Nat × Nat} (h : w.heap[g]? = some (.cells cs t fr)) : w.rangeAt g 0 cs.toList := fun j v hv => by
 rw [Nat.zero_add, cell_of_row w g j cs t fr h]
 simpa using hv
theorem names_below {w w2 : World} (h : Kin.Tabs w) (hb : Below w.heap.size w w2) : Kin.Tabs w2 :=
 ⟨tabs_below h.1 hb, fun i hi => (Below.cell hb (p := ⟨2, i, none⟩) (Cr_cell_lt (h.2 i hi))).trans (h.2 i hi)⟩
theorem Right_walk (a0 : Int) (a1 : Int) (a2 : Bool) (a3 : Int) (a4 : ByteArray) (a5 : Bool) (a6 : ByteArray) (A7 : Option Addr) (c7 : Nat) (l7 : List Int) (a8 : Int) (a9 : Bool) (a10 : Bool) (a11 : ByteArray) (a12 : Bool) (A13 : Option Addr) (c13 : Nat) (l13 : List Int) (a14 : Bool) (a15 : Int) (a16 : Bool) (a17 : ByteArray) (A18 : Option Addr) (c18 : Nat) (l18 : List Int) (a19 : Int) (a20 : Bool) (a21 : Int) (A22 : Option Addr) (c22 : Nat) (l22 : List S45) (A23 : Option Addr) (c23 : Nat) (l23 : List Int) (A24 : Option Addr) (c24 : Nat) (l24 : List ByteArray) (qa0 : Int) (qa1 : Int) (qa2 : Bool) (qa3 : Int) (qa4 : ByteArray) (qa5 : Bool) (qa6 : ByteArray) (qA7 : Option Addr) (qc7 : Nat) (ql7 : List Int) (qa8 : Int) (qa9 : Bool) (qa10 : Bool) (qa11 : ByteArray) (qa12 : Bool) (qA13 : Option Addr) (qc13 : Nat) (ql13 : List Int) (qa14 : Bool) (qa15 : Int) (qa16 : Bool) (qa17 : ByteArray) (qA18 : Option Addr) (qc18 : Nat) (ql18 : List Int) (qa19 : Int) (qa20 : Bool) (qa21 : Int) (qA22 : Option Addr) (qc22 : Nat) (ql22 : List S45) (qA23 : Option Addr) (qc23 : Nat) (ql23 : List Int) (qA24 : Option Addr) (qc24 : Nat) (ql24 : List ByteArray) (kc kc2 : Nat) (r r2 : Int) (w : World) (hT : HasT w) (hT2 : Kin.Tabs w) (hr : Rd w A7 c7 l7 A13 c13 l13 A18 c18 l18 A22 c22 l22 A23 c23 l23 A24 c24 l24) (hq : Rd w qA7 qc7 ql7 qA13 qc13 ql13 qA18 qc18 ql18 qA22 qc22 ql22 qA23 qc23 ql23 qA24 qc24 ql24)
  (h : crierroom_Count_Packet.f kc 300000 a0 a1 a2 a3 a4 a5 a6 l7 a8 a9 a10 a11 a12 l13 a14 a15 a16 a17 l18 a19 a20 a21 l22 l23 l24 = some r) (hs : 0 ≤ r → P.sum ⟨a0, a1, a2, a3, a4, a5, a6, l7, a8, a9, a10, a11, a12, l13, a14, a15, a16, a17, l18, a19, a20, a21, l22, l23, l24⟩ ≤ 900000) (h2 : crierroom_Count_Packet.f kc2 300000 qa0 qa1 qa2 qa3 qa4 qa5 qa6 ql7 qa8 qa9 qa10 qa11 qa12 ql13 qa14 qa15 qa16 qa17 ql18 qa19 qa20 qa21 ql22 ql23 ql24 = some r2) (hs2 : 0 ≤ r2 → P.sum ⟨qa0, qa1, qa2, qa3, qa4, qa5, qa6, ql7, qa8, qa9, qa10, qa11, qa12, ql13, qa14, qa15, qa16, qa17, ql18, qa19, qa20, qa21, ql22, ql23, ql24⟩ ≤ 900000) :
  Calls Tryd.prog 4 #[.agg #[.int .i64 a0, .int .i64 a1, .bool a2, .int .i64 a3, .string a4, .bool a5, .string a6, .slice A7 l7.length c7, .int .i64 a8, .bool a9, .bool a10, .string a11, .bool a12, .slice A13 l13.length c13, .bool a14, .int .i64 a15, .bool a16, .string a17, .slice A18 l18.length c18, .int .i64 a19, .bool a20, .int .i64 a21, .slice A22 l22.length c22, .slice A23 l23.length c23, .slice A24 l24.length c24], .agg #[.int .i64 qa0, .int .i64 qa1, .bool qa2, .int .i64 qa3, .string qa4, .bool qa5, .string qa6, .slice qA7 ql7.length qc7, .int .i64 qa8, .bool qa9, .bool qa10, .string qa11, .bool qa12, .slice qA13 ql13.length qc13, .bool qa14, .int .i64 qa15, .bool qa16, .string qa17, .slice qA18 ql18.length qc18, .int .i64 qa19, .bool qa20, .int .i64 qa21, .slice qA22 ql22.length qc22, .slice qA23 ql23.length qc23, .slice qA24 ql24.length qc24]] w fun e w' => e = .returned (.bool true) ∧ Below w.heap.size w w' := by
 have hu29 := Tryd.underlying29
 have HT := Aside0.mk hT
 have HT2 := Aside0.mk hT2
 have HR := Aside0.mk hr
 have HQ := Aside0.mk hq
 have H := Aside0.mk h
 have HS0 := Aside0.mk hs
 have H2 := Aside0.mk h2
 have HS02 := Aside0.mk hs2
 have HB := Aside0.mk (Below.refl w.heap.size w)
 clear hT hT2 hr hq h hs h2 hs2
 go_enter Tryd.func4, Tryd.ntmps4
 go_upto_region 1 with (first | ((with_reducible refine gate_dst (N := 2) rfl ?_); refine box_event ?hg2 (N := 2) ?hd2 (cs := #[.int .i64 a0, .int .i64 a1, .bool a2, .int .i64 a3, .string a4, .bool a5, .string a6, .slice A7 l7.length c7, .int .i64 a8, .bool a9, .bool a10, .string a11, .bool a12, .slice A13 l13.length c13, .bool a14, .int .i64 a15, .bool a16, .string a17, .slice A18 l18.length c18, .int .i64 a19, .bool a20, .int .i64 a21, .slice A22 l22.length c22, .slice A23 l23.length c23, .slice A24 l24.length c24]) (t := 29) ?hr2 ?_; (case hd2 => rfl); (case hg2 => rfl); (case hr2 => first | (go_simp; done) | (go_simp; rfl)); intro gb hg w3 hbox hb; have BK := Aside0.mk hbox; have n0_ := Aside0.mk (below_step HB.out hb); clear HB; have HB := n0_; clear n0_ hbox hg hb) | ((with_reducible refine gate_dst (N := 3) rfl ?_); refine box_event ?hg3 (N := 3) ?hd3 (cs := #[.int .i64 qa0, .int .i64 qa1, .bool qa2, .int .i64 qa3, .string qa4, .bool qa5, .string qa6, .slice qA7 ql7.length qc7, .int .i64 qa8, .bool qa9, .bool qa10, .string qa11, .bool qa12, .slice qA13 ql13.length qc13, .bool qa14, .int .i64 qa15, .bool qa16, .string qa17, .slice qA18 ql18.length qc18, .int .i64 qa19, .bool qa20, .int .i64 qa21, .slice qA22 ql22.length qc22, .slice qA23 ql23.length qc23, .slice qA24 ql24.length qc24]) (t := 29) ?hr3 ?_; (case hd3 => rfl); (case hg3 => rfl); (case hr3 => first | (go_simp; done) | (go_simp; rfl)); intro gq hg w4 hbox hb; have BQ := Aside0.mk hbox; have n0_ := Aside0.mk (below_step HB.out hb); have n1_ := Aside0.mk (blk_below BK.out hb); clear HB BK; have HB := n0_; have BK := n1_; clear n0_ n1_ hbox hg hb))
 try simp only [Act.put, List.setIfInBounds_toArray, List.set_cons_zero, List.set_cons_succ]
 generalize (Value.agg #[.int .i64 a0, .int .i64 a1, .bool a2, .int .i64 a3, .string a4, .bool a5, .string a6, .slice A7 l7.length c7, .int .i64 a8, .bool a9, .bool a10, .string a11, .bool a12, .slice A13 l13.length c13, .bool a14, .int .i64 a15, .bool a16, .string a17, .slice A18 l18.length c18, .int .i64 a19, .bool a20, .int .i64 a21, .slice A22 l22.length c22, .slice A23 l23.length c23, .slice A24 l24.length c24]) = v0
 generalize (Value.agg #[.int .i64 qa0, .int .i64 qa1, .bool qa2, .int .i64 qa3, .string qa4, .bool qa5, .string qa6, .slice qA7 ql7.length qc7, .int .i64 qa8, .bool qa9, .bool qa10, .string qa11, .bool qa12, .slice qA13 ql13.length qc13, .bool qa14, .int .i64 qa15, .bool qa16, .string qa17, .slice qA18 ql18.length qc18, .int .i64 qa19, .bool qa20, .int .i64 qa21, .slice qA22 ql22.length qc22, .slice qA23 ql23.length qc23, .slice qA24 ql24.length qc24]) = v1
 go_wp2_with fail
 refine (known_calls _ (HT.out.below (by first | exact HB.out | exact pw_below_drewN HB.out _ | exact HB.out.drew)) (tabs_below HT2.out.1 (by first | exact HB.out | exact pw_below_drewN HB.out _ | exact HB.out.drew))).mono ?_
 rintro e w5 ⟨rfl, hb⟩
 have n_HB := Aside0.mk (below_step (by first | exact HB.out | exact pw_below_drewN HB.out _ | exact HB.out.drew) hb)
 have n_BK := Aside0.mk (blk_below (by first | exact BK.out | exact blk_drewN BK.out _) hb)
 have n_BQ := Aside0.mk (blk_below (by first | exact BQ.out | exact blk_drewN BQ.out _) hb)
 clear HB BK BQ
 have HB := n_HB
 have BK := n_BK
 have BQ := n_BQ
 clear n_HB n_BK n_BQ
 clear hb
 go_wp2_with (first | ((with_reducible refine gate_dst (N := 8) rfl ?_); refine wpList_load_row rfl 29 (.tmp 2) rfl gb rfl 29 #[.int .i64 a0, .int .i64 a1, .bool a2, .int .i64 a3, .string a4, .bool a5, .string a6, .slice A7 l7.length c7, .int .i64 a8, .bool a9, .bool a10, .string a11, .bool a12, .slice A13 l13.length c13, .bool a14, .int .i64 a15, .bool a16, .string a17, .slice A18 l18.length c18, .int .i64 a19, .bool a20, .int .i64 a21, .slice A22 l22.length c22, .slice A23 l23.length c23, .slice A24 l24.length c24] (0, 0) _ (by first | exact BK.out | exact blk_drewN BK.out _) hu29 rfl (by kernel_rfl) ?_))
 refine (right_P a0 a1 a2 a3 a4 a5 a6 A7 c7 l7 a8 a9 a10 a11 a12 A13 c13 l13 a14 a15 a16 a17 A18 c18 l18 a19 a20 a21 A22 c22 l22 A23 c23 l23 A24 c24 l24 kc r _ (HT.out.below (by first | exact HB.out | exact pw_below_drewN HB.out _ | exact HB.out.drew)) (HR.out.below (by first | exact HB.out | exact pw_below_drewN HB.out _ | exact HB.out.drew)) H.out (fun h => by have := HS0.out h; omega)).mono ?_
 rintro e w6 ⟨rfl, hb⟩
 have n_HB := Aside0.mk (below_step (by first | exact HB.out | exact pw_below_drewN HB.out _ | exact HB.out.drew) hb)
 have n_BK := Aside0.mk (blk_below (by first | exact BK.out | exact blk_drewN BK.out _) hb)
 have n_BQ := Aside0.mk (blk_below (by first | exact BQ.out | exact blk_drewN BQ.out _) hb)
 clear HB BK BQ
 have HB := n_HB
 have BK := n_BK
 have BQ := n_BQ
 clear n_HB n_BK n_BQ
 clear hb
 generalize hrt : (decide (r ≥ 0) && (P.check ⟨a0, a1, a2, a3, a4, a5, a6, l7, a8, a9, a10, a11, a12, l13, a14, a15, a16, a17, l18, a19, a20, a21, l22, l23, l24⟩ == 0)) = rt
 cases rt with
 | false =>
  clear hrt
  go_wp2
  go_ret
  exact ⟨rfl, HB.out⟩
 | true =>
  have HC := Aside0.mk (show P.check ⟨a0, a1, a2, a3, a4, a5, a6, l7, a8, a9, a10, a11, a12, l13, a14, a15, a16, a17, l18, a19, a20, a21, l22, l23, l24⟩ = 0 by simp only [Bool.and_eq_true, beq_iff_eq] at hrt; exact hrt.2)
  have HS := Aside0.mk (show P.sum ⟨a0, a1, a2, a3, a4, a5, a6, l7, a8, a9, a10, a11, a12, l13, a14, a15, a16, a17, l18, a19, a20, a21, l22, l23, l24⟩ ≤ 900000 by simp only [Bool.and_eq_true, decide_eq_true_eq] at hrt; exact HS0.out hrt.1)
  have HS2 := Aside0.mk (show P.sum ⟨a0, a1, a2, a3, a4, a5, a6, l7, a8, a9, a10, a11, a12, l13, a14, a15, a16, a17, l18, a19, a20, a21, l22, l23, l24⟩ ≤ 4294967280 by have := HS.out; omega)
  clear hrt HS0 H
  obtain ⟨Lp, hLp⟩ : ∃ x, x = P.length ⟨a0, a1, a2, a3, a4, a5, a6, l7, a8, a9, a10, a11, a12, l13, a14, a15, a16, a17, l18, a19, a20, a21, l22, l23, l24⟩ := ⟨_, rfl⟩
  obtain ⟨Fp, hFp⟩ : ∃ x, x = P.flags ⟨a0, a1, a2, a3, a4, a5, a6, l7, a8, a9, a10, a11, a12, l13, a14, a15, a16, a17, l18, a19, a20, a21, l22, l23, l24⟩ := ⟨_, rfl⟩
  obtain ⟨nm, hnm⟩ : ∃ x, x = Kin.nameV a0 := ⟨_, rfl⟩
  have hL2 : 0 ≤ Lp ∧ Lp ≤ 268435455 := by rw [hLp]; exact len_ok HC.out
  have hlt0 : (Lp < 0) = False := eq_false (by omega)
  have hgt0 : (268435455 < Lp) = False := eq_false (by omega)
  have hnm0 : (nm.toList == []) = false := by rw [hnm]; exact name_ok HC.out
  have hnm1 : nm.toList.isEmpty = false := by rw [hnm]; have h := name_ok HC.out; rw [← h]; show (Kin.nameV a0).toList.isEmpty = ((Kin.nameV a0).toList == []); cases (Kin.nameV a0).toList <;> rfl
  have hnm2 : (nm.toList = []) = False := eq_false (by intro h; rw [h] at hnm0; cases hnm0)
  have LP := Aside0.mk (fun (W : World) (hT_ : HasT W) (hR_ : Rd W A7 c7 l7 A13 c13 l13 A18 c18 l18 A22 c22 l22 A23 c23 l23 A24 c24 l24) => (show Calls Tryd.prog 10 #[.agg #[.int .i64 a0, .int .i64 a1, .bool a2, .int .i64 a3, .string a4, .bool a5, .string a6, .slice A7 l7.length c7, .int .i64 a8, .bool a9, .bool a10, .string a11, .bool a12, .slice A13 l13.length c13, .bool a14, .int .i64 a15, .bool a16, .string a17, .slice A18 l18.length c18, .int .i64 a19, .bool a20, .int .i64 a21, .slice A22 l22.length c22, .slice A23 l23.length c23, .slice A24 l24.length c24]] W fun e w' => e = .returned (.int .i64 Lp) ∧ Below W.heap.size W w' from by have h := Length_P a0 a1 a2 a3 a4 a5 a6 A7 c7 l7 a8 a9 a10 a11 a12 A13 c13 l13 a14 a15 a16 a17 A18 c18 l18 a19 a20 a21 A22 c22 l22 A23 c23 l23 A24 c24 l24 W hT_ hR_ HS2.out; rw [← hLp] at h; exact h))
  have FP := Aside0.mk (fun (W : World) (hT_ : HasT W) (hF_ : Kin.FlagsT W) (hR_ : Rd W A7 c7 l7 A13 c13 l13 A18 c18 l18 A22 c22 l22 A23 c23 l23 A24 c24 l24) => (show Calls Tryd.prog 12 #[.agg #[.int .i64 a0, .int .i64 a1, .bool a2, .int .i64 a3, .string a4, .bool a5, .string a6, .slice A7 l7.length c7, .int .i64 a8, .bool a9, .bool a10, .string a11, .bool a12, .slice A13 l13.length c13, .bool a14, .int .i64 a15, .bool a16, .string a17, .slice A18 l18.length c18, .int .i64 a19, .bool a20, .int .i64 a21, .slice A22 l22.length c22, .slice A23 l23.length c23, .slice A24 l24.length c24]] W fun e w' => e = .returned (.int .i64 Fp) ∧ Below W.heap.size W w' from by have h := Flags_P a0 a1 a2 a3 a4 a5 a6 A7 c7 l7 a8 a9 a10 a11 a12 A13 c13 l13 a14 a15 a16 a17 A18 c18 l18 a19 a20 a21 A22 c22 l22 A23 c23 l23 A24 c24 l24 W hT_ hF_ hR_ HS2.out; rw [← hFp] at h; exact h))
  have MY := Aside0.mk (fun (W : World) (hF_ : Kin.FlagsT W) => (show Calls Tryd.prog 11 #[.int .i64 a0, .int .i64 Fp] W fun e w' => e = .returned (.bool true) ∧ Drawn0 W w' from by have h := Kin.May_calls a0 Fp W hF_; rw [show Kin.mayV a0 Fp = true by rw [hFp]; exact may_ok HC.out] at h; exact h))
  have NM := Aside0.mk (fun (W : World) (hF_ : Kin.Tabs W) => (show Calls Tryd.prog 13 #[.int .i64 a0] W fun e w' => e = .returned (.string nm) ∧ Drawn0 W w' from by have h := Kin.Name_calls a0 W hF_; rw [← hnm] at h; exact h))
  have HLp := Aside0.mk hLp; have HFp := Aside0.mk hFp; clear hLp hFp hnm
  go_wp2_with (first | ((with_reducible refine gate_dst (N := 11) rfl ?_); refine wpList_load_row rfl 29 (.tmp 2) rfl gb rfl 29 #[.int .i64 a0, .int .i64 a1, .bool a2, .int .i64 a3, .string a4, .bool a5, .string a6, .slice A7 l7.length c7, .int .i64 a8, .bool a9, .bool a10, .string a11, .bool a12, .slice A13 l13.length c13, .bool a14, .int .i64 a15, .bool a16, .string a17, .slice A18 l18.length c18, .int .i64 a19, .bool a20, .int .i64 a21, .slice A22 l22.length c22, .slice A23 l23.length c23, .slice A24 l24.length c24] (0, 0) _ (by first | exact BK.out | exact blk_drewN BK.out _) hu29 rfl (by kernel_rfl) ?_))
  refine (LP.out _ (HT.out.below (by first | exact HB.out | exact pw_below_drewN HB.out _ | exact HB.out.drew)) (HR.out.below (by first | exact HB.out | exact pw_below_drewN HB.out _ | exact HB.out.drew))).mono ?_
  rintro e w7 ⟨rfl, hb⟩
  have n_HB := Aside0.mk (below_step (by first | exact HB.out | exact pw_below_drewN HB.out _ | exact HB.out.drew) hb)
  have n_BK := Aside0.mk (blk_below (by first | exact BK.out | exact blk_drewN BK.out _) hb)
  have n_BQ := Aside0.mk (blk_below (by first | exact BQ.out | exact blk_drewN BQ.out _) hb)
  clear HB BK BQ
  have HB := n_HB
  have BK := n_BK
  have BQ := n_BQ
  clear n_HB n_BK n_BQ
  clear hb
  go_upto_region 6 with (fail)
  refine wp_region_noPanic ?_
  refine wp_region_held_drew (S := fun W => W.rangeAt gb 0 [.int .i64 a0, .int .i64 a1, .bool a2, .int .i64 a3, .string a4, .bool a5, .string a6, .slice A7 l7.length c7, .int .i64 a8, .bool a9, .bool a10, .string a11, .bool a12, .slice A13 l13.length c13, .bool a14, .int .i64 a15, .bool a16, .string a17, .slice A18 l18.length c18, .int .i64 a19, .bool a20, .int .i64 a21, .slice A22 l22.length c22, .slice A23 l23.length c23, .slice A24 l24.length c24] ∧ W.cell? ⟨gb, 0, none⟩ = some (.int .i64 a0)) (by kernel_rfl) ?hS6 (fun hHeld => ?_)
  case hS6 => (try dsimp only); exact ⟨rangeAt_blk (by first | exact BK.out | exact blk_drewN BK.out _), (blk_cell (by first | exact BK.out | exact blk_drewN BK.out _) 0).trans rfl⟩
  refine wpAnyH_take (i := 0) (oi := { dst := some 13, op := Go.Op.fieldAddr 29 (Go.Operand.tmp 2) 0, type := 0, pos := "outright.go:34", after := #[], guard := none }) (v := ?v1) rfl (by kernel_rfl) (by kernel_rfl) (by kernel_rfl) (fun _ _ _ h => h) (Or.inl ⟨by rfl, ?hy1⟩) (by assumption) ?rest1
  case hy1 => (intro w hSw; (try dsimp only at hSw); (try go_simp); (try with_reducible rfl))
  try simp only [Act.put, List.setIfInBounds_toArray, List.set_cons_zero, List.set_cons_succ]
  refine wpAnyH_take (i := 1) (oi := { dst := some 14, op := Go.Op.load 3 (Go.Operand.tmp 13), type := 3, pos := "outright.go:34", after := #[{ on := 0, ground := Go.Ground.data }], guard := none }) (v := ?v2) rfl (by kernel_rfl) (by kernel_rfl) (by kernel_rfl) (fun _ _ _ h => h) (Or.inl ⟨by rfl, ?hy2⟩) (by assumption) ?rest2
  case hy2 => (intro w hSw; (try dsimp only at hSw); (try go_simp); (try with_reducible rfl))
  try simp only [Act.put, List.setIfInBounds_toArray, List.set_cons_zero, List.set_cons_succ]
  refine' wpAnyH_take (i := 2) (oi := { dst := some 15, op := Go.Op.load 29 (Go.Operand.tmp 2), type := 29, pos := "outright.go:34", after := #[], guard := none }) (v := _) rfl (by kernel_rfl) (by kernel_rfl) (by kernel_rfl) (fun _ _ _ h => h) (yieldsIf_load_mid (by rfl) _ _ rfl _ _ rfl _ _ ?hS3 ?hu3 ?hd3 ?hi3) (by assumption) ?rest3
  case hS3 => (intro w hSw; exact hSw.1)
  case hu3 => exact hu29
  case hd3 => rfl
  case hi3 => kernel_rfl
  try simp only [Act.put, List.setIfInBounds_toArray, List.set_cons_zero, List.set_cons_succ]
  refine wpAnyH_ready (rs := [3]) (by kernel_rfl) (by simp) ?_
  refine AllReadyH.cons (o := { dst := some 16, op := Go.Op.call { callee := Go.Callee.value (Go.Operand.func 12), args := #[Go.Operand.tmp 15], argTypes := #[29] }, type := 3, pos := "outright.go:34", after := #[{ on := 2, ground := Go.Ground.data }], guard := none }) rfl (fun K hK => ?_) AllReadyH.nil
  go_simp
  refine (FP.out _ (HT.out.below (by first | exact HB.out | exact pw_below_drewN HB.out _ | exact HB.out.drew)) (tabs_below HT2.out.1 (by first | exact HB.out | exact pw_below_drewN HB.out _ | exact HB.out.drew)) (HR.out.below (by first | exact HB.out | exact pw_below_drewN HB.out _ | exact HB.out.drew))).mono ?_
  rintro e w' ⟨rfl, hb⟩
  have n0_ := Aside0.mk (below_step (by first | exact HB.out | exact pw_below_drewN HB.out _ | exact HB.out.drew) hb)
  have n1_ := Aside0.mk (blk_below (by first | exact BK.out | exact blk_drewN BK.out _) hb)
  have n2_ := Aside0.mk (blk_below (by first | exact BQ.out | exact blk_drewN BQ.out _) hb)
  clear HB BK BQ hb
  have HB := n0_
  have BK := n1_
  have BQ := n2_
  clear n0_ n1_ n2_
  go_wp2_with fail
  refine hK.out _ _ ?hSS4 (fun hHeld2 => ?_)
  case hSS4 => (try dsimp only); exact ⟨rangeAt_blk (by first | exact BK.out | exact blk_drewN BK.out _), (blk_cell (by first | exact BK.out | exact blk_drewN BK.out _) 0).trans rfl⟩
  clear hK K hHeld
  have hHeld := hHeld2
  clear hHeld2
  try simp only [Act.put, List.setIfInBounds_toArray, List.set_cons_zero, List.set_cons_succ]
  refine wpAnyH_ready (rs := [4]) (by kernel_rfl) (by simp) ?_
  refine AllReadyH.cons (o := { dst := some 17, op := Go.Op.call { callee := Go.Callee.value (Go.Operand.func 11), args := #[Go.Operand.tmp 14, Go.Operand.tmp 16], argTypes := #[3, 3] }, type := 4, pos := "outright.go:34", after := #[{ on := 1, ground := Go.Ground.data }, { on := 3, ground := Go.Ground.data }, { on := 3, ground := Go.Ground.chain }], guard := none }) rfl (fun K hK => ?_) AllReadyH.nil
  go_simp
  refine (MY.out _ (tabs_below HT2.out.1 (by first | exact HB.out | exact pw_below_drewN HB.out _ | exact HB.out.drew))).mono ?_
  rintro e w' ⟨rfl, ⟨nd, rfl⟩⟩
  go_wp2_with fail
  refine hK.out _ _ ?hSS5 (fun hHeld2 => ?_)
  case hSS5 => (try dsimp only); exact ⟨rangeAt_blk (by first | exact BK.out | exact blk_drewN BK.out _), (blk_cell (by first | exact BK.out | exact blk_drewN BK.out _) 0).trans rfl⟩
  clear hK K hHeld
  have hHeld := hHeld2
  clear hHeld2
  try simp only [Act.put, List.setIfInBounds_toArray, List.set_cons_zero, List.set_cons_succ]
  refine wpAnyH_take (i := 5) (oi := { dst := some 18, op := Go.Op.unOp Go.UnOp.not 4 (Go.Operand.tmp 17), type := 4, pos := "outright.go:34", after := #[{ on := 4, ground := Go.Ground.data }], guard := none }) (v := ?v6) rfl (by kernel_rfl) (by kernel_rfl) (by kernel_rfl) (fun _ _ _ h => h) (Or.inl ⟨by rfl, ?hy6⟩) (by assumption) ?rest6
  case hy6 => (intro w hSw; (try dsimp only at hSw); (try go_simp); (try with_reducible rfl))
  try simp only [Act.put, List.setIfInBounds_toArray, List.set_cons_zero, List.set_cons_succ]
  refine wpAnyH_take (i := 6) (oi := { dst := some 19, op := Go.Op.move (Go.Operand.tmp 18), type := 4, pos := "outright.go:34", after := #[{ on := 5, ground := Go.Ground.data }, { on := 4, ground := Go.Ground.chain }], guard := none }) (v := ?v7) rfl (by kernel_rfl) (by kernel_rfl) (by kernel_rfl) (fun _ _ _ h => h) (Or.inl ⟨by rfl, ?hy7⟩) (by assumption) ?rest7
  case hy7 => (intro w hSw; (try dsimp only at hSw); (try go_simp); (try with_reducible rfl))
  try simp only [Act.put, List.setIfInBounds_toArray, List.set_cons_zero, List.set_cons_succ]
  refine wpAnyH_take (i := 7) (oi := { dst := some 20, op := Go.Op.move (Go.Operand.tmp 5), type := 3, pos := "outright.go:34", after := #[{ on := 6, ground := Go.Ground.guard }], guard := some (6, false) }) (v := ?v8) rfl (by kernel_rfl) (by kernel_rfl) (by kernel_rfl) (fun _ _ _ h => h) (Or.inl ⟨by rfl, ?hy8⟩) (by assumption) ?rest8
  case hy8 => (intro w hSw; (try dsimp only at hSw); (try go_simp); (try with_reducible rfl))
  try simp only [Act.put, List.setIfInBounds_toArray, List.set_cons_zero, List.set_cons_succ]
  refine wpAnyH_take (i := 8) (oi := { dst := some 21, op := Go.Op.binOp Go.BinOp.lss 3 (Go.Operand.tmp 20) (Go.Operand.const (Go.Value.int Go.IntKind.i64 0)) 3, type := 4, pos := "outright.go:34", after := #[{ on := 7, ground := Go.Ground.data }, { on := 6, ground := Go.Ground.guard }], guard := some (6, false) }) (v := ?v9) rfl (by kernel_rfl) (by kernel_rfl) (by kernel_rfl) (fun _ _ _ h => h) (Or.inl ⟨by rfl, ?hy9⟩) (by assumption) ?rest9
  case hy9 => (intro w hSw; (try dsimp only at hSw); (try go_simp); (try with_reducible rfl))
  try simp only [Act.put, List.setIfInBounds_toArray, List.set_cons_zero, List.set_cons_succ]
  refine wpAnyH_take (i := 9) (oi := { dst := some 22, op := Go.Op.pick (Go.Operand.tmp 19) (Go.Operand.const (Go.Value.bool true)) (Go.Operand.tmp 21), type := 4, pos := "outright.go:34", after := #[{ on := 6, ground := Go.Ground.data }, { on := 8, ground := Go.Ground.data }], guard := none }) (v := ?v10) rfl (by kernel_rfl) (by kernel_rfl) (by kernel_rfl) (fun _ _ _ h => h) (Or.inl ⟨by rfl, ?hy10⟩) (by assumption) ?rest10
  case hy10 => (intro w hSw; (try dsimp only at hSw); (try go_simp); (try with_reducible rfl))
  try simp only [Act.put, List.setIfInBounds_toArray, List.set_cons_zero, List.set_cons_succ]
  refine wpAnyH_take (i := 10) (oi := { dst := some 23, op := Go.Op.move (Go.Operand.tmp 22), type := 4, pos := "outright.go:34", after := #[{ on := 9, ground := Go.Ground.data }, { on := 6, ground := Go.Ground.chain }], guard := none }) (v := ?v11) rfl (by kernel_rfl) (by kernel_rfl) (by kernel_rfl) (fun _ _ _ h => h) (Or.inl ⟨by rfl, ?hy11⟩) (by assumption) ?rest11
  case hy11 => (intro w hSw; (try dsimp only at hSw); (try go_simp); (try with_reducible rfl))
  try simp only [Act.put, List.setIfInBounds_toArray, List.set_cons_zero, List.set_cons_succ]
  refine wpAnyH_take (i := 11) (oi := { dst := some 24, op := Go.Op.move (Go.Operand.tmp 5), type := 3, pos := "outright.go:34", after := #[{ on := 10, ground := Go.Ground.guard }], guard := some (10, false) }) (v := ?v12) rfl (by kernel_rfl) (by kernel_rfl) (by kernel_rfl) (fun _ _ _ h => h) (Or.inl ⟨by rfl, ?hy12⟩) (by assumption) ?rest12
  case hy12 => (intro w hSw; (try dsimp only at hSw); (try go_simp); (try with_reducible rfl))
  try simp only [Act.put, List.setIfInBounds_toArray, List.set_cons_zero, List.set_cons_succ]
  refine wpAnyH_take (i := 12) (oi := { dst := some 25, op := Go.Op.binOp Go.BinOp.gtr 3 (Go.Operand.tmp 24) (Go.Operand.const (Go.Value.int Go.IntKind.i64 268435455)) 3, type := 4, pos := "outright.go:34", after := #[{ on := 11, ground := Go.Ground.data }, { on := 10, ground := Go.Ground.guard }], guard := some (10, false) }) (v := ?v13) rfl (by kernel_rfl) (by kernel_rfl) (by kernel_rfl) (fun _ _ _ h => h) (Or.inl ⟨by rfl, ?hy13⟩) (by assumption) ?rest13
  case hy13 => (intro w hSw; (try dsimp only at hSw); (try go_simp); (try with_reducible rfl))
  try simp only [Act.put, List.setIfInBounds_toArray, List.set_cons_zero, List.set_cons_succ]
  refine wpAnyH_take (i := 13) (oi := { dst := some 26, op := Go.Op.pick (Go.Operand.tmp 23) (Go.Operand.const (Go.Value.bool true)) (Go.Operand.tmp 25), type := 4, pos := "outright.go:34", after := #[{ on := 10, ground := Go.Ground.data }, { on := 12, ground := Go.Ground.data }], guard := none }) (v := ?v14) rfl (by kernel_rfl) (by kernel_rfl) (by kernel_rfl) (fun _ _ _ h => h) (Or.inl ⟨by rfl, ?hy14⟩) (by assumption) ?rest14
  case hy14 => (intro w hSw; (try dsimp only at hSw); (try go_simp); (try with_reducible rfl))
  try simp only [Act.put, List.setIfInBounds_toArray, List.set_cons_zero, List.set_cons_succ]
  refine wpAnyH_take (i := 14) (oi := { dst := some 27, op := Go.Op.move (Go.Operand.tmp 26), type := 4, pos := "outright.go:34", after := #[{ on := 13, ground := Go.Ground.data }, { on := 10, ground := Go.Ground.chain }], guard := none }) (v := ?v15) rfl (by kernel_rfl) (by kernel_rfl) (by kernel_rfl) (fun _ _ _ h => h) (Or.inl ⟨by rfl, ?hy15⟩) (by assumption) ?rest15
  case hy15 => (intro w hSw; (try dsimp only at hSw); (try go_simp); (try with_reducible rfl))
  try simp only [Act.put, List.setIfInBounds_toArray, List.set_cons_zero, List.set_cons_succ]
  refine wpAnyH_take (i := 15) (oi := { dst := some 28, op := Go.Op.fieldAddr 29 (Go.Operand.tmp 2) 0, type := 0, pos := "outright.go:34", after := #[{ on := 14, ground := Go.Ground.guard }], guard := some (14, false) }) (v := ?v16) rfl (by kernel_rfl) (by kernel_rfl) (by kernel_rfl) (fun _ _ _ h => h) (Or.inl ⟨by rfl, ?hy16⟩) (by assumption) ?rest16
  case hy16 => (intro w hSw; (try dsimp only at hSw); (try go_simp); (try with_reducible rfl))
  try simp only [Act.put, List.setIfInBounds_toArray, List.set_cons_zero, List.set_cons_succ]
  refine wpAnyH_take (i := 16) (oi := { dst := some 29, op := Go.Op.load 3 (Go.Operand.tmp 28), type := 3, pos := "outright.go:34", after := #[{ on := 15, ground := Go.Ground.data }, { on := 14, ground := Go.Ground.guard }], guard := some (14, false) }) (v := ?v17) rfl (by kernel_rfl) (by kernel_rfl) (by kernel_rfl) (fun _ _ _ h => h) (Or.inl ⟨by rfl, ?hy17⟩) (by assumption) ?rest17
  case hy17 => (intro w hSw; (try dsimp only at hSw); (try go_simp); (try with_reducible rfl))
  try simp only [Act.put, List.setIfInBounds_toArray, List.set_cons_zero, List.set_cons_succ]
  refine wpAnyH_ready (rs := [17]) (by kernel_rfl) (by simp) ?_
  refine AllReadyH.cons (o := { dst := some 30, op := Go.Op.call { callee := Go.Callee.value (Go.Operand.func 13), args := #[Go.Operand.tmp 29], argTypes := #[3] }, type := 9, pos := "outright.go:34", after := #[{ on := 16, ground := Go.Ground.data }, { on := 14, ground := Go.Ground.chain }, { on := 14, ground := Go.Ground.guard }], guard := some (14, false) }) rfl (fun K hK => ?_) AllReadyH.nil
  go_simp
  refine (NM.out _ (names_below HT2.out (by first | exact HB.out | exact pw_below_drewN HB.out _ | exact HB.out.drew))).mono ?_
  rintro e w' ⟨rfl, ⟨nn, rfl⟩⟩
  go_wp2_with fail
  refine hK.out _ _ ?hSS18 (fun hHeld2 => ?_)
  case hSS18 => (try dsimp only); exact ⟨rangeAt_blk (by first | exact BK.out | exact blk_drewN BK.out _), (blk_cell (by first | exact BK.out | exact blk_drewN BK.out _) 0).trans rfl⟩
  clear hK K hHeld
  have hHeld := hHeld2
  clear hHeld2
  try simp only [Act.put, List.setIfInBounds_toArray, List.set_cons_zero, List.set_cons_succ]
  refine wpAnyH_take (i := 18) (oi := { dst := some 31, op := Go.Op.binOp Go.BinOp.eql 9 (Go.Operand.tmp 30) (Go.Operand.const (Go.Value.string { data := #[] })) 9, type := 4, pos := "outright.go:34", after := #[{ on := 17, ground := Go.Ground.data }, { on := 14, ground := Go.Ground.guard }], guard := some (14, false) }) (v := ?v19) rfl (by kernel_rfl) (by kernel_rfl) (by kernel_rfl) (fun _ _ _ h => h) (Or.inl ⟨by rfl, ?hy19⟩) (by assumption) ?rest19
  case hy19 => (intro w hSw; (try dsimp only at hSw); (try go_simp); (try with_reducible rfl))
  try simp only [Act.put, List.setIfInBounds_toArray, List.set_cons_zero, List.set_cons_succ]
  refine wpAnyH_take (i := 19) (oi := { dst := some 32, op := Go.Op.pick (Go.Operand.tmp 27) (Go.Operand.const (Go.Value.bool true)) (Go.Operand.tmp 31), type := 4, pos := "outright.go:34", after := #[{ on := 14, ground := Go.Ground.data }, { on := 18, ground := Go.Ground.data }], guard := none }) (v := ?v20) rfl (by kernel_rfl) (by kernel_rfl) (by kernel_rfl) (fun _ _ _ h => h) (Or.inl ⟨by rfl, ?hy20⟩) (by assumption) ?rest20
  case hy20 => (intro w hSw; (try dsimp only at hSw); (try go_simp); (try with_reducible rfl))
  try simp only [Act.put, List.setIfInBounds_toArray, List.set_cons_zero, List.set_cons_succ]
  refine wpAnyH_take (i := 20) (oi := { dst := some 33, op := Go.Op.move (Go.Operand.tmp 32), type := 4, pos := "outright.go:34", after := #[{ on := 19, ground := Go.Ground.data }, { on := 17, ground := Go.Ground.chain }], guard := none }) (v := ?v21) rfl (by kernel_rfl) (by kernel_rfl) (by kernel_rfl) (fun _ _ _ h => h) (Or.inl ⟨by rfl, ?hy21⟩) (by assumption) ?rest21
  case hy21 => (intro w hSw; (try dsimp only at hSw); (try go_simp); (try with_reducible rfl))
  try simp only [Act.put, List.setIfInBounds_toArray, List.set_cons_zero, List.set_cons_succ]
  refine' wpAnyH_take (i := 21) (oi := { dst := some 34, op := Go.Op.load 29 (Go.Operand.tmp 2), type := 29, pos := "outright.go:34", after := #[{ on := 20, ground := Go.Ground.guard }], guard := some (20, false) }) (v := _) rfl (by kernel_rfl) (by kernel_rfl) (by kernel_rfl) (fun _ _ _ h => h) (yieldsIf_load_mid (by rfl) _ _ rfl _ _ rfl _ _ ?hS22 ?hu22 ?hd22 ?hi22) (by assumption) ?rest22
  case hS22 => (intro w hSw; exact hSw.1)
  case hu22 => exact hu29
  case hd22 => rfl
  case hi22 => kernel_rfl
  try simp only [Act.put, List.setIfInBounds_toArray, List.set_cons_zero, List.set_cons_succ]
  refine' wpAnyH_take (i := 22) (oi := { dst := some 35, op := Go.Op.load 29 (Go.Operand.tmp 2), type := 29, pos := "outright.go:34", after := #[{ on := 20, ground := Go.Ground.guard }], guard := some (20, false) }) (v := _) rfl (by kernel_rfl) (by kernel_rfl) (by kernel_rfl) (fun _ _ _ h => h) (yieldsIf_load_mid (by rfl) _ _ rfl _ _ rfl _ _ ?hS23 ?hu23 ?hd23 ?hi23) (by assumption) ?rest23
  case hS23 => (intro w hSw; exact hSw.1)
  case hu23 => exact hu29
  case hd23 => rfl
  case hi23 => kernel_rfl
  try simp only [Act.put, List.setIfInBounds_toArray, List.set_cons_zero, List.set_cons_succ]
  refine wpAnyH_ready (rs := [23]) (by kernel_rfl) (by simp) ?_
  refine AllReadyH.cons (o := { dst := some 36, op := Go.Op.call { callee := Go.Callee.value (Go.Operand.func 7), args := #[Go.Operand.tmp 35], argTypes := #[29] }, type := 29, pos := "outright.go:34", after := #[{ on := 22, ground := Go.Ground.data }, { on := 20, ground := Go.Ground.chain }, { on := 20, ground := Go.Ground.guard }], guard := some (20, false) }) rfl (fun K hK => ?_) AllReadyH.nil
  go_simp
  refine (Copy_calls a0 a1 a2 a3 a4 a5 a6 A7 c7 l7 a8 a9 a10 a11 a12 A13 c13 l13 a14 a15 a16 a17 A18 c18 l18 a19 a20 a21 A22 c22 l22 A23 c23 l23 A24 c24 l24 _ (HR.out.below (by first | exact HB.out | exact pw_below_drewN HB.out _ | exact HB.out.drew)) HS2.out).mono ?_
  rintro e w' ⟨B7, d7, B13, d13, B18, d18, B22, d22, B23, d23, B24, d24, rfl, hrq, hfq, hb⟩
  have RC := Aside0.mk hrq
  clear hrq hfq
  have n0_ := Aside0.mk (below_step (by first | exact HB.out | exact pw_below_drewN HB.out _ | exact HB.out.drew) hb)
  have n1_ := Aside0.mk (blk_below (by first | exact BK.out | exact blk_drewN BK.out _) hb)
  have n2_ := Aside0.mk (blk_below (by first | exact BQ.out | exact blk_drewN BQ.out _) hb)
  clear HB BK BQ hb
  have HB := n0_
  have BK := n1_
  have BQ := n2_
  clear n0_ n1_ n2_
  go_wp2_with fail
  refine hK.out _ _ ?hSS24 (fun hHeld2 => ?_)
  case hSS24 => (try dsimp only); exact ⟨rangeAt_blk (by first | exact BK.out | exact blk_drewN BK.out _), (blk_cell (by first | exact BK.out | exact blk_drewN BK.out _) 0).trans rfl⟩
  clear hK K hHeld
  have hHeld := hHeld2
  clear hHeld2
  try simp only [Act.put, List.setIfInBounds_toArray, List.set_cons_zero, List.set_cons_succ]
  refine wpAnyH_ready (rs := [24]) (by kernel_rfl) (by simp) ?_
  refine AllReadyH.cons (o := { dst := some 37, op := Go.Op.call { callee := Go.Callee.value (Go.Operand.func 14), args := #[Go.Operand.tmp 34, Go.Operand.tmp 36], argTypes := #[29, 29] }, type := 4, pos := "outright.go:34", after := #[{ on := 21, ground := Go.Ground.data }, { on := 23, ground := Go.Ground.data }, { on := 23, ground := Go.Ground.chain }, { on := 20, ground := Go.Ground.guard }], guard := some (20, false) }) rfl (fun K hK => ?_) AllReadyH.nil
  go_simp
  refine (Same_P a0 a1 a2 a3 a4 a5 a6 A7 c7 l7 a8 a9 a10 a11 a12 A13 c13 l13 a14 a15 a16 a17 A18 c18 l18 a19 a20 a21 A22 c22 l22 A23 c23 l23 A24 c24 l24 a0 a1 a2 a3 a4 a5 a6 B7 d7 l7 a8 a9 a10 a11 a12 B13 d13 l13 a14 a15 a16 a17 B18 d18 l18 a19 a20 a21 B22 d22 l22 B23 d23 l23 B24 d24 l24 true _ (HR.out.below (by first | exact HB.out | exact pw_below_drewN HB.out _ | exact HB.out.drew)) RC.out HS2.out (iff_of_true rfl (Alike.refl _))).mono ?_
  rintro e w' ⟨rfl, hb⟩
  have n0_ := Aside0.mk (below_step (by first | exact HB.out | exact pw_below_drewN HB.out _ | exact HB.out.drew) hb)
  have n1_ := Aside0.mk (blk_below (by first | exact BK.out | exact blk_drewN BK.out _) hb)
  have n2_ := Aside0.mk (blk_below (by first | exact BQ.out | exact blk_drewN BQ.out _) hb)
  clear HB BK BQ hb
  have HB := n0_
  have BK := n1_
  have BQ := n2_
  clear n0_ n1_ n2_
  go_wp2_with fail
  refine hK.out _ _ ?hSS25 (fun hHeld2 => ?_)
  case hSS25 => (try dsimp only); exact ⟨rangeAt_blk (by first | exact BK.out | exact blk_drewN BK.out _), (blk_cell (by first | exact BK.out | exact blk_drewN BK.out _) 0).trans rfl⟩
  clear hK K hHeld
  have hHeld := hHeld2
  clear hHeld2
  try simp only [Act.put, List.setIfInBounds_toArray, List.set_cons_zero, List.set_cons_succ]
  refine wpAnyH_take (i := 25) (oi := { dst := some 38, op := Go.Op.unOp Go.UnOp.not 4 (Go.Operand.tmp 37), type := 4, pos := "outright.go:34", after := #[{ on := 24, ground := Go.Ground.data }, { on := 20, ground := Go.Ground.guard }], guard := some (20, false) }) (v := ?v26) rfl (by kernel_rfl) (by kernel_rfl) (by kernel_rfl) (fun _ _ _ h => h) (Or.inl ⟨by rfl, ?hy26⟩) (by assumption) ?rest26
  case hy26 => (intro w hSw; (try dsimp only at hSw); (try go_simp); (try with_reducible rfl))
  try simp only [Act.put, List.setIfInBounds_toArray, List.set_cons_zero, List.set_cons_succ]
  refine wpAnyH_take (i := 26) (oi := { dst := some 39, op := Go.Op.pick (Go.Operand.tmp 33) (Go.Operand.const (Go.Value.bool true)) (Go.Operand.tmp 38), type := 4, pos := "outright.go:34", after := #[{ on := 20, ground := Go.Ground.data }, { on := 25, ground := Go.Ground.data }], guard := none }) (v := ?v27) rfl (by kernel_rfl) (by kernel_rfl) (by kernel_rfl) (fun _ _ _ h => h) (Or.inl ⟨by rfl, ?hy27⟩) (by assumption) ?rest27
  case hy27 => (intro w hSw; (try dsimp only at hSw); (try go_simp); (try with_reducible rfl))
  try simp only [Act.put, List.setIfInBounds_toArray, List.set_cons_zero, List.set_cons_succ]
  refine wpAnyH_done (by kernel_rfl) ?_ _
  refine NoPanic.normal ?_
  go_upto_region 8 with (fail)
  go_wp2_with (first | ((with_reducible refine gate_dst (N := 40) rfl ?_); refine wpList_load_row rfl 29 (.tmp 3) rfl gq rfl 29 #[.int .i64 qa0, .int .i64 qa1, .bool qa2, .int .i64 qa3, .string qa4, .bool qa5, .string qa6, .slice qA7 ql7.length qc7, .int .i64 qa8, .bool qa9, .bool qa10, .string qa11, .bool qa12, .slice qA13 ql13.length qc13, .bool qa14, .int .i64 qa15, .bool qa16, .string qa17, .slice qA18 ql18.length qc18, .int .i64 qa19, .bool qa20, .int .i64 qa21, .slice qA22 ql22.length qc22, .slice qA23 ql23.length qc23, .slice qA24 ql24.length qc24] (0, 0) _ (by first | exact BQ.out | exact blk_drewN BQ.out _) hu29 rfl (by kernel_rfl) ?_))
  refine (right_P qa0 qa1 qa2 qa3 qa4 qa5 qa6 qA7 qc7 ql7 qa8 qa9 qa10 qa11 qa12 qA13 qc13 ql13 qa14 qa15 qa16 qa17 qA18 qc18 ql18 qa19 qa20 qa21 qA22 qc22 ql22 qA23 qc23 ql23 qA24 qc24 ql24 kc2 r2 _ (HT.out.below (by first | exact HB.out | exact pw_below_drewN HB.out _ | exact HB.out.drew)) (HQ.out.below (by first | exact HB.out | exact pw_below_drewN HB.out _ | exact HB.out.drew)) H2.out (fun h => by have := HS02.out h; omega)).mono ?_
  rintro e w8 ⟨rfl, hb⟩
  have n_HB := Aside0.mk (below_step (by first | exact HB.out | exact pw_below_drewN HB.out _ | exact HB.out.drew) hb)
  have n_BK := Aside0.mk (blk_below (by first | exact BK.out | exact blk_drewN BK.out _) hb)
  have n_BQ := Aside0.mk (blk_below (by first | exact BQ.out | exact blk_drewN BQ.out _) hb)
  clear HB BK BQ
  have HB := n_HB
  have BK := n_BK
  have BQ := n_BQ
  clear n_HB n_BK n_BQ
  clear hb
  generalize hrt : (decide (r2 ≥ 0) && (P.check ⟨qa0, qa1, qa2, qa3, qa4, qa5, qa6, ql7, qa8, qa9, qa10, qa11, qa12, ql13, qa14, qa15, qa16, qa17, ql18, qa19, qa20, qa21, ql22, ql23, ql24⟩ == 0)) = rt
  cases rt with
  | false =>
   clear hrt
   go_wp2
   go_ret
   exact ⟨rfl, HB.out⟩
  | true =>
   have HSQ := Aside0.mk (show P.sum ⟨qa0, qa1, qa2, qa3, qa4, qa5, qa6, ql7, qa8, qa9, qa10, qa11, qa12, ql13, qa14, qa15, qa16, qa17, ql18, qa19, qa20, qa21, ql22, ql23, ql24⟩ ≤ 4294967280 by simp only [Bool.and_eq_true, decide_eq_true_eq] at hrt; have := HS02.out hrt.1; omega)
   clear hrt HS02 H2
   obtain ⟨R1, hR1⟩ : ∃ R : Bool, (R = true ↔ Alike ⟨a0, a1, a2, a3, a4, a5, a6, l7, a8, a9, a10, a11, a12, l13, a14, a15, a16, a17, l18, a19, a20, a21, l22, l23, l24⟩ ⟨qa0, qa1, qa2, qa3, qa4, qa5, qa6, ql7, qa8, qa9, qa10, qa11, qa12, ql13, qa14, qa15, qa16, qa17, ql18, qa19, qa20, qa21, ql22, ql23, ql24⟩) := by classical exact ⟨decide (Alike ⟨a0, a1, a2, a3, a4, a5, a6, l7, a8, a9, a10, a11, a12, l13, a14, a15, a16, a17, l18, a19, a20, a21, l22, l23, l24⟩ ⟨qa0, qa1, qa2, qa3, qa4, qa5, qa6, ql7, qa8, qa9, qa10, qa11, qa12, ql13, qa14, qa15, qa16, qa17, ql18, qa19, qa20, qa21, ql22, ql23, ql24⟩), decide_eq_true_iff⟩
   have HR1 := Aside0.mk hR1
   clear hR1
   go_wp2_with (first | ((with_reducible refine gate_dst (N := 44) rfl ?_); refine wpList_load_rowG (by rfl) 29 (.tmp 2) rfl gb rfl 29 #[.int .i64 a0, .int .i64 a1, .bool a2, .int .i64 a3, .string a4, .bool a5, .string a6, .slice A7 l7.length c7, .int .i64 a8, .bool a9, .bool a10, .string a11, .bool a12, .slice A13 l13.length c13, .bool a14, .int .i64 a15, .bool a16, .string a17, .slice A18 l18.length c18, .int .i64 a19, .bool a20, .int .i64 a21, .slice A22 l22.length c22, .slice A23 l23.length c23, .slice A24 l24.length c24] (0, 0) _ (by first | exact BK.out | exact blk_drewN BK.out _) hu29 rfl (by kernel_rfl) ?_) | ((with_reducible refine gate_dst (N := 45) rfl ?_); refine wpList_load_rowG (by rfl) 29 (.tmp 3) rfl gq rfl 29 #[.int .i64 qa0, .int .i64 qa1, .bool qa2, .int .i64 qa3, .string qa4, .bool qa5, .string qa6, .slice qA7 ql7.length qc7, .int .i64 qa8, .bool qa9, .bool qa10, .string qa11, .bool qa12, .slice qA13 ql13.length qc13, .bool qa14, .int .i64 qa15, .bool qa16, .string qa17, .slice qA18 ql18.length qc18, .int .i64 qa19, .bool qa20, .int .i64 qa21, .slice qA22 ql22.length qc22, .slice qA23 ql23.length qc23, .slice qA24 ql24.length qc24] (0, 0) _ (by first | exact BQ.out | exact blk_drewN BQ.out _) hu29 rfl (by kernel_rfl) ?_))
   refine (Same_P a0 a1 a2 a3 a4 a5 a6 A7 c7 l7 a8 a9 a10 a11 a12 A13 c13 l13 a14 a15 a16 a17 A18 c18 l18 a19 a20 a21 A22 c22 l22 A23 c23 l23 A24 c24 l24 qa0 qa1 qa2 qa3 qa4 qa5 qa6 qA7 qc7 ql7 qa8 qa9 qa10 qa11 qa12 qA13 qc13 ql13 qa14 qa15 qa16 qa17 qA18 qc18 ql18 qa19 qa20 qa21 qA22 qc22 ql22 qA23 qc23 ql23 qA24 qc24 ql24 R1 _ (HR.out.below (by first | exact HB.out | exact pw_below_drewN HB.out _ | exact HB.out.drew)) (HQ.out.below (by first | exact HB.out | exact pw_below_drewN HB.out _ | exact HB.out.drew)) HS2.out HR1.out).mono ?_
   rintro e w9 ⟨rfl, hb⟩
   have n_HB := Aside0.mk (below_step (by first | exact HB.out | exact pw_below_drewN HB.out _ | exact HB.out.drew) hb)
   have n_BK := Aside0.mk (blk_below (by first | exact BK.out | exact blk_drewN BK.out _) hb)
   have n_BQ := Aside0.mk (blk_below (by first | exact BQ.out | exact blk_drewN BQ.out _) hb)
   clear HB BK BQ
   have HB := n_HB
   have BK := n_BK
   have BQ := n_BQ
   clear n_HB n_BK n_BQ
   clear hb
   cases R1 with
   | false =>
    go_wp2
    go_ret
    exact ⟨rfl, HB.out⟩
   | true =>
    have HAL := Aside0.mk (HR1.out.1 rfl)
    have LQ := Aside0.mk (fun (W : World) (hT_ : HasT W) (hR_ : Rd W qA7 qc7 ql7 qA13 qc13 ql13 qA18 qc18 ql18 qA22 qc22 ql22 qA23 qc23 ql23 qA24 qc24 ql24) => (show Calls Tryd.prog 10 #[.agg #[.int .i64 qa0, .int .i64 qa1, .bool qa2, .int .i64 qa3, .string qa4, .bool qa5, .string qa6, .slice qA7 ql7.length qc7, .int .i64 qa8, .bool qa9, .bool qa10, .string qa11, .bool qa12, .slice qA13 ql13.length qc13, .bool qa14, .int .i64 qa15, .bool qa16, .string qa17, .slice qA18 ql18.length qc18, .int .i64 qa19, .bool qa20, .int .i64 qa21, .slice qA22 ql22.length qc22, .slice qA23 ql23.length qc23, .slice qA24 ql24.length qc24]] W fun e w' => e = .returned (.int .i64 Lp) ∧ Below W.heap.size W w' from by have h := Length_P qa0 qa1 qa2 qa3 qa4 qa5 qa6 qA7 qc7 ql7 qa8 qa9 qa10 qa11 qa12 qA13 qc13 ql13 qa14 qa15 qa16 qa17 qA18 qc18 ql18 qa19 qa20 qa21 qA22 qc22 ql22 qA23 qc23 ql23 qA24 qc24 ql24 W hT_ hR_ HSQ.out; rw [← HAL.out.length, ← HLp.out] at h; exact h))
    have FQ := Aside0.mk (fun (W : World) (hT_ : HasT W) (hF_ : Kin.FlagsT W) (hR_ : Rd W qA7 qc7 ql7 qA13 qc13 ql13 qA18 qc18 ql18 qA22 qc22 ql22 qA23 qc23 ql23 qA24 qc24 ql24) => (show Calls Tryd.prog 12 #[.agg #[.int .i64 qa0, .int .i64 qa1, .bool qa2, .int .i64 qa3, .string qa4, .bool qa5, .string qa6, .slice qA7 ql7.length qc7, .int .i64 qa8, .bool qa9, .bool qa10, .string qa11, .bool qa12, .slice qA13 ql13.length qc13, .bool qa14, .int .i64 qa15, .bool qa16, .string qa17, .slice qA18 ql18.length qc18, .int .i64 qa19, .bool qa20, .int .i64 qa21, .slice qA22 ql22.length qc22, .slice qA23 ql23.length qc23, .slice qA24 ql24.length qc24]] W fun e w' => e = .returned (.int .i64 Fp) ∧ Below W.heap.size W w' from by have h := Flags_P qa0 qa1 qa2 qa3 qa4 qa5 qa6 qA7 qc7 ql7 qa8 qa9 qa10 qa11 qa12 qA13 qc13 ql13 qa14 qa15 qa16 qa17 qA18 qc18 ql18 qa19 qa20 qa21 qA22 qc22 ql22 qA23 qc23 ql23 qA24 qc24 ql24 W hT_ hF_ hR_ HSQ.out; rw [← HAL.out.flags, ← HFp.out] at h; exact h))
    go_upto_region 10 with (fail)
    refine wp_region_noPanic ?_
    refine wp_region_held_drew (S := fun W => W.rangeAt gb 0 [.int .i64 a0, .int .i64 a1, .bool a2, .int .i64 a3, .string a4, .bool a5, .string a6, .slice A7 l7.length c7, .int .i64 a8, .bool a9, .bool a10, .string a11, .bool a12, .slice A13 l13.length c13, .bool a14, .int .i64 a15, .bool a16, .string a17, .slice A18 l18.length c18, .int .i64 a19, .bool a20, .int .i64 a21, .slice A22 l22.length c22, .slice A23 l23.length c23, .slice A24 l24.length c24] ∧ W.rangeAt gq 0 [.int .i64 qa0, .int .i64 qa1, .bool qa2, .int .i64 qa3, .string qa4, .bool qa5, .string qa6, .slice qA7 ql7.length qc7, .int .i64 qa8, .bool qa9, .bool qa10, .string qa11, .bool qa12, .slice qA13 ql13.length qc13, .bool qa14, .int .i64 qa15, .bool qa16, .string qa17, .slice qA18 ql18.length qc18, .int .i64 qa19, .bool qa20, .int .i64 qa21, .slice qA22 ql22.length qc22, .slice qA23 ql23.length qc23, .slice qA24 ql24.length qc24]) (by kernel_rfl) ?hS10 (fun hHeld => ?_)
    case hS10 => (try dsimp only); exact ⟨rangeAt_blk (by first | exact BK.out | exact blk_drewN BK.out _), rangeAt_blk (by first | exact BQ.out | exact blk_drewN BQ.out _)⟩
    refine' wpAnyH_take (i := 0) (oi := { dst := some 49, op := Go.Op.load 29 (Go.Operand.tmp 2), type := 29, pos := "outright.go:40", after := #[], guard := none }) (v := _) rfl (by kernel_rfl) (by kernel_rfl) (by kernel_rfl) (fun _ _ _ h => h) (yieldsIf_load_mid (by rfl) _ _ rfl _ _ rfl _ _ ?hS28 ?hu28 ?hd28 ?hi28) (by assumption) ?rest28
    case hS28 => (intro w hSw; exact hSw.1)
    case hu28 => exact hu29
    case hd28 => rfl
    case hi28 => kernel_rfl
    try simp only [Act.put, List.setIfInBounds_toArray, List.set_cons_zero, List.set_cons_succ]
    refine' wpAnyH_take (i := 2) (oi := { dst := some 51, op := Go.Op.load 29 (Go.Operand.tmp 3), type := 29, pos := "outright.go:40", after := #[], guard := none }) (v := _) rfl (by kernel_rfl) (by kernel_rfl) (by kernel_rfl) (fun _ _ _ h => h) (yieldsIf_load_mid (by rfl) _ _ rfl _ _ rfl _ _ ?hS29 ?hu29 ?hd29 ?hi29) (by assumption) ?rest29
    case hS29 => (intro w hSw; exact hSw.2)
    case hu29 => exact hu29
    case hd29 => rfl
    case hi29 => kernel_rfl
    try simp only [Act.put, List.setIfInBounds_toArray, List.set_cons_zero, List.set_cons_succ]
    refine wpAnyH_ready (rs := [1]) (by kernel_rfl) (by simp) ?_
    refine AllReadyH.cons (o := { dst := some 50, op := Go.Op.call { callee := Go.Callee.value (Go.Operand.func 12), args := #[Go.Operand.tmp 49], argTypes := #[29] }, type := 3, pos := "outright.go:40", after := #[{ on := 0, ground := Go.Ground.data }], guard := none }) rfl (fun K hK => ?_) AllReadyH.nil
    go_simp
    refine (FP.out _ (HT.out.below (by first | exact HB.out | exact pw_below_drewN HB.out _ | exact HB.out.drew)) (tabs_below HT2.out.1 (by first | exact HB.out | exact pw_below_drewN HB.out _ | exact HB.out.drew)) (HR.out.below (by first | exact HB.out | exact pw_below_drewN HB.out _ | exact HB.out.drew))).mono ?_
    rintro e w' ⟨rfl, hb⟩
    have n0_ := Aside0.mk (below_step (by first | exact HB.out | exact pw_below_drewN HB.out _ | exact HB.out.drew) hb)
    have n1_ := Aside0.mk (blk_below (by first | exact BK.out | exact blk_drewN BK.out _) hb)
    have n2_ := Aside0.mk (blk_below (by first | exact BQ.out | exact blk_drewN BQ.out _) hb)
    clear HB BK BQ hb
    have HB := n0_
    have BK := n1_
    have BQ := n2_
    clear n0_ n1_ n2_
    go_wp2_with fail
    refine hK.out _ _ ?hSS30 (fun hHeld2 => ?_)
    case hSS30 => (try dsimp only); exact ⟨rangeAt_blk (by first | exact BK.out | exact blk_drewN BK.out _), rangeAt_blk (by first | exact BQ.out | exact blk_drewN BQ.out _)⟩
    clear hK K hHeld
    have hHeld := hHeld2
    clear hHeld2
    try simp only [Act.put, List.setIfInBounds_toArray, List.set_cons_zero, List.set_cons_succ]
    refine wpAnyH_ready (rs := [3]) (by kernel_rfl) (by simp) ?_
    refine AllReadyH.cons (o := { dst := some 52, op := Go.Op.call { callee := Go.Callee.value (Go.Operand.func 12), args := #[Go.Operand.tmp 51], argTypes := #[29] }, type := 3, pos := "outright.go:40", after := #[{ on := 2, ground := Go.Ground.data }, { on := 1, ground := Go.Ground.chain }], guard := none }) rfl (fun K hK => ?_) AllReadyH.nil
    go_simp
    refine (FQ.out _ (HT.out.below (by first | exact HB.out | exact pw_below_drewN HB.out _ | exact HB.out.drew)) (tabs_below HT2.out.1 (by first | exact HB.out | exact pw_below_drewN HB.out _ | exact HB.out.drew)) (HQ.out.below (by first | exact HB.out | exact pw_below_drewN HB.out _ | exact HB.out.drew))).mono ?_
    rintro e w' ⟨rfl, hb⟩
    have n0_ := Aside0.mk (below_step (by first | exact HB.out | exact pw_below_drewN HB.out _ | exact HB.out.drew) hb)
    have n1_ := Aside0.mk (blk_below (by first | exact BK.out | exact blk_drewN BK.out _) hb)
    have n2_ := Aside0.mk (blk_below (by first | exact BQ.out | exact blk_drewN BQ.out _) hb)
    clear HB BK BQ hb
    have HB := n0_
    have BK := n1_
    have BQ := n2_
    clear n0_ n1_ n2_
    go_wp2_with fail
    refine hK.out _ _ ?hSS31 (fun hHeld2 => ?_)
    case hSS31 => (try dsimp only); exact ⟨rangeAt_blk (by first | exact BK.out | exact blk_drewN BK.out _), rangeAt_blk (by first | exact BQ.out | exact blk_drewN BQ.out _)⟩
    clear hK K hHeld
    have hHeld := hHeld2
    clear hHeld2
    try simp only [Act.put, List.setIfInBounds_toArray, List.set_cons_zero, List.set_cons_succ]
    refine wpAnyH_take (i := 4) (oi := { dst := some 53, op := Go.Op.binOp Go.BinOp.eql 3 (Go.Operand.tmp 50) (Go.Operand.tmp 52) 3, type := 4, pos := "outright.go:40", after := #[{ on := 1, ground := Go.Ground.data }, { on := 3, ground := Go.Ground.data }], guard := none }) (v := ?v32) rfl (by kernel_rfl) (by kernel_rfl) (by kernel_rfl) (fun _ _ _ h => h) (Or.inl ⟨by rfl, ?hy32⟩) (by assumption) ?rest32
    case hy32 => (intro w hSw; (try dsimp only at hSw); (try go_simp); (try with_reducible rfl))
    try simp only [Act.put, List.setIfInBounds_toArray, List.set_cons_zero, List.set_cons_succ]
    refine wpAnyH_take (i := 5) (oi := { dst := some 54, op := Go.Op.move (Go.Operand.tmp 53), type := 4, pos := "outright.go:40", after := #[{ on := 4, ground := Go.Ground.data }, { on := 3, ground := Go.Ground.chain }], guard := none }) (v := ?v33) rfl (by kernel_rfl) (by kernel_rfl) (by kernel_rfl) (fun _ _ _ h => h) (Or.inl ⟨by rfl, ?hy33⟩) (by assumption) ?rest33
    case hy33 => (intro w hSw; (try dsimp only at hSw); (try go_simp); (try with_reducible rfl))
    try simp only [Act.put, List.setIfInBounds_toArray, List.set_cons_zero, List.set_cons_succ]
    refine wpAnyH_take (i := 6) (oi := { dst := some 55, op := Go.Op.move (Go.Operand.tmp 5), type := 3, pos := "outright.go:40", after := #[{ on := 5, ground := Go.Ground.guard }], guard := some (5, true) }) (v := ?v34) rfl (by kernel_rfl) (by kernel_rfl) (by kernel_rfl) (fun _ _ _ h => h) (Or.inl ⟨by rfl, ?hy34⟩) (by assumption) ?rest34
    case hy34 => (intro w hSw; (try dsimp only at hSw); (try go_simp); (try with_reducible rfl))
    try simp only [Act.put, List.setIfInBounds_toArray, List.set_cons_zero, List.set_cons_succ]
    refine' wpAnyH_take (i := 7) (oi := { dst := some 56, op := Go.Op.load 29 (Go.Operand.tmp 3), type := 29, pos := "outright.go:40", after := #[{ on := 5, ground := Go.Ground.guard }], guard := some (5, true) }) (v := _) rfl (by kernel_rfl) (by kernel_rfl) (by kernel_rfl) (fun _ _ _ h => h) (yieldsIf_load_mid (by rfl) _ _ rfl _ _ rfl _ _ ?hS35 ?hu35 ?hd35 ?hi35) (by assumption) ?rest35
    case hS35 => (intro w hSw; exact hSw.2)
    case hu35 => exact hu29
    case hd35 => rfl
    case hi35 => kernel_rfl
    try simp only [Act.put, List.setIfInBounds_toArray, List.set_cons_zero, List.set_cons_succ]
    refine wpAnyH_ready (rs := [8]) (by kernel_rfl) (by simp) ?_
    refine AllReadyH.cons (o := { dst := some 57, op := Go.Op.call { callee := Go.Callee.value (Go.Operand.func 10), args := #[Go.Operand.tmp 56], argTypes := #[29] }, type := 3, pos := "outright.go:40", after := #[{ on := 7, ground := Go.Ground.data }, { on := 5, ground := Go.Ground.chain }, { on := 5, ground := Go.Ground.guard }], guard := some (5, true) }) rfl (fun K hK => ?_) AllReadyH.nil
    go_simp
    refine (LQ.out _ (HT.out.below (by first | exact HB.out | exact pw_below_drewN HB.out _ | exact HB.out.drew)) (HQ.out.below (by first | exact HB.out | exact pw_below_drewN HB.out _ | exact HB.out.drew))).mono ?_
    rintro e w' ⟨rfl, hb⟩
    have n0_ := Aside0.mk (below_step (by first | exact HB.out | exact pw_below_drewN HB.out _ | exact HB.out.drew) hb)
    have n1_ := Aside0.mk (blk_below (by first | exact BK.out | exact blk_drewN BK.out _) hb)
    have n2_ := Aside0.mk (blk_below (by first | exact BQ.out | exact blk_drewN BQ.out _) hb)
    clear HB BK BQ hb
    have HB := n0_
    have BK := n1_
    have BQ := n2_
    clear n0_ n1_ n2_
    go_wp2_with fail
    refine hK.out _ _ ?hSS36 (fun hHeld2 => ?_)
    case hSS36 => (try dsimp only); exact ⟨rangeAt_blk (by first | exact BK.out | exact blk_drewN BK.out _), rangeAt_blk (by first | exact BQ.out | exact blk_drewN BQ.out _)⟩
    clear hK K hHeld
    have hHeld := hHeld2
    clear hHeld2
    try simp only [Act.put, List.setIfInBounds_toArray, List.set_cons_zero, List.set_cons_succ]
    refine wpAnyH_take (i := 9) (oi := { dst := some 58, op := Go.Op.binOp Go.BinOp.eql 3 (Go.Operand.tmp 55) (Go.Operand.tmp 57) 3, type := 4, pos := "outright.go:40", after := #[{ on := 6, ground := Go.Ground.data }, { on := 8, ground := Go.Ground.data }, { on := 5, ground := Go.Ground.guard }], guard := some (5, true) }) (v := ?v37) rfl (by kernel_rfl) (by kernel_rfl) (by kernel_rfl) (fun _ _ _ h => h) (Or.inl ⟨by rfl, ?hy37⟩) (by assumption) ?rest37
    case hy37 => (intro w hSw; (try dsimp only at hSw); (try go_simp); (try with_reducible rfl))
    try simp only [Act.put, List.setIfInBounds_toArray, List.set_cons_zero, List.set_cons_succ]
    refine wpAnyH_take (i := 10) (oi := { dst := some 59, op := Go.Op.pick (Go.Operand.tmp 54) (Go.Operand.tmp 58) (Go.Operand.const (Go.Value.bool false)), type := 4, pos := "outright.go:40", after := #[{ on := 5, ground := Go.Ground.data }, { on := 9, ground := Go.Ground.data }], guard := none }) (v := ?v38) rfl (by kernel_rfl) (by kernel_rfl) (by kernel_rfl) (fun _ _ _ h => h) (Or.inl ⟨by rfl, ?hy38⟩) (by assumption) ?rest38
    case hy38 => (intro w hSw; (try dsimp only at hSw); (try go_simp); (try with_reducible rfl))
    try simp only [Act.put, List.setIfInBounds_toArray, List.set_cons_zero, List.set_cons_succ]
    refine wpAnyH_take (i := 11) (oi := { dst := some 60, op := Go.Op.move (Go.Operand.tmp 59), type := 4, pos := "outright.go:40", after := #[{ on := 10, ground := Go.Ground.data }, { on := 8, ground := Go.Ground.chain }], guard := none }) (v := ?v39) rfl (by kernel_rfl) (by kernel_rfl) (by kernel_rfl) (fun _ _ _ h => h) (Or.inl ⟨by rfl, ?hy39⟩) (by assumption) ?rest39
    case hy39 => (intro w hSw; (try dsimp only at hSw); (try go_simp); (try with_reducible rfl))
    try simp only [Act.put, List.setIfInBounds_toArray, List.set_cons_zero, List.set_cons_succ]
    refine' wpAnyH_take (i := 12) (oi := { dst := some 61, op := Go.Op.load 29 (Go.Operand.tmp 3), type := 29, pos := "outright.go:40", after := #[{ on := 11, ground := Go.Ground.guard }], guard := some (11, true) }) (v := _) rfl (by kernel_rfl) (by kernel_rfl) (by kernel_rfl) (fun _ _ _ h => h) (yieldsIf_load_mid (by rfl) _ _ rfl _ _ rfl _ _ ?hS40 ?hu40 ?hd40 ?hi40) (by assumption) ?rest40
    case hS40 => (intro w hSw; exact hSw.2)
    case hu40 => exact hu29
    case hd40 => rfl
    case hi40 => kernel_rfl
    try simp only [Act.put, List.setIfInBounds_toArray, List.set_cons_zero, List.set_cons_succ]
    refine' wpAnyH_take (i := 13) (oi := { dst := some 62, op := Go.Op.load 29 (Go.Operand.tmp 2), type := 29, pos := "outright.go:40", after := #[{ on := 11, ground := Go.Ground.guard }], guard := some (11, true) }) (v := _) rfl (by kernel_rfl) (by kernel_rfl) (by kernel_rfl) (fun _ _ _ h => h) (yieldsIf_load_mid (by rfl) _ _ rfl _ _ rfl _ _ ?hS41 ?hu41 ?hd41 ?hi41) (by assumption) ?rest41
    case hS41 => (intro w hSw; exact hSw.1)
    case hu41 => exact hu29
    case hd41 => rfl
    case hi41 => kernel_rfl
    try simp only [Act.put, List.setIfInBounds_toArray, List.set_cons_zero, List.set_cons_succ]
    refine wpAnyH_ready (rs := [14]) (by kernel_rfl) (by simp) ?_
    refine AllReadyH.cons (o := { dst := some 63, op := Go.Op.call { callee := Go.Callee.value (Go.Operand.func 14), args := #[Go.Operand.tmp 61, Go.Operand.tmp 62], argTypes := #[29, 29] }, type := 4, pos := "outright.go:40", after := #[{ on := 12, ground := Go.Ground.data }, { on := 13, ground := Go.Ground.data }, { on := 11, ground := Go.Ground.chain }, { on := 11, ground := Go.Ground.guard }], guard := some (11, true) }) rfl (fun K hK => ?_) AllReadyH.nil
    go_simp
    refine (Same_P qa0 qa1 qa2 qa3 qa4 qa5 qa6 qA7 qc7 ql7 qa8 qa9 qa10 qa11 qa12 qA13 qc13 ql13 qa14 qa15 qa16 qa17 qA18 qc18 ql18 qa19 qa20 qa21 qA22 qc22 ql22 qA23 qc23 ql23 qA24 qc24 ql24 a0 a1 a2 a3 a4 a5 a6 A7 c7 l7 a8 a9 a10 a11 a12 A13 c13 l13 a14 a15 a16 a17 A18 c18 l18 a19 a20 a21 A22 c22 l22 A23 c23 l23 A24 c24 l24 true _ (HQ.out.below (by first | exact HB.out | exact pw_below_drewN HB.out _ | exact HB.out.drew)) (HR.out.below (by first | exact HB.out | exact pw_below_drewN HB.out _ | exact HB.out.drew)) HSQ.out (iff_of_true rfl HAL.out.symm)).mono ?_
    rintro e w' ⟨rfl, hb⟩
    have n0_ := Aside0.mk (below_step (by first | exact HB.out | exact pw_below_drewN HB.out _ | exact HB.out.drew) hb)
    have n1_ := Aside0.mk (blk_below (by first | exact BK.out | exact blk_drewN BK.out _) hb)
    have n2_ := Aside0.mk (blk_below (by first | exact BQ.out | exact blk_drewN BQ.out _) hb)
    clear HB BK BQ hb
    have HB := n0_
    have BK := n1_
    have BQ := n2_
    clear n0_ n1_ n2_
    go_wp2_with fail
    refine hK.out _ _ ?hSS42 (fun hHeld2 => ?_)
    case hSS42 => (try dsimp only); exact ⟨rangeAt_blk (by first | exact BK.out | exact blk_drewN BK.out _), rangeAt_blk (by first | exact BQ.out | exact blk_drewN BQ.out _)⟩
    clear hK K hHeld
    have hHeld := hHeld2
    clear hHeld2
    try simp only [Act.put, List.setIfInBounds_toArray, List.set_cons_zero, List.set_cons_succ]
    refine wpAnyH_take (i := 15) (oi := { dst := some 64, op := Go.Op.pick (Go.Operand.tmp 60) (Go.Operand.tmp 63) (Go.Operand.const (Go.Value.bool false)), type := 4, pos := "outright.go:40", after := #[{ on := 11, ground := Go.Ground.data }, { on := 14, ground := Go.Ground.data }], guard := none }) (v := ?v43) rfl (by kernel_rfl) (by kernel_rfl) (by kernel_rfl) (fun _ _ _ h => h) (Or.inl ⟨by rfl, ?hy43⟩) (by assumption) ?rest43
    case hy43 => (intro w hSw; (try dsimp only at hSw); (try go_simp); (try with_reducible rfl))
    try simp only [Act.put, List.setIfInBounds_toArray, List.set_cons_zero, List.set_cons_succ]
    refine wpAnyH_take (i := 16) (oi := { dst := some 4, op := Go.Op.assign (Go.Operand.tmp 64), type := 4, pos := "outright.go:40", after := #[{ on := 15, ground := Go.Ground.data }, { on := 14, ground := Go.Ground.chain }, { on := 0, ground := Go.Ground.phase }, { on := 1, ground := Go.Ground.phase }, { on := 2, ground := Go.Ground.phase }, { on := 3, ground := Go.Ground.phase }, { on := 4, ground := Go.Ground.phase }, { on := 5, ground := Go.Ground.phase }, { on := 6, ground := Go.Ground.phase }, { on := 7, ground := Go.Ground.phase }, { on := 8, ground := Go.Ground.phase }, { on := 9, ground := Go.Ground.phase }, { on := 10, ground := Go.Ground.phase }, { on := 11, ground := Go.Ground.phase }, { on := 12, ground := Go.Ground.phase }, { on := 13, ground := Go.Ground.phase }, { on := 14, ground := Go.Ground.phase }, { on := 15, ground := Go.Ground.phase }], guard := none }) (v := ?v44) rfl (by kernel_rfl) (by kernel_rfl) (by kernel_rfl) (fun _ _ _ h => h) (Or.inl ⟨by rfl, ?hy44⟩) (by assumption) ?rest44
    case hy44 => (intro w hSw; (try dsimp only at hSw); (try go_simp); (try with_reducible rfl))
    try simp only [Act.put, List.setIfInBounds_toArray, List.set_cons_zero, List.set_cons_succ]
    refine wpAnyH_done (by kernel_rfl) ?_ _
    refine NoPanic.normal ?_
    go_wp2
    go_ret
    exact ⟨rfl, (by first | exact HB.out | exact pw_below_drewN HB.out _ | exact HB.out.drew)⟩
end Go.Proofs.YtipliohgnaoblaaDoor.Pk
