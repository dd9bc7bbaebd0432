/- packet.Length and packet.Flags: what they tell of a packet. -/
import Derived.Test.YtndhkgfeknkfdaaGreatDoorPkt
namespace Go.Proofs.YtndhkgfeknkfdaaGreatDoor.Pk
open Go.RowKit Go.Proofs.YtndhkgfeknkfdaaGreatDoor.Giv Go.Proofs.YtndhkgfeknkfdaaGreatDoorW.PrintWords Go.Proofs.YtndhkgfeknkfdaaGreatDoorW.PrintLast Go.Proofs.YtndhkgfeknkfdaaGreatDoorW.PrintMore Go.Proofs.YtndhkgfeknkfdaaGreatDoor.MPacketChecks
set_option linter.unusedVariables false
set_option linter.unusedSimpArgs false
set_option maxHeartbeats 8000000
set_option maxRecDepth 100000
def P.length (p : P) : Int := if p.check = 0 then p.len else 0
def P.flags (p : P) : Int := if p.check = 0 then (if p.a0 = 3 then 2 * p.a19 + (if p.a16 = true then 8 else 0) + (if p.a20 = true then 1 else 0) else Kin.flagsL.getD p.a0.toNat 0) else 0
theorem check_kind {p : P} (h : p.check = 0) : 1 ≤ p.a0 ∧ p.a0 ≤ 14 := by
  unfold P.check at h
  split at h
  · omega
  · split at h <;> omega
theorem checkV_no {e1 e2 e3 e4 e5 e6 e7 e8 e9 : Bool} : checkV e1 e2 e3 e4 e5 e6 e7 e8 e9 = 0 ↔ (e1 = false ∧ e2 = false ∧ e3 = false ∧ e4 = false ∧ e5 = false ∧ e6 = false ∧ e7 = false ∧ e8 = false ∧ e9 = false) := by
  unfold checkV
  cases e1 <;> cases e2 <;> cases e3 <;> cases e4 <;> cases e5 <;> cases e6 <;> cases e7 <;> cases e8 <;> cases e9 <;> simp
theorem check_q {p : P} (h : p.check = 0) : qualV p = true := by
  have hk := check_kind h
  unfold P.check at h
  rw [if_neg (by omega), if_neg (by omega)] at h
  have := (checkV_no.1 h).2.2.2.2.1
  simpa using this
theorem Length_P (a0 : Int) (a1 : Int) (a2 : Bool) (a3 : Int) (a4 : ByteArray) (a5 : Bool) (a6 : ByteArray) (A7 : Option Addr) (c7 : Nat) (l7 : List Int) (a8 : Int) (a9 : Bool) (a10 : Bool) (a11 : ByteArray) (a12 : Bool) (A13 : Option Addr) (c13 : Nat) (l13 : List Int) (a14 : Bool) (a15 : Int) (a16 : Bool) (a17 : ByteArray) (A18 : Option Addr) (c18 : Nat) (l18 : List Int) (a19 : Int) (a20 : Bool) (a21 : Int) (A22 : Option Addr) (c22 : Nat) (l22 : List S82) (A23 : Option Addr) (c23 : Nat) (l23 : List Int) (A24 : Option Addr) (c24 : Nat) (l24 : List ByteArray) (w : World) (hT : HasT w) (hr : Rd w A7 c7 l7 A13 c13 l13 A18 c18 l18 A22 c22 l22 A23 c23 l23 A24 c24 l24) (hs : P.sum ⟨a0, a1, a2, a3, a4, a5, a6, l7, a8, a9, a10, a11, a12, l13, a14, a15, a16, a17, l18, a19, a20, a21, l22, l23, l24⟩ ≤ 4294967280) :
    Calls Tryz.prog 28 #[.agg #[.int .i64 a0, .int .i64 a1, .bool a2, .int .i64 a3, .string a4, .bool a5, .string a6, .slice A7 l7.length c7, .int .i64 a8, .bool a9, .bool a10, .string a11, .bool a12, .slice A13 l13.length c13, .bool a14, .int .i64 a15, .bool a16, .string a17, .slice A18 l18.length c18, .int .i64 a19, .bool a20, .int .i64 a21, .slice A22 l22.length c22, .slice A23 l23.length c23, .slice A24 l24.length c24]] w fun e w' => e = .returned (.int .i64 (P.length ⟨a0, a1, a2, a3, a4, a5, a6, l7, a8, a9, a10, a11, a12, l13, a14, a15, a16, a17, l18, a19, a20, a21, l22, l23, l24⟩)) ∧ Below w.heap.size w w' := by
  have hu29 := Tryz.underlying29
  have n22 := sumA_len l22
  have n24 := sumT_len l24
  have HS := Aside0.mk (show (a4.size : Int) + a6.size + l7.length + a11.size + l13.length + a17.size + l18.length + l23.length + sumA l22 + sumT l24 ≤ 1125899906842624 by have := hs; unfold P.sum at this; simp only [] at this; omega)
  have HSm := Aside0.mk hs
  have HT := Aside0.mk hT
  have HR := Aside0.mk hr
  have HB := Aside0.mk (Below.refl w.heap.size w)
  clear hT hr hs
  cases hc : (P.check ⟨a0, a1, a2, a3, a4, a5, a6, l7, a8, a9, a10, a11, a12, l13, a14, a15, a16, a17, l18, a19, a20, a21, l22, l23, l24⟩ == 0) with
  | false =>
    have HC := Aside0.mk (beq_eq_false_iff_ne.1 hc)
    have hc2 : (P.check ⟨a0, a1, a2, a3, a4, a5, a6, l7, a8, a9, a10, a11, a12, l13, a14, a15, a16, a17, l18, a19, a20, a21, l22, l23, l24⟩ != 0) = true := by simpa using HC.out
    go_enter Tryz.func28, Tryz.ntmps28
    go_wp2_with (first | ((with_reducible refine gate_dst (N := 1) rfl ?_); refine box_event ?hg (N := 1) ?hd (cs := #[.int .i64 a0, .int .i64 a1, .bool a2, .int .i64 a3, .string a4, .bool a5, .string a6, .slice A7 l7.length c7, .int .i64 a8, .bool a9, .bool a10, .string a11, .bool a12, .slice A13 l13.length c13, .bool a14, .int .i64 a15, .bool a16, .string a17, .slice A18 l18.length c18, .int .i64 a19, .bool a20, .int .i64 a21, .slice A22 l22.length c22, .slice A23 l23.length c23, .slice A24 l24.length c24]) (t := 29) ?hr ?_; (case hd => rfl); (case hg => rfl); (case hr => first | (go_simp; done) | (go_simp; rfl)); intro gb hg w3 hbox hb; have n0_ := Aside0.mk (below_step HB.out hb); clear HB; have HB := n0_; clear n0_; have BK := Aside0.mk hbox; clear hb hbox hg) | ((with_reducible refine gate_dst (N := 3) rfl ?_); refine wpList_load_row rfl 29 (.tmp 1) rfl gb rfl 29 #[.int .i64 a0, .int .i64 a1, .bool a2, .int .i64 a3, .string a4, .bool a5, .string a6, .slice A7 l7.length c7, .int .i64 a8, .bool a9, .bool a10, .string a11, .bool a12, .slice A13 l13.length c13, .bool a14, .int .i64 a15, .bool a16, .string a17, .slice A18 l18.length c18, .int .i64 a19, .bool a20, .int .i64 a21, .slice A22 l22.length c22, .slice A23 l23.length c23, .slice A24 l24.length c24] (0, 0) _ BK.out hu29 rfl (by kernel_rfl) ?_))
    refine (Check_P a0 a1 a2 a3 a4 a5 a6 A7 c7 l7 a8 a9 a10 a11 a12 A13 c13 l13 a14 a15 a16 a17 A18 c18 l18 a19 a20 a21 A22 c22 l22 A23 c23 l23 A24 c24 l24 _ (HT.out.below HB.out) (HR.out.below HB.out) HSm.out).mono ?_
    rintro e w4 ⟨rfl, hb⟩
    have n0_ := Aside0.mk (below_step HB.out hb)
    have n1_ := Aside0.mk (blk_below BK.out hb)
    clear HB BK hb
    have HB := n0_
    have BK := n1_
    clear n0_ n1_
    generalize hx : P.check ⟨a0, a1, a2, a3, a4, a5, a6, l7, a8, a9, a10, a11, a12, l13, a14, a15, a16, a17, l18, a19, a20, a21, l22, l23, l24⟩ = x at *
    have HX := Aside0.mk hx
    clear hx
    go_wp2
    go_ret
    exact ⟨by unfold P.length; rw [if_neg (by rw [HX.out]; exact HC.out)]; rfl, HB.out⟩
  | true =>
    have HC := Aside0.mk (beq_iff_eq.1 hc)
    have hc2 : (P.check ⟨a0, a1, a2, a3, a4, a5, a6, l7, a8, a9, a10, a11, a12, l13, a14, a15, a16, a17, l18, a19, a20, a21, l22, l23, l24⟩ != 0) = false := by simpa using HC.out
    go_enter Tryz.func28, Tryz.ntmps28
    go_wp2_with (first | ((with_reducible refine gate_dst (N := 1) rfl ?_); refine box_event ?hg (N := 1) ?hd (cs := #[.int .i64 a0, .int .i64 a1, .bool a2, .int .i64 a3, .string a4, .bool a5, .string a6, .slice A7 l7.length c7, .int .i64 a8, .bool a9, .bool a10, .string a11, .bool a12, .slice A13 l13.length c13, .bool a14, .int .i64 a15, .bool a16, .string a17, .slice A18 l18.length c18, .int .i64 a19, .bool a20, .int .i64 a21, .slice A22 l22.length c22, .slice A23 l23.length c23, .slice A24 l24.length c24]) (t := 29) ?hr ?_; (case hd => rfl); (case hg => rfl); (case hr => first | (go_simp; done) | (go_simp; rfl)); intro gb hg w3 hbox hb; have n0_ := Aside0.mk (below_step HB.out hb); clear HB; have HB := n0_; clear n0_; have BK := Aside0.mk hbox; clear hb hbox hg) | ((with_reducible refine gate_dst (N := 3) rfl ?_); refine wpList_load_row rfl 29 (.tmp 1) rfl gb rfl 29 #[.int .i64 a0, .int .i64 a1, .bool a2, .int .i64 a3, .string a4, .bool a5, .string a6, .slice A7 l7.length c7, .int .i64 a8, .bool a9, .bool a10, .string a11, .bool a12, .slice A13 l13.length c13, .bool a14, .int .i64 a15, .bool a16, .string a17, .slice A18 l18.length c18, .int .i64 a19, .bool a20, .int .i64 a21, .slice A22 l22.length c22, .slice A23 l23.length c23, .slice A24 l24.length c24] (0, 0) _ BK.out hu29 rfl (by kernel_rfl) ?_))
    refine (Check_P a0 a1 a2 a3 a4 a5 a6 A7 c7 l7 a8 a9 a10 a11 a12 A13 c13 l13 a14 a15 a16 a17 A18 c18 l18 a19 a20 a21 A22 c22 l22 A23 c23 l23 A24 c24 l24 _ (HT.out.below HB.out) (HR.out.below HB.out) HSm.out).mono ?_
    rintro e w4 ⟨rfl, hb⟩
    have n0_ := Aside0.mk (below_step HB.out hb)
    have n1_ := Aside0.mk (blk_below BK.out hb)
    clear HB BK hb
    have HB := n0_
    have BK := n1_
    clear n0_ n1_
    generalize hx : P.check ⟨a0, a1, a2, a3, a4, a5, a6, l7, a8, a9, a10, a11, a12, l13, a14, a15, a16, a17, l18, a19, a20, a21, l22, l23, l24⟩ = x at *
    have HX := Aside0.mk hx
    clear hx
    go_wp2_with (first | ((with_reducible refine gate_dst (N := 6) rfl ?_); refine wpList_load_row rfl 29 (.tmp 1) rfl gb rfl 29 #[.int .i64 a0, .int .i64 a1, .bool a2, .int .i64 a3, .string a4, .bool a5, .string a6, .slice A7 l7.length c7, .int .i64 a8, .bool a9, .bool a10, .string a11, .bool a12, .slice A13 l13.length c13, .bool a14, .int .i64 a15, .bool a16, .string a17, .slice A18 l18.length c18, .int .i64 a19, .bool a20, .int .i64 a21, .slice A22 l22.length c22, .slice A23 l23.length c23, .slice A24 l24.length c24] (0, 0) _ BK.out hu29 rfl (by kernel_rfl) ?_))
    refine (length_calls a0 a1 a2 a3 a4 a5 a6 A7 c7 l7 a8 a9 a10 a11 a12 A13 c13 l13 a14 a15 a16 a17 A18 c18 l18 a19 a20 a21 A22 c22 l22 A23 c23 l23 A24 c24 l24 (hasL.getD a0.toNat 0) _ _ _ rfl rfl rfl _ (HT.out.below HB.out) (check_kind (HX.out.trans HC.out)).1 (check_kind (HX.out.trans HC.out)).2 rfl HS.out (HR.out.below HB.out).r22 HR.out.k22 (HR.out.below HB.out).r24 HR.out.k24 _ rfl).mono ?_
    rintro e w5 ⟨rfl, hb⟩
    have n0_ := Aside0.mk (below_step HB.out hb)
    clear HB hb
    go_wp2
    go_ret
    exact ⟨by unfold P.length; rw [if_pos (HX.out.trans HC.out)]; rfl, n0_.out⟩
theorem or8 (q : Int) (h : isQ q = true) : bits BinOp.or IntKind.i64 (2 * q) 8 = 2 * q + 8 := by
  unfold isQ at h
  simp only [Bool.and_eq_true, decide_eq_true_eq] at h
  obtain rfl | rfl | rfl : q = 0 ∨ q = 1 ∨ q = 2 := by omega
  all_goals kernel_rfl
theorem or1 (q : Int) (h : isQ q = true) : bits BinOp.or IntKind.i64 (2 * q) 1 = 2 * q + 1 := by
  unfold isQ at h
  simp only [Bool.and_eq_true, decide_eq_true_eq] at h
  obtain rfl | rfl | rfl : q = 0 ∨ q = 1 ∨ q = 2 := by omega
  all_goals kernel_rfl
theorem or81 (q : Int) (h : isQ q = true) : bits BinOp.or IntKind.i64 (2 * q + 8) 1 = 2 * q + 8 + 1 := by
  unfold isQ at h
  simp only [Bool.and_eq_true, decide_eq_true_eq] at h
  obtain rfl | rfl | rfl : q = 0 ∨ q = 1 ∨ q = 2 := by omega
  all_goals kernel_rfl
theorem Flags_P (a0 : Int) (a1 : Int) (a2 : Bool) (a3 : Int) (a4 : ByteArray) (a5 : Bool) (a6 : ByteArray) (A7 : Option Addr) (c7 : Nat) (l7 : List Int) (a8 : Int) (a9 : Bool) (a10 : Bool) (a11 : ByteArray) (a12 : Bool) (A13 : Option Addr) (c13 : Nat) (l13 : List Int) (a14 : Bool) (a15 : Int) (a16 : Bool) (a17 : ByteArray) (A18 : Option Addr) (c18 : Nat) (l18 : List Int) (a19 : Int) (a20 : Bool) (a21 : Int) (A22 : Option Addr) (c22 : Nat) (l22 : List S82) (A23 : Option Addr) (c23 : Nat) (l23 : List Int) (A24 : Option Addr) (c24 : Nat) (l24 : List ByteArray) (w : World) (hT : HasT w) (hT2 : Kin.FlagsT w) (hr : Rd w A7 c7 l7 A13 c13 l13 A18 c18 l18 A22 c22 l22 A23 c23 l23 A24 c24 l24) (hs : P.sum ⟨a0, a1, a2, a3, a4, a5, a6, l7, a8, a9, a10, a11, a12, l13, a14, a15, a16, a17, l18, a19, a20, a21, l22, l23, l24⟩ ≤ 4294967280) :
    Calls Tryz.prog 26 #[.agg #[.int .i64 a0, .int .i64 a1, .bool a2, .int .i64 a3, .string a4, .bool a5, .string a6, .slice A7 l7.length c7, .int .i64 a8, .bool a9, .bool a10, .string a11, .bool a12, .slice A13 l13.length c13, .bool a14, .int .i64 a15, .bool a16, .string a17, .slice A18 l18.length c18, .int .i64 a19, .bool a20, .int .i64 a21, .slice A22 l22.length c22, .slice A23 l23.length c23, .slice A24 l24.length c24]] w fun e w' => e = .returned (.int .i64 (P.flags ⟨a0, a1, a2, a3, a4, a5, a6, l7, a8, a9, a10, a11, a12, l13, a14, a15, a16, a17, l18, a19, a20, a21, l22, l23, l24⟩)) ∧ Below w.heap.size w w' := by
  have hu29 := Tryz.underlying29
  have hu24 := Tryz.underlying24
  have HSm := Aside0.mk hs
  have HT := Aside0.mk hT
  have HT2 := Aside0.mk hT2
  have HR := Aside0.mk hr
  have HB := Aside0.mk (Below.refl w.heap.size w)
  clear hT hT2 hr hs
  cases hc : (P.check ⟨a0, a1, a2, a3, a4, a5, a6, l7, a8, a9, a10, a11, a12, l13, a14, a15, a16, a17, l18, a19, a20, a21, l22, l23, l24⟩ == 0) with
  | false =>
    have HC := Aside0.mk (beq_eq_false_iff_ne.1 hc)
    have hc2 : (P.check ⟨a0, a1, a2, a3, a4, a5, a6, l7, a8, a9, a10, a11, a12, l13, a14, a15, a16, a17, l18, a19, a20, a21, l22, l23, l24⟩ != 0) = true := by simpa using HC.out
    go_enter Tryz.func26, Tryz.ntmps26
    go_wp2_with (first | ((with_reducible refine gate_dst (N := 1) rfl ?_); refine box_event ?hg (N := 1) ?hd (cs := #[.int .i64 a0, .int .i64 a1, .bool a2, .int .i64 a3, .string a4, .bool a5, .string a6, .slice A7 l7.length c7, .int .i64 a8, .bool a9, .bool a10, .string a11, .bool a12, .slice A13 l13.length c13, .bool a14, .int .i64 a15, .bool a16, .string a17, .slice A18 l18.length c18, .int .i64 a19, .bool a20, .int .i64 a21, .slice A22 l22.length c22, .slice A23 l23.length c23, .slice A24 l24.length c24]) (t := 29) ?hr ?_; (case hd => rfl); (case hg => rfl); (case hr => first | (go_simp; done) | (go_simp; rfl)); intro gb hg w3 hbox hb; have n0_ := Aside0.mk (below_step HB.out hb); clear HB; have HB := n0_; clear n0_; have BK := Aside0.mk hbox; clear hb hbox hg) | ((with_reducible refine gate_dst (N := 4) rfl ?_); refine wpList_load_row rfl 29 (.tmp 1) rfl gb rfl 29 #[.int .i64 a0, .int .i64 a1, .bool a2, .int .i64 a3, .string a4, .bool a5, .string a6, .slice A7 l7.length c7, .int .i64 a8, .bool a9, .bool a10, .string a11, .bool a12, .slice A13 l13.length c13, .bool a14, .int .i64 a15, .bool a16, .string a17, .slice A18 l18.length c18, .int .i64 a19, .bool a20, .int .i64 a21, .slice A22 l22.length c22, .slice A23 l23.length c23, .slice A24 l24.length c24] (0, 0) _ BK.out hu29 rfl (by kernel_rfl) ?_))
    refine (Check_P a0 a1 a2 a3 a4 a5 a6 A7 c7 l7 a8 a9 a10 a11 a12 A13 c13 l13 a14 a15 a16 a17 A18 c18 l18 a19 a20 a21 A22 c22 l22 A23 c23 l23 A24 c24 l24 _ (HT.out.below HB.out) (HR.out.below HB.out) HSm.out).mono ?_
    rintro e w4 ⟨rfl, hb⟩
    have n0_ := Aside0.mk (below_step HB.out hb)
    have n1_ := Aside0.mk (blk_below BK.out hb)
    clear HB BK hb
    have HB := n0_
    have BK := n1_
    clear n0_ n1_
    generalize hx : P.check ⟨a0, a1, a2, a3, a4, a5, a6, l7, a8, a9, a10, a11, a12, l13, a14, a15, a16, a17, l18, a19, a20, a21, l22, l23, l24⟩ = x at *
    have HX := Aside0.mk hx
    clear hx
    go_wp2
    go_ret
    exact ⟨by unfold P.flags; rw [if_neg (by rw [HX.out]; exact HC.out)]; rfl, HB.out⟩
  | true =>
    have HC := Aside0.mk (beq_iff_eq.1 hc)
    have hc2 : (P.check ⟨a0, a1, a2, a3, a4, a5, a6, l7, a8, a9, a10, a11, a12, l13, a14, a15, a16, a17, l18, a19, a20, a21, l22, l23, l24⟩ != 0) = false := by simpa using HC.out
    have HQ := Aside0.mk (check_q HC.out)
    have hkd := check_kind HC.out
    have hk1 : 1 ≤ a0 := hkd.1
    have hk2 : a0 ≤ 14 := hkd.2
    have HQ9 := Aside0.mk (show isQ a19 = true by have := HQ.out; unfold qualV at this; simp only [Bool.and_eq_true] at this; exact this.2.1)
    have q0 : 0 ≤ a19 ∧ a19 ≤ 2 := by have := HQ9.out; unfold isQ at this; simpa using this
    have q1 := q0.1
    have q2 := q0.2
    have e8 := or8 a19 HQ9.out
    have e1 := or1 a19 HQ9.out
    have e81 := or81 a19 HQ9.out
    have HW := Aside0.mk (show wrap64 (2 * a19) = 2 * a19 by unfold wrap64; omega)
    clear hkd q0 HQ
    go_enter Tryz.func26, Tryz.ntmps26
    go_wp2_with (first | ((with_reducible refine gate_dst (N := 1) rfl ?_); refine box_event ?hg (N := 1) ?hd (cs := #[.int .i64 a0, .int .i64 a1, .bool a2, .int .i64 a3, .string a4, .bool a5, .string a6, .slice A7 l7.length c7, .int .i64 a8, .bool a9, .bool a10, .string a11, .bool a12, .slice A13 l13.length c13, .bool a14, .int .i64 a15, .bool a16, .string a17, .slice A18 l18.length c18, .int .i64 a19, .bool a20, .int .i64 a21, .slice A22 l22.length c22, .slice A23 l23.length c23, .slice A24 l24.length c24]) (t := 29) ?hr ?_; (case hd => rfl); (case hg => rfl); (case hr => first | (go_simp; done) | (go_simp; rfl)); intro gb hg w3 hbox hb; have n0_ := Aside0.mk (below_step HB.out hb); clear HB; have HB := n0_; clear n0_; have BK := Aside0.mk hbox; clear hb hbox hg) | ((with_reducible refine gate_dst (N := 4) rfl ?_); refine wpList_load_row rfl 29 (.tmp 1) rfl gb rfl 29 #[.int .i64 a0, .int .i64 a1, .bool a2, .int .i64 a3, .string a4, .bool a5, .string a6, .slice A7 l7.length c7, .int .i64 a8, .bool a9, .bool a10, .string a11, .bool a12, .slice A13 l13.length c13, .bool a14, .int .i64 a15, .bool a16, .string a17, .slice A18 l18.length c18, .int .i64 a19, .bool a20, .int .i64 a21, .slice A22 l22.length c22, .slice A23 l23.length c23, .slice A24 l24.length c24] (0, 0) _ BK.out hu29 rfl (by kernel_rfl) ?_))
    refine (Check_P a0 a1 a2 a3 a4 a5 a6 A7 c7 l7 a8 a9 a10 a11 a12 A13 c13 l13 a14 a15 a16 a17 A18 c18 l18 a19 a20 a21 A22 c22 l22 A23 c23 l23 A24 c24 l24 _ (HT.out.below HB.out) (HR.out.below HB.out) HSm.out).mono ?_
    rintro e w4 ⟨rfl, hb⟩
    have n0_ := Aside0.mk (below_step HB.out hb)
    have n1_ := Aside0.mk (blk_below BK.out hb)
    clear HB BK hb
    have HB := n0_
    have BK := n1_
    clear n0_ n1_
    generalize hx : P.check ⟨a0, a1, a2, a3, a4, a5, a6, l7, a8, a9, a10, a11, a12, l13, a14, a15, a16, a17, l18, a19, a20, a21, l22, l23, l24⟩ = x at *
    have HX := Aside0.mk (hx.trans HC.out)
    clear hx
    have hz0 : w4.cell? ⟨gb, 0, none⟩ = some (.int .i64 a0) := (blk_cell BK.out 0).trans rfl
    have hz16 : w4.cell? ⟨gb, 16, none⟩ = some (.bool a16) := (blk_cell BK.out 16).trans rfl
    have hz19 : w4.cell? ⟨gb, 19, none⟩ = some (.int .i64 a19) := (blk_cell BK.out 19).trans rfl
    have hz20 : w4.cell? ⟨gb, 20, none⟩ = some (.bool a20) := (blk_cell BK.out 20).trans rfl
    by_cases h3 : a0 = 3
    · have h3b : (a0 != 3) = false := by simpa using h3
      have H3 := Aside0.mk h3
      clear h3
      cases a16 <;> cases a20
      all_goals go_wp2
      all_goals go_ret
      all_goals exact ⟨by unfold P.flags; rw [if_pos HX.out, if_pos H3.out]; first | rfl | (simp; done) | (simp; omega), HB.out⟩
    · have h3b : (a0 != 3) = true := by simpa using h3
      have H3 := Aside0.mk h3
      clear h3
      have p : (0 ≤ a0) = True := eq_true (by omega)
      have q_ : (a0 < 15) = True := eq_true (by omega)
      have hG : w4.cell? ⟨1, a0.toNat, none⟩ = some (.int .i64 (Kin.flagsL.getD a0.toNat 0)) := (Below.cell HB.out (p := ⟨1, a0.toNat, none⟩) (Cr_cell_lt (HT2.out a0.toNat (by omega)))).trans (HT2.out a0.toNat (by omega))
      go_wp2
      go_ret
      exact ⟨by unfold P.flags; rw [if_pos HX.out, if_neg H3.out]; rfl, HB.out⟩

end Go.Proofs.YtndhkgfeknkfdaaGreatDoor.Pk
