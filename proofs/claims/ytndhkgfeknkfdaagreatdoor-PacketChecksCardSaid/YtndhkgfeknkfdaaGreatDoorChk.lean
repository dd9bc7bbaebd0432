/- packet.Check of a packet of a kind: what it tells, out of what its callees tell. -/
import Derived.Test.YtndhkgfeknkfdaaGreatDoorFlt
import Derived.Test.YtndhkgfeknkfdaaGreatDoorFor
namespace Go.Proofs.YtndhkgfeknkfdaaGreatDoor.Pk
open Go.RowKit Go.Proofs.YtndhkgfeknkfdaaGreatDoor.Giv Go.Proofs.YtndhkgfeknkfdaaGreatDoorW.PrintWords Go.Proofs.YtndhkgfeknkfdaaGreatDoorW.PrintLast Go.Proofs.YtndhkgfeknkfdaaGreatDoorW.PrintMore Go.Proofs.YtndhkgfeknkfdaaGreatDoor.MPacketChecks
set_option linter.unusedVariables false
set_option linter.unusedSimpArgs false
set_option maxHeartbeats 8000000
set_option maxRecDepth 100000
def foreignV (a0 : Int) (a1 : Int) (a2 : Bool) (a3 : Int) (a4 : ByteArray) (a5 : Bool) (a6 : ByteArray) (l7 : List Int) (a8 : Int) (a9 : Bool) (a10 : Bool) (a11 : ByteArray) (a12 : Bool) (l13 : List Int) (a14 : Bool) (a15 : Int) (a16 : Bool) (a17 : ByteArray) (l18 : List Int) (a19 : Int) (a20 : Bool) (a21 : Int) (l22 : List S82) (l23 : List Int) (l24 : List ByteArray) (h : Int) (m1 m2 : Bool) : Bool := ((bits BinOp.and IntKind.i64 h 1 == 0) && ((a1 != 0) || (a2 || ((a3 != 0) || ((a4.toList != ([] : List UInt8)) || (a5 || (a10 || a12))))))) || (!a5 && !m1) || (!a10 && (a11.toList != ([] : List UInt8))) || (!a12 && decide (0 < (l13.length : Int))) || ((bits BinOp.and IntKind.i64 h 2 == 0) && (a14 || (a15 != 0))) || ((bits BinOp.and IntKind.i64 h 4 == 0) && (a16 || !m2)) || (!numberedV a0 a19 && (a21 != 0)) || ((bits BinOp.and IntKind.i64 h 16 == 0) && decide (0 < (l22.length : Int))) || ((bits BinOp.and IntKind.i64 h 32 == 0) && decide (0 < (l23.length : Int))) || ((bits BinOp.and IntKind.i64 h 64 == 0) && decide (0 < (l24.length : Int)))
def checkV (e1 e2 e3 e4 e5 e6 e7 e8 e9 : Bool) : Int := if e1 = true then 21 else if e2 = true then 22 else if e3 = true then 23 else if e4 = true then 24 else if e5 = true then 25 else if e6 = true then 26 else if e7 = true then 27 else if e8 = true then 28 else if e9 = true then 29 else 0
theorem foreign_calls2 (a0 : Int) (a1 : Int) (a2 : Bool) (a3 : Int) (a4 : ByteArray) (a5 : Bool) (a6 : ByteArray) (A7 : Option Addr) (c7 : Nat) (l7 : List Int) (a8 : Int) (a9 : Bool) (a10 : Bool) (a11 : ByteArray) (a12 : Bool) (A13 : Option Addr) (c13 : Nat) (l13 : List Int) (a14 : Bool) (a15 : Int) (a16 : Bool) (a17 : ByteArray) (A18 : Option Addr) (c18 : Nat) (l18 : List Int) (a19 : Int) (a20 : Bool) (a21 : Int) (A22 : Option Addr) (c22 : Nat) (l22 : List S82) (A23 : Option Addr) (c23 : Nat) (l23 : List Int) (A24 : Option Addr) (c24 : Nat) (l24 : List ByteArray) (h : Int) (m1 m2 : Bool) (w : World) (hT : HasT w) (h1 : 1 ≤ a0) (h2 : a0 ≤ 14) (hh : h = hasL.getD a0.toNat 0)
    (hr7 : Kd.C (Kd.int .u8) w A7 l7.length l7) (hc7 : l7.length ≤ c7) (hr18 : Kd.C (Kd.int .u8) w A18 l18.length l18) (hc18 : l18.length ≤ c18)
    (hm1 : packet_sameMessage.f a6 l7 a8 a9 ⟨#[]⟩ [] 0 false = some m1) (hm2 : packet_sameMessage.f a17 l18 a19 a20 ⟨#[]⟩ [] 0 false = some m2) (f : Bool) (hF : f = foreignV a0 a1 a2 a3 a4 a5 a6 l7 a8 a9 a10 a11 a12 l13 a14 a15 a16 a17 l18 a19 a20 a21 l22 l23 l24 h m1 m2) :
    Calls Tryz.prog 93 #[.agg #[.int .i64 a0, .int .i64 a1, .bool a2, .int .i64 a3, .string a4, .bool a5, .string a6, .slice A7 l7.length c7, .int .i64 a8, .bool a9, .bool a10, .string a11, .bool a12, .slice A13 l13.length c13, .bool a14, .int .i64 a15, .bool a16, .string a17, .slice A18 l18.length c18, .int .i64 a19, .bool a20, .int .i64 a21, .slice A22 l22.length c22, .slice A23 l23.length c23, .slice A24 l24.length c24]] w fun e w' => e = .returned (.bool f) ∧ Below w.heap.size w w' :=
  foreign_calls a0 a1 a2 a3 a4 a5 a6 A7 c7 l7 a8 a9 a10 a11 a12 A13 l13.length c13 a14 a15 a16 a17 A18 c18 l18 a19 a20 a21 A22 l22.length c22 A23 l23.length c23 A24 l24.length c24 h m1 m2 f w hT h1 h2 hh hr7 hc7 hr18 hc18 hm1 hm2 (by rw [hF]; rfl)

theorem Check_calls (a0 : Int) (a1 : Int) (a2 : Bool) (a3 : Int) (a4 : ByteArray) (a5 : Bool) (a6 : ByteArray) (A7 : Option Addr) (c7 : Nat) (l7 : List Int) (a8 : Int) (a9 : Bool) (a10 : Bool) (a11 : ByteArray) (a12 : Bool) (A13 : Option Addr) (c13 : Nat) (l13 : List Int) (a14 : Bool) (a15 : Int) (a16 : Bool) (a17 : ByteArray) (A18 : Option Addr) (c18 : Nat) (l18 : List Int) (a19 : Int) (a20 : Bool) (a21 : Int) (A22 : Option Addr) (c22 : Nat) (l22 : List S82) (A23 : Option Addr) (c23 : Nat) (l23 : List Int) (A24 : Option Addr) (c24 : Nat) (l24 : List ByteArray) (h : Int) (m1 m2 f tC tU q : Bool) (rW rM L R : Int) (kq : Nat) (w : World) (hT : HasT w) (h1 : 1 ≤ a0) (h2 : a0 ≤ 14) (hh : h = hasL.getD a0.toNat 0)
    (hr7 : Kd.C (Kd.int .u8) w A7 l7.length l7) (hc7 : l7.length ≤ c7) (hr13 : Kd.C (Kd.int .u8) w A13 l13.length l13) (hc13 : l13.length ≤ c13) (hr18 : Kd.C (Kd.int .u8) w A18 l18.length l18) (hc18 : l18.length ≤ c18)
    (hr22 : Kd.C k82 w A22 l22.length l22) (hc22 : l22.length ≤ c22) (hr23 : Kd.C (Kd.int .i64) w A23 l23.length l23) (hc23 : l23.length ≤ c23) (hr24 : Kd.C Kd.string w A24 l24.length l24) (hc24 : l24.length ≤ c24)
    (hl22 : (l22.length : Int) ≤ 1125899906842624) (hl24 : (l24.length : Int) ≤ 1125899906842624) (hs22 : ∀ y ∈ l22, y.f0.size ≤ 4294967280) (hs24 : ∀ y ∈ l24, y.size ≤ 4294967280)
    (hm1 : packet_sameMessage.f a6 l7 a8 a9 ⟨#[]⟩ [] 0 false = some m1) (hm2 : packet_sameMessage.f a17 l18 a19 a20 ⟨#[]⟩ [] 0 false = some m2)
    (hF : f = foreignV a0 a1 a2 a3 a4 a5 a6 l7 a8 a9 a10 a11 a12 l13 a14 a15 a16 a17 l18 a19 a20 a21 l22 l23 l24 h m1 m2) (htC : packet_text.f a4 = some tC) (htU : packet_text.f a11 = some tU) (hrW : topic_Check.f a6 = some rW) (hrM : topic_Check.f a17 = some rM)
    (hq : packet_qualities.f kq a0 a1 a2 a3 a4 a5 a6 l7 a8 a9 a10 a11 a12 l13 a14 a15 a16 a17 l18 a19 a20 a21 l22 l23 l24 = some q)
    (hS : (a4.size : Int) + a6.size + l7.length + a11.size + l13.length + a17.size + l18.length + l23.length + sumA l22 + sumT l24 ≤ 1125899906842624)
    (hL : L = lenV (decide (0 < bits BinOp.and IntKind.i64 h 1)) (decide (0 < bits BinOp.and IntKind.i64 h 2)) (decide (0 < bits BinOp.and IntKind.i64 h 4)) (numberedV a0 a19) a5 a10 a12 a4.size a6.size l7.length a11.size l13.length a17.size l18.length l22 l24 l23.length)
    (hR : R = checkV (f || (decide (a1 < 0) || (decide (255 < a1) || (decide (a15 < 0) || (decide (255 < a15) || (decide (a3 < 0) || decide (65535 < a3))))))) (!tC || !tU) ((a5 && (rW != 0)) || (decide (0 < bits BinOp.and IntKind.i64 h 4) && (rM != 0))) (!filtersV l22 l24) (!q) (numberedV a0 a19 && (decide (a21 < 1) || decide (65535 < a21))) (decide (65535 < (l7.length : Int)) || (decide (65535 < (l13.length : Int)) || decide (268435455 < L))) ((decide (0 < bits BinOp.and IntKind.i64 h 16) && ((l22.length : Int) == 0)) || ((decide (0 < bits BinOp.and IntKind.i64 h 32) && ((l23.length : Int) == 0)) || (decide (0 < bits BinOp.and IntKind.i64 h 64) && ((l24.length : Int) == 0)))) ((a12 && !a10) || ((a16 && (a19 == 0)) || (a14 && (a15 != 0))))) :
    Calls Tryz.prog 24 #[.agg #[.int .i64 a0, .int .i64 a1, .bool a2, .int .i64 a3, .string a4, .bool a5, .string a6, .slice A7 l7.length c7, .int .i64 a8, .bool a9, .bool a10, .string a11, .bool a12, .slice A13 l13.length c13, .bool a14, .int .i64 a15, .bool a16, .string a17, .slice A18 l18.length c18, .int .i64 a19, .bool a20, .int .i64 a21, .slice A22 l22.length c22, .slice A23 l23.length c23, .slice A24 l24.length c24]] w fun e w' => e = .returned (.int .i64 R) ∧ Below w.heap.size w w' := by
  have hu29 := Tryz.underlying29
  have hu24 := Tryz.underlying24
  have HG := Aside0.mk (show w.cell? ⟨0, a0.toNat, none⟩ = some (.int .i64 h) by rw [hh]; exact hT a0.toNat (by omega))
  have HK := Aside0.mk (show packet_isKind.f a0 = some true by unfold packet_isKind.f; rw [if_pos h1, decide_eq_true h2])
  have p : (0 ≤ a0) = True := eq_true (by omega)
  have q_ : (a0 < 15) = True := eq_true (by omega)
  have HhT := Aside0.mk hT
  have Hh1 := Aside0.mk h1
  have Hh2 := Aside0.mk h2
  have Hhh := Aside0.mk hh
  have Hhr7 := Aside0.mk hr7
  have Hhc7 := Aside0.mk hc7
  have Hhr13 := Aside0.mk hr13
  have Hhc13 := Aside0.mk hc13
  have Hhr18 := Aside0.mk hr18
  have Hhc18 := Aside0.mk hc18
  have Hhr22 := Aside0.mk hr22
  have Hhc22 := Aside0.mk hc22
  have Hhr23 := Aside0.mk hr23
  have Hhc23 := Aside0.mk hc23
  have Hhr24 := Aside0.mk hr24
  have Hhc24 := Aside0.mk hc24
  have Hhl22 := Aside0.mk hl22
  have Hhl24 := Aside0.mk hl24
  have Hhs22 := Aside0.mk hs22
  have Hhs24 := Aside0.mk hs24
  have Hhm1 := Aside0.mk hm1
  have Hhm2 := Aside0.mk hm2
  have HhF := Aside0.mk hF
  have HhtC := Aside0.mk htC
  have HhtU := Aside0.mk htU
  have HhrW := Aside0.mk hrW
  have HhrM := Aside0.mk hrM
  have Hhq := Aside0.mk hq
  have HhS := Aside0.mk hS
  have HhL := Aside0.mk hL
  have HhR := Aside0.mk hR
  clear hR hL hS hq hrM hrW htU htC hF hm2 hm1 hs24 hs22 hl24 hl22 hc24 hr24 hc23 hr23 hc22 hr22 hc18 hr18 hc13 hr13 hc7 hr7 hh h2 h1 hT
  have HB := Aside0.mk (Below.refl w.heap.size w)
  go_enter Tryz.func24, Tryz.ntmps24
  go_upto_region 1 with (first | ((with_reducible refine gate_dst (N := 1) rfl ?_); refine box_event ?hg (N := 1) ?hd (cs := #[.int .i64 a0, .int .i64 a1, .bool a2, .int .i64 a3, .string a4, .bool a5, .string a6, .slice A7 l7.length c7, .int .i64 a8, .bool a9, .bool a10, .string a11, .bool a12, .slice A13 l13.length c13, .bool a14, .int .i64 a15, .bool a16, .string a17, .slice A18 l18.length c18, .int .i64 a19, .bool a20, .int .i64 a21, .slice A22 l22.length c22, .slice A23 l23.length c23, .slice A24 l24.length c24]) (t := 29) ?hr ?_; (case hd => rfl); (case hg => rfl); (case hr => first | (go_simp; done) | (go_simp; rfl)); intro gb hg w3 hbox hb; have n0_ := Aside0.mk (below_step (by repeat (first | (with_reducible first | exact HB.out | apply below_alloc | apply pw_below_drewN | apply below_drew1) | exact HB.out)) hb); clear HB; have HB := n0_; clear n0_; have BK := Aside0.mk hbox; clear hb hbox hg))
  have hz0 : w3.cell? ⟨gb, 0, none⟩ = some (.int .i64 a0) := (blk_cell BK.out 0).trans rfl
  go_upto_region 3 with (first | (go_at_call 92; (with_reducible refine (packet_isKind.calls a0 true _ HK.out).mono ?_); rintro e w' ⟨rfl, ⟨nd, rfl⟩⟩))
  have hG : (w3.drewN nd).cell? ⟨0, a0.toNat, none⟩ = some (.int .i64 h) := (Below.cell (show Below w.heap.size w (w3.drewN nd) from pw_below_drewN HB.out _) (p := ⟨0, a0.toNat, none⟩) (Cr_cell_lt HG.out)).trans HG.out
  go_upto_region 4 with (fail)
  have n0_ := Aside0.mk (show Below w.heap.size w (w3.drewN nd) from pw_below_drewN HB.out _)
  have n1_ := Aside0.mk (blk_drewN BK.out nd)
  clear HB BK hG hz0 p q_
  have HB := n0_
  have BK := n1_
  clear n0_ n1_
  generalize (w3.drewN nd) = w4 at *
  generalize (Value.agg #[.int .i64 a0, .int .i64 a1, .bool a2, .int .i64 a3, .string a4, .bool a5, .string a6, .slice A7 l7.length c7, .int .i64 a8, .bool a9, .bool a10, .string a11, .bool a12, .slice A13 l13.length c13, .bool a14, .int .i64 a15, .bool a16, .string a17, .slice A18 l18.length c18, .int .i64 a19, .bool a20, .int .i64 a21, .slice A22 l22.length c22, .slice A23 l23.length c23, .slice A24 l24.length c24]) = v0
  go_upto_region 4 with (fail)
  try simp only [Act.put, List.setIfInBounds_toArray, List.set_cons_zero, List.set_cons_succ]
  go_upto_if 12 with (first | ((with_reducible refine gate_dst (N := 13) rfl ?_); refine wpList_load_row rfl 29 (.tmp 1) rfl gb rfl 29 #[.int .i64 a0, .int .i64 a1, .bool a2, .int .i64 a3, .string a4, .bool a5, .string a6, .slice A7 l7.length c7, .int .i64 a8, .bool a9, .bool a10, .string a11, .bool a12, .slice A13 l13.length c13, .bool a14, .int .i64 a15, .bool a16, .string a17, .slice A18 l18.length c18, .int .i64 a19, .bool a20, .int .i64 a21, .slice A22 l22.length c22, .slice A23 l23.length c23, .slice A24 l24.length c24] (0, 0) _ BK.out hu29 rfl (by kernel_rfl) ?_) | (go_at_call 93; (with_reducible refine (foreign_calls2 a0 a1 a2 a3 a4 a5 a6 A7 c7 l7 a8 a9 a10 a11 a12 A13 c13 l13 a14 a15 a16 a17 A18 c18 l18 a19 a20 a21 A22 c22 l22 A23 c23 l23 A24 c24 l24 h m1 m2 _ (HhT.out.below (by repeat (first | (with_reducible first | exact HB.out | apply below_alloc | apply pw_below_drewN | apply below_drew1) | exact HB.out))) Hh1.out Hh2.out Hhh.out (Kd.C_below Hhr7.out (by repeat (first | (with_reducible first | exact HB.out | apply below_alloc | apply pw_below_drewN | apply below_drew1) | exact HB.out))) Hhc7.out (Kd.C_below Hhr18.out (by repeat (first | (with_reducible first | exact HB.out | apply below_alloc | apply pw_below_drewN | apply below_drew1) | exact HB.out))) Hhc18.out Hhm1.out Hhm2.out f HhF.out).mono ?_); rintro e w9 ⟨rfl, hb⟩; have n0_ := Aside0.mk (below_step (by repeat (first | (with_reducible first | exact HB.out | apply below_alloc | apply pw_below_drewN | apply below_drew1) | exact HB.out)) hb); have n1_ := Aside0.mk (blk_below (by first | exact BK.out | exact blk_drewN BK.out _) hb); clear HB BK; have HB := n0_; have BK := n1_; clear n0_ n1_; clear hb; have hz1 : w9.cell? ⟨gb, 1, none⟩ = some (.int .i64 a1) := (blk_cell BK.out 1).trans rfl; have hz15 : w9.cell? ⟨gb, 15, none⟩ = some (.int .i64 a15) := (blk_cell BK.out 15).trans rfl; have hz3 : w9.cell? ⟨gb, 3, none⟩ = some (.int .i64 a3) := (blk_cell BK.out 3).trans rfl))
  obtain ⟨wf, hwf⟩ : ∃ x, x = w9 := ⟨_, rfl⟩
  subst hwf
  go_cut [12] (fun v wc => ∃ b : Bool, v = .bool b ∧ Aside0 (b = (f || (decide (a1 < 0) || (decide (255 < a1) || (decide (a15 < 0) || (decide (255 < a15) || (decide (a3 < 0) || decide (65535 < a3)))))))) ∧ Aside0 (wc.heap[gb]? = some (.cells #[.int .i64 a0, .int .i64 a1, .bool a2, .int .i64 a3, .string a4, .bool a5, .string a6, .slice A7 l7.length c7, .int .i64 a8, .bool a9, .bool a10, .string a11, .bool a12, .slice A13 l13.length c13, .bool a14, .int .i64 a15, .bool a16, .string a17, .slice A18 l18.length c18, .int .i64 a19, .bool a20, .int .i64 a21, .slice A22 l22.length c22, .slice A23 l23.length c23, .slice A24 l24.length c24] 29 (0, 0))) ∧ Aside0 (Below w.heap.size w wc))
  case first =>
    as_aux_lemma =>
    cases f
    all_goals go_wp2
    all_goals (go_meet; (case rel => exact ⟨_, rfl, Aside0.mk (by first | (simp [*]; done) | (rw [Bool.eq_iff_iff]; simp; omega) | (simp [*]; intros; exfalso; omega) | (simp_all; done) | (simp_all; intros; exfalso; omega)), (by first | exact BK | exact Aside0.mk (blk_drewN BK.out _)), Aside0.mk (by repeat (first | (with_reducible first | exact HB.out | apply below_alloc | apply pw_below_drewN | apply below_drew1) | exact HB.out))⟩))
  case rest =>
    clear HB BK hz1 hz15 hz3
    obtain ⟨b0, rfl, hb0, BK, HB⟩ := hcut
    obtain ⟨wA1, hwA⟩ : ∃ x, x = wc := ⟨_, rfl⟩
    subst hwA
    cases b0 with
    | true =>
      have e : R = 21 := by rw [HhR.out, ← hb0.out]; rfl
      subst e
      as_aux_lemma =>
      go_wp2
      go_ret
      exact ⟨rfl, by repeat (first | (with_reducible first | exact HB.out | apply below_alloc | apply pw_below_drewN | apply below_drew1) | exact HB.out)⟩
    | false =>
      go_upto_region 12 with (fail)
      try simp only [Act.put, List.setIfInBounds_toArray, List.set_cons_zero, List.set_cons_succ]
      go_cut [33] (fun v wc => ∃ b : Bool, v = .bool b ∧ Aside0 (b = (!tC)) ∧ Aside0 (wc.heap[gb]? = some (.cells #[.int .i64 a0, .int .i64 a1, .bool a2, .int .i64 a3, .string a4, .bool a5, .string a6, .slice A7 l7.length c7, .int .i64 a8, .bool a9, .bool a10, .string a11, .bool a12, .slice A13 l13.length c13, .bool a14, .int .i64 a15, .bool a16, .string a17, .slice A18 l18.length c18, .int .i64 a19, .bool a20, .int .i64 a21, .slice A22 l22.length c22, .slice A23 l23.length c23, .slice A24 l24.length c24] 29 (0, 0))) ∧ Aside0 (Below w.heap.size w wc))
      case first =>
        as_aux_lemma =>
        have hz4 : wA1.cell? ⟨gb, 4, none⟩ = some (.string a4) := (blk_cell BK.out 4).trans rfl
        go_wp2_with (first | (go_at_call 94; (with_reducible refine (packet_text.calls a4 tC _ HhtC.out).mono ?_); rintro e w9 ⟨rfl, hb⟩; have n0_ := Aside0.mk (below_step (by repeat (first | (with_reducible first | exact HB.out | apply below_alloc | apply pw_below_drewN | apply below_drew1) | exact HB.out)) hb); have n1_ := Aside0.mk (blk_below (by first | exact BK.out | exact blk_drewN BK.out _) hb); clear HB BK; have HB := n0_; have BK := n1_; clear n0_ n1_; clear hb; have hz4 : w9.cell? ⟨gb, 4, none⟩ = some (.string a4) := (blk_cell BK.out 4).trans rfl))
        all_goals (go_meet; (case rel => exact ⟨_, rfl, Aside0.mk (by first | (simp [*]; done) | (rw [Bool.eq_iff_iff]; simp; omega) | (simp [*]; intros; exfalso; omega) | (simp_all; done) | (simp_all; intros; exfalso; omega)), (by first | exact BK | exact Aside0.mk (blk_drewN BK.out _)), Aside0.mk (by repeat (first | (with_reducible first | exact HB.out | apply below_alloc | apply pw_below_drewN | apply below_drew1) | exact HB.out))⟩))
      case rest =>
        clear HB BK
        obtain ⟨d1, rfl, hd1, BK, HB⟩ := hcut
        obtain ⟨wB1, hwA⟩ : ∃ x, x = wc := ⟨_, rfl⟩
        subst hwA
        go_upto_if 33 with (fail)
        go_cut [33] (fun v wc => ∃ b : Bool, v = .bool b ∧ Aside0 (b = (d1 || !tU)) ∧ Aside0 (wc.heap[gb]? = some (.cells #[.int .i64 a0, .int .i64 a1, .bool a2, .int .i64 a3, .string a4, .bool a5, .string a6, .slice A7 l7.length c7, .int .i64 a8, .bool a9, .bool a10, .string a11, .bool a12, .slice A13 l13.length c13, .bool a14, .int .i64 a15, .bool a16, .string a17, .slice A18 l18.length c18, .int .i64 a19, .bool a20, .int .i64 a21, .slice A22 l22.length c22, .slice A23 l23.length c23, .slice A24 l24.length c24] 29 (0, 0))) ∧ Aside0 (Below w.heap.size w wc))
        case first =>
          cases d1
          · as_aux_lemma =>
            have hz4 : wB1.cell? ⟨gb, 4, none⟩ = some (.string a4) := (blk_cell BK.out 4).trans rfl
            have hz11 : wB1.cell? ⟨gb, 11, none⟩ = some (.string a11) := (blk_cell BK.out 11).trans rfl
            go_wp2_with (first | (go_at_call 94; (with_reducible refine (packet_text.calls a11 tU _ HhtU.out).mono ?_); rintro e w9 ⟨rfl, hb⟩; have n0_ := Aside0.mk (below_step (by repeat (first | (with_reducible first | exact HB.out | apply below_alloc | apply pw_below_drewN | apply below_drew1) | exact HB.out)) hb); have n1_ := Aside0.mk (blk_below (by first | exact BK.out | exact blk_drewN BK.out _) hb); clear HB BK; have HB := n0_; have BK := n1_; clear n0_ n1_; clear hb; have hz4 : w9.cell? ⟨gb, 4, none⟩ = some (.string a4) := (blk_cell BK.out 4).trans rfl; have hz11 : w9.cell? ⟨gb, 11, none⟩ = some (.string a11) := (blk_cell BK.out 11).trans rfl))
            all_goals (go_meet; (case rel => exact ⟨_, rfl, Aside0.mk (by first | (simp [*]; done) | (rw [Bool.eq_iff_iff]; simp; omega) | (simp [*]; intros; exfalso; omega) | (simp_all; done) | (simp_all; intros; exfalso; omega)), (by first | exact BK | exact Aside0.mk (blk_drewN BK.out _)), Aside0.mk (by repeat (first | (with_reducible first | exact HB.out | apply below_alloc | apply pw_below_drewN | apply below_drew1) | exact HB.out))⟩))
          · as_aux_lemma =>
            go_wp2
            all_goals (go_meet; (case rel => exact ⟨_, rfl, Aside0.mk (by first | (simp [*]; done) | (rw [Bool.eq_iff_iff]; simp; omega) | (simp [*]; intros; exfalso; omega) | (simp_all; done) | (simp_all; intros; exfalso; omega)), (by first | exact BK | exact Aside0.mk (blk_drewN BK.out _)), Aside0.mk (by repeat (first | (with_reducible first | exact HB.out | apply below_alloc | apply pw_below_drewN | apply below_drew1) | exact HB.out))⟩))
        case rest =>
          clear HB BK
          obtain ⟨b1, rfl, hb1, BK, HB⟩ := hcut
          replace hb1 := Aside0.mk (show b1 = (!tC || !tU) by first | (rw [hb1.out, hd1.out]; done) | (rw [hb1.out, hd1.out]; simp only [Bool.or_assoc]))
          clear hd1
          obtain ⟨wA2, hwA⟩ : ∃ x, x = wc := ⟨_, rfl⟩
          subst hwA
          cases b1 with
          | true =>
            have e : R = 22 := by rw [HhR.out, ← hb0.out, ← hb1.out]; rfl
            subst e
            as_aux_lemma =>
            go_wp2
            go_ret
            exact ⟨rfl, by repeat (first | (with_reducible first | exact HB.out | apply below_alloc | apply pw_below_drewN | apply below_drew1) | exact HB.out)⟩
          | false =>
            go_upto_region 15 with (fail)
            try simp only [Act.put, List.setIfInBounds_toArray, List.set_cons_zero, List.set_cons_succ]
            go_cut [42] (fun v wc => ∃ b : Bool, v = .bool b ∧ Aside0 (b = (a5 && (rW != 0))) ∧ Aside0 (wc.heap[gb]? = some (.cells #[.int .i64 a0, .int .i64 a1, .bool a2, .int .i64 a3, .string a4, .bool a5, .string a6, .slice A7 l7.length c7, .int .i64 a8, .bool a9, .bool a10, .string a11, .bool a12, .slice A13 l13.length c13, .bool a14, .int .i64 a15, .bool a16, .string a17, .slice A18 l18.length c18, .int .i64 a19, .bool a20, .int .i64 a21, .slice A22 l22.length c22, .slice A23 l23.length c23, .slice A24 l24.length c24] 29 (0, 0))) ∧ Aside0 (Below w.heap.size w wc))
            case first =>
              as_aux_lemma =>
              have hz5 : wA2.cell? ⟨gb, 5, none⟩ = some (.bool a5) := (blk_cell BK.out 5).trans rfl
              have hz6 : wA2.cell? ⟨gb, 6, none⟩ = some (.string a6) := (blk_cell BK.out 6).trans rfl
              go_wp2_with (first | (go_at_call 95; (with_reducible refine (topic_Check.calls a6 rW _ HhrW.out).mono ?_); rintro e w9 ⟨rfl, hb⟩; have n0_ := Aside0.mk (below_step (by repeat (first | (with_reducible first | exact HB.out | apply below_alloc | apply pw_below_drewN | apply below_drew1) | exact HB.out)) hb); have n1_ := Aside0.mk (blk_below (by first | exact BK.out | exact blk_drewN BK.out _) hb); clear HB BK; have HB := n0_; have BK := n1_; clear n0_ n1_; clear hb; have hz5 : w9.cell? ⟨gb, 5, none⟩ = some (.bool a5) := (blk_cell BK.out 5).trans rfl; have hz6 : w9.cell? ⟨gb, 6, none⟩ = some (.string a6) := (blk_cell BK.out 6).trans rfl))
              all_goals (go_meet; (case rel => exact ⟨_, rfl, Aside0.mk (by first | (simp [*]; done) | (rw [Bool.eq_iff_iff]; simp; omega) | (simp [*]; intros; exfalso; omega) | (simp_all; done) | (simp_all; intros; exfalso; omega)), (by first | exact BK | exact Aside0.mk (blk_drewN BK.out _)), Aside0.mk (by repeat (first | (with_reducible first | exact HB.out | apply below_alloc | apply pw_below_drewN | apply below_drew1) | exact HB.out))⟩))
            case rest =>
              clear HB BK
              obtain ⟨d2, rfl, hd2, BK, HB⟩ := hcut
              obtain ⟨wB2, hwA⟩ : ∃ x, x = wc := ⟨_, rfl⟩
              subst hwA
              go_upto_if 42 with (fail)
              go_cut [42] (fun v wc => ∃ b : Bool, v = .bool b ∧ Aside0 (b = (d2 || (decide (0 < bits BinOp.and IntKind.i64 h 4) && (rM != 0)))) ∧ Aside0 (wc.heap[gb]? = some (.cells #[.int .i64 a0, .int .i64 a1, .bool a2, .int .i64 a3, .string a4, .bool a5, .string a6, .slice A7 l7.length c7, .int .i64 a8, .bool a9, .bool a10, .string a11, .bool a12, .slice A13 l13.length c13, .bool a14, .int .i64 a15, .bool a16, .string a17, .slice A18 l18.length c18, .int .i64 a19, .bool a20, .int .i64 a21, .slice A22 l22.length c22, .slice A23 l23.length c23, .slice A24 l24.length c24] 29 (0, 0))) ∧ Aside0 (Below w.heap.size w wc))
              case first =>
                cases d2
                · as_aux_lemma =>
                  have hz5 : wB2.cell? ⟨gb, 5, none⟩ = some (.bool a5) := (blk_cell BK.out 5).trans rfl
                  have hz6 : wB2.cell? ⟨gb, 6, none⟩ = some (.string a6) := (blk_cell BK.out 6).trans rfl
                  have hz17 : wB2.cell? ⟨gb, 17, none⟩ = some (.string a17) := (blk_cell BK.out 17).trans rfl
                  go_wp2_with (first | (go_at_call 95; (with_reducible refine (topic_Check.calls a17 rM _ HhrM.out).mono ?_); rintro e w9 ⟨rfl, hb⟩; have n0_ := Aside0.mk (below_step (by repeat (first | (with_reducible first | exact HB.out | apply below_alloc | apply pw_below_drewN | apply below_drew1) | exact HB.out)) hb); have n1_ := Aside0.mk (blk_below (by first | exact BK.out | exact blk_drewN BK.out _) hb); clear HB BK; have HB := n0_; have BK := n1_; clear n0_ n1_; clear hb; have hz5 : w9.cell? ⟨gb, 5, none⟩ = some (.bool a5) := (blk_cell BK.out 5).trans rfl; have hz6 : w9.cell? ⟨gb, 6, none⟩ = some (.string a6) := (blk_cell BK.out 6).trans rfl; have hz17 : w9.cell? ⟨gb, 17, none⟩ = some (.string a17) := (blk_cell BK.out 17).trans rfl))
                  all_goals (go_meet; (case rel => exact ⟨_, rfl, Aside0.mk (by first | (simp [*]; done) | (rw [Bool.eq_iff_iff]; simp; omega) | (simp [*]; intros; exfalso; omega) | (simp_all; done) | (simp_all; intros; exfalso; omega)), (by first | exact BK | exact Aside0.mk (blk_drewN BK.out _)), Aside0.mk (by repeat (first | (with_reducible first | exact HB.out | apply below_alloc | apply pw_below_drewN | apply below_drew1) | exact HB.out))⟩))
                · as_aux_lemma =>
                  go_wp2
                  all_goals (go_meet; (case rel => exact ⟨_, rfl, Aside0.mk (by first | (simp [*]; done) | (rw [Bool.eq_iff_iff]; simp; omega) | (simp [*]; intros; exfalso; omega) | (simp_all; done) | (simp_all; intros; exfalso; omega)), (by first | exact BK | exact Aside0.mk (blk_drewN BK.out _)), Aside0.mk (by repeat (first | (with_reducible first | exact HB.out | apply below_alloc | apply pw_below_drewN | apply below_drew1) | exact HB.out))⟩))
              case rest =>
                clear HB BK
                obtain ⟨b2, rfl, hb2, BK, HB⟩ := hcut
                replace hb2 := Aside0.mk (show b2 = ((a5 && (rW != 0)) || (decide (0 < bits BinOp.and IntKind.i64 h 4) && (rM != 0))) by first | (rw [hb2.out, hd2.out]; done) | (rw [hb2.out, hd2.out]; simp only [Bool.or_assoc]))
                clear hd2
                obtain ⟨wA3, hwA⟩ : ∃ x, x = wc := ⟨_, rfl⟩
                subst hwA
                cases b2 with
                | true =>
                  have e : R = 23 := by rw [HhR.out, ← hb0.out, ← hb1.out, ← hb2.out]; rfl
                  subst e
                  as_aux_lemma =>
                  go_wp2
                  go_ret
                  exact ⟨rfl, by repeat (first | (with_reducible first | exact HB.out | apply below_alloc | apply pw_below_drewN | apply below_drew1) | exact HB.out)⟩
                | false =>
                  go_upto_region 18 with (fail)
                  try simp only [Act.put, List.setIfInBounds_toArray, List.set_cons_zero, List.set_cons_succ]
                  go_cut [62] (fun v wc => ∃ b : Bool, v = .bool b ∧ Aside0 (b = (!filtersV l22 l24)) ∧ Aside0 (wc.heap[gb]? = some (.cells #[.int .i64 a0, .int .i64 a1, .bool a2, .int .i64 a3, .string a4, .bool a5, .string a6, .slice A7 l7.length c7, .int .i64 a8, .bool a9, .bool a10, .string a11, .bool a12, .slice A13 l13.length c13, .bool a14, .int .i64 a15, .bool a16, .string a17, .slice A18 l18.length c18, .int .i64 a19, .bool a20, .int .i64 a21, .slice A22 l22.length c22, .slice A23 l23.length c23, .slice A24 l24.length c24] 29 (0, 0))) ∧ Aside0 (Below w.heap.size w wc))
                  case first =>
                    as_aux_lemma =>
                    go_wp2_with (first | ((with_reducible refine gate_dst (N := 63) rfl ?_); refine wpList_load_row rfl 29 (.tmp 1) rfl gb rfl 29 #[.int .i64 a0, .int .i64 a1, .bool a2, .int .i64 a3, .string a4, .bool a5, .string a6, .slice A7 l7.length c7, .int .i64 a8, .bool a9, .bool a10, .string a11, .bool a12, .slice A13 l13.length c13, .bool a14, .int .i64 a15, .bool a16, .string a17, .slice A18 l18.length c18, .int .i64 a19, .bool a20, .int .i64 a21, .slice A22 l22.length c22, .slice A23 l23.length c23, .slice A24 l24.length c24] (0, 0) _ BK.out hu29 rfl (by kernel_rfl) ?_) | (go_at_call 96; (with_reducible refine (filters_calls a0 a1 a2 a3 a4 a5 a6 A7 c7 l7 a8 a9 a10 a11 a12 A13 c13 l13 a14 a15 a16 a17 A18 c18 l18 a19 a20 a21 A22 c22 l22 A23 c23 l23 A24 c24 l24 _ (Kd.C_below Hhr22.out (by repeat (first | (with_reducible first | exact HB.out | apply below_alloc | apply pw_below_drewN | apply below_drew1) | exact HB.out))) Hhc22.out (Kd.C_below Hhr24.out (by repeat (first | (with_reducible first | exact HB.out | apply below_alloc | apply pw_below_drewN | apply below_drew1) | exact HB.out))) Hhc24.out Hhl22.out Hhl24.out Hhs22.out Hhs24.out).mono ?_); rintro e w9 ⟨rfl, hb⟩; have n0_ := Aside0.mk (below_step (by repeat (first | (with_reducible first | exact HB.out | apply below_alloc | apply pw_below_drewN | apply below_drew1) | exact HB.out)) hb); have n1_ := Aside0.mk (blk_below (by first | exact BK.out | exact blk_drewN BK.out _) hb); clear HB BK; have HB := n0_; have BK := n1_; clear n0_ n1_; clear hb))
                    all_goals (go_meet; (case rel => exact ⟨_, rfl, Aside0.mk (by first | (simp [*]; done) | (rw [Bool.eq_iff_iff]; simp; omega) | (simp [*]; intros; exfalso; omega) | (simp_all; done) | (simp_all; intros; exfalso; omega)), (by first | exact BK | exact Aside0.mk (blk_drewN BK.out _)), Aside0.mk (by repeat (first | (with_reducible first | exact HB.out | apply below_alloc | apply pw_below_drewN | apply below_drew1) | exact HB.out))⟩))
                  case rest =>
                    clear HB BK
                    obtain ⟨b3, rfl, hb3, BK, HB⟩ := hcut
                    obtain ⟨wA4, hwA⟩ : ∃ x, x = wc := ⟨_, rfl⟩
                    subst hwA
                    cases b3 with
                    | true =>
                      have e : R = 24 := by rw [HhR.out, ← hb0.out, ← hb1.out, ← hb2.out, ← hb3.out]; rfl
                      subst e
                      as_aux_lemma =>
                      go_wp2
                      go_ret
                      exact ⟨rfl, by repeat (first | (with_reducible first | exact HB.out | apply below_alloc | apply pw_below_drewN | apply below_drew1) | exact HB.out)⟩
                    | false =>
                      go_upto_region 20 with (fail)
                      try simp only [Act.put, List.setIfInBounds_toArray, List.set_cons_zero, List.set_cons_succ]
                      go_cut [66] (fun v wc => ∃ b : Bool, v = .bool b ∧ Aside0 (b = (!q)) ∧ Aside0 (wc.heap[gb]? = some (.cells #[.int .i64 a0, .int .i64 a1, .bool a2, .int .i64 a3, .string a4, .bool a5, .string a6, .slice A7 l7.length c7, .int .i64 a8, .bool a9, .bool a10, .string a11, .bool a12, .slice A13 l13.length c13, .bool a14, .int .i64 a15, .bool a16, .string a17, .slice A18 l18.length c18, .int .i64 a19, .bool a20, .int .i64 a21, .slice A22 l22.length c22, .slice A23 l23.length c23, .slice A24 l24.length c24] 29 (0, 0))) ∧ Aside0 (Below w.heap.size w wc))
                      case first =>
                        as_aux_lemma =>
                        go_wp2_with (first | ((with_reducible refine gate_dst (N := 67) rfl ?_); refine wpList_load_row rfl 29 (.tmp 1) rfl gb rfl 29 #[.int .i64 a0, .int .i64 a1, .bool a2, .int .i64 a3, .string a4, .bool a5, .string a6, .slice A7 l7.length c7, .int .i64 a8, .bool a9, .bool a10, .string a11, .bool a12, .slice A13 l13.length c13, .bool a14, .int .i64 a15, .bool a16, .string a17, .slice A18 l18.length c18, .int .i64 a19, .bool a20, .int .i64 a21, .slice A22 l22.length c22, .slice A23 l23.length c23, .slice A24 l24.length c24] (0, 0) _ BK.out hu29 rfl (by kernel_rfl) ?_) | (go_at_call 97; (with_reducible refine (packet_qualities.calls kq a0 a1 a2 a3 a4 a5 a6 A7 c7 l7 a8 a9 a10 a11 a12 A13 c13 l13 a14 a15 a16 a17 A18 c18 l18 a19 a20 a21 A22 c22 l22 A23 c23 l23 A24 c24 l24 q _ (Kd.C_below Hhr7.out (by repeat (first | (with_reducible first | exact HB.out | apply below_alloc | apply pw_below_drewN | apply below_drew1) | exact HB.out))) Hhc7.out (Kd.C_below Hhr13.out (by repeat (first | (with_reducible first | exact HB.out | apply below_alloc | apply pw_below_drewN | apply below_drew1) | exact HB.out))) Hhc13.out (Kd.C_below Hhr18.out (by repeat (first | (with_reducible first | exact HB.out | apply below_alloc | apply pw_below_drewN | apply below_drew1) | exact HB.out))) Hhc18.out (Kd.C_below Hhr22.out (by repeat (first | (with_reducible first | exact HB.out | apply below_alloc | apply pw_below_drewN | apply below_drew1) | exact HB.out))) Hhc22.out (Kd.C_below Hhr23.out (by repeat (first | (with_reducible first | exact HB.out | apply below_alloc | apply pw_below_drewN | apply below_drew1) | exact HB.out))) Hhc23.out (Kd.C_below Hhr24.out (by repeat (first | (with_reducible first | exact HB.out | apply below_alloc | apply pw_below_drewN | apply below_drew1) | exact HB.out))) Hhc24.out Hhq.out).mono ?_); rintro e w9 ⟨rfl, hb⟩; have n0_ := Aside0.mk (below_step (by repeat (first | (with_reducible first | exact HB.out | apply below_alloc | apply pw_below_drewN | apply below_drew1) | exact HB.out)) hb); have n1_ := Aside0.mk (blk_below (by first | exact BK.out | exact blk_drewN BK.out _) hb); clear HB BK; have HB := n0_; have BK := n1_; clear n0_ n1_; clear hb))
                        all_goals (go_meet; (case rel => exact ⟨_, rfl, Aside0.mk (by first | (simp [*]; done) | (rw [Bool.eq_iff_iff]; simp; omega) | (simp [*]; intros; exfalso; omega) | (simp_all; done) | (simp_all; intros; exfalso; omega)), (by first | exact BK | exact Aside0.mk (blk_drewN BK.out _)), Aside0.mk (by repeat (first | (with_reducible first | exact HB.out | apply below_alloc | apply pw_below_drewN | apply below_drew1) | exact HB.out))⟩))
                      case rest =>
                        clear HB BK
                        obtain ⟨b4, rfl, hb4, BK, HB⟩ := hcut
                        obtain ⟨wA5, hwA⟩ : ∃ x, x = wc := ⟨_, rfl⟩
                        subst hwA
                        cases b4 with
                        | true =>
                          have e : R = 25 := by rw [HhR.out, ← hb0.out, ← hb1.out, ← hb2.out, ← hb3.out, ← hb4.out]; rfl
                          subst e
                          as_aux_lemma =>
                          go_wp2
                          go_ret
                          exact ⟨rfl, by repeat (first | (with_reducible first | exact HB.out | apply below_alloc | apply pw_below_drewN | apply below_drew1) | exact HB.out)⟩
                        | false =>
                          go_upto_region 22 with (fail)
                          try simp only [Act.put, List.setIfInBounds_toArray, List.set_cons_zero, List.set_cons_succ]
                          go_cut [70] (fun v wc => ∃ b : Bool, v = .bool b ∧ Aside0 (b = (numberedV a0 a19 && (decide (a21 < 1) || decide (65535 < a21)))) ∧ Aside0 (wc.heap[gb]? = some (.cells #[.int .i64 a0, .int .i64 a1, .bool a2, .int .i64 a3, .string a4, .bool a5, .string a6, .slice A7 l7.length c7, .int .i64 a8, .bool a9, .bool a10, .string a11, .bool a12, .slice A13 l13.length c13, .bool a14, .int .i64 a15, .bool a16, .string a17, .slice A18 l18.length c18, .int .i64 a19, .bool a20, .int .i64 a21, .slice A22 l22.length c22, .slice A23 l23.length c23, .slice A24 l24.length c24] 29 (0, 0))) ∧ Aside0 (Below w.heap.size w wc))
                          case first =>
                            as_aux_lemma =>
                            have hz21 : wA5.cell? ⟨gb, 21, none⟩ = some (.int .i64 a21) := (blk_cell BK.out 21).trans rfl
                            go_wp2_with (first | ((with_reducible refine gate_dst (N := 71) rfl ?_); refine wpList_load_row rfl 29 (.tmp 1) rfl gb rfl 29 #[.int .i64 a0, .int .i64 a1, .bool a2, .int .i64 a3, .string a4, .bool a5, .string a6, .slice A7 l7.length c7, .int .i64 a8, .bool a9, .bool a10, .string a11, .bool a12, .slice A13 l13.length c13, .bool a14, .int .i64 a15, .bool a16, .string a17, .slice A18 l18.length c18, .int .i64 a19, .bool a20, .int .i64 a21, .slice A22 l22.length c22, .slice A23 l23.length c23, .slice A24 l24.length c24] (0, 0) _ BK.out hu29 rfl (by kernel_rfl) ?_) | (go_at_call 98; (with_reducible refine (numbered_calls a0 a1 a2 a3 a4 a5 a6 A7 l7.length c7 a8 a9 a10 a11 a12 A13 l13.length c13 a14 a15 a16 a17 A18 l18.length c18 a19 a20 a21 A22 l22.length c22 A23 l23.length c23 A24 l24.length c24 _ (HhT.out.below (by repeat (first | (with_reducible first | exact HB.out | apply below_alloc | apply pw_below_drewN | apply below_drew1) | exact HB.out))) Hh1.out Hh2.out).mono ?_); rintro e w9 ⟨rfl, hb⟩; have n0_ := Aside0.mk (below_step (by repeat (first | (with_reducible first | exact HB.out | apply below_alloc | apply pw_below_drewN | apply below_drew1) | exact HB.out)) hb); have n1_ := Aside0.mk (blk_below (by first | exact BK.out | exact blk_drewN BK.out _) hb); clear HB BK; have HB := n0_; have BK := n1_; clear n0_ n1_; clear hb; have hz21 : w9.cell? ⟨gb, 21, none⟩ = some (.int .i64 a21) := (blk_cell BK.out 21).trans rfl))
                            all_goals (go_meet; (case rel => exact ⟨_, rfl, Aside0.mk (by first | (simp [*]; done) | (rw [Bool.eq_iff_iff]; simp; omega) | (simp [*]; intros; exfalso; omega) | (simp_all; done) | (simp_all; intros; exfalso; omega)), (by first | exact BK | exact Aside0.mk (blk_drewN BK.out _)), Aside0.mk (by repeat (first | (with_reducible first | exact HB.out | apply below_alloc | apply pw_below_drewN | apply below_drew1) | exact HB.out))⟩))
                          case rest =>
                            clear HB BK
                            obtain ⟨b5, rfl, hb5, BK, HB⟩ := hcut
                            obtain ⟨wA6, hwA⟩ : ∃ x, x = wc := ⟨_, rfl⟩
                            subst hwA
                            cases b5 with
                            | true =>
                              have e : R = 26 := by rw [HhR.out, ← hb0.out, ← hb1.out, ← hb2.out, ← hb3.out, ← hb4.out, ← hb5.out]; rfl
                              subst e
                              as_aux_lemma =>
                              go_wp2
                              go_ret
                              exact ⟨rfl, by repeat (first | (with_reducible first | exact HB.out | apply below_alloc | apply pw_below_drewN | apply below_drew1) | exact HB.out)⟩
                            | false =>
                              go_upto_region 24 with (fail)
                              try simp only [Act.put, List.setIfInBounds_toArray, List.set_cons_zero, List.set_cons_succ]
                              go_cut [83] (fun v wc => ∃ b : Bool, v = .bool b ∧ Aside0 (b = decide (65535 < (l7.length : Int))) ∧ Aside0 (wc.heap[gb]? = some (.cells #[.int .i64 a0, .int .i64 a1, .bool a2, .int .i64 a3, .string a4, .bool a5, .string a6, .slice A7 l7.length c7, .int .i64 a8, .bool a9, .bool a10, .string a11, .bool a12, .slice A13 l13.length c13, .bool a14, .int .i64 a15, .bool a16, .string a17, .slice A18 l18.length c18, .int .i64 a19, .bool a20, .int .i64 a21, .slice A22 l22.length c22, .slice A23 l23.length c23, .slice A24 l24.length c24] 29 (0, 0))) ∧ Aside0 (Below w.heap.size w wc))
                              case first =>
                                as_aux_lemma =>
                                have hz7 : wA6.cell? ⟨gb, 7, none⟩ = some (.slice A7 l7.length c7) := (blk_cell BK.out 7).trans rfl
                                go_wp2
                                all_goals (go_meet; (case rel => exact ⟨_, rfl, Aside0.mk (by first | (simp [*]; done) | (rw [Bool.eq_iff_iff]; simp; omega) | (simp [*]; intros; exfalso; omega) | (simp_all; done) | (simp_all; intros; exfalso; omega)), (by first | exact BK | exact Aside0.mk (blk_drewN BK.out _)), Aside0.mk (by repeat (first | (with_reducible first | exact HB.out | apply below_alloc | apply pw_below_drewN | apply below_drew1) | exact HB.out))⟩))
                              case rest =>
                                clear HB BK
                                obtain ⟨d6, rfl, hd6, BK, HB⟩ := hcut
                                obtain ⟨wB6, hwA⟩ : ∃ x, x = wc := ⟨_, rfl⟩
                                subst hwA
                                go_upto_if 83 with (fail)
                                go_cut [83] (fun v wc => ∃ b : Bool, v = .bool b ∧ Aside0 (b = (d6 || (decide (65535 < (l13.length : Int)) || decide (268435455 < L)))) ∧ Aside0 (wc.heap[gb]? = some (.cells #[.int .i64 a0, .int .i64 a1, .bool a2, .int .i64 a3, .string a4, .bool a5, .string a6, .slice A7 l7.length c7, .int .i64 a8, .bool a9, .bool a10, .string a11, .bool a12, .slice A13 l13.length c13, .bool a14, .int .i64 a15, .bool a16, .string a17, .slice A18 l18.length c18, .int .i64 a19, .bool a20, .int .i64 a21, .slice A22 l22.length c22, .slice A23 l23.length c23, .slice A24 l24.length c24] 29 (0, 0))) ∧ Aside0 (Below w.heap.size w wc))
                                case first =>
                                  cases d6
                                  · as_aux_lemma =>
                                    have hz7 : wB6.cell? ⟨gb, 7, none⟩ = some (.slice A7 l7.length c7) := (blk_cell BK.out 7).trans rfl
                                    have hz13 : wB6.cell? ⟨gb, 13, none⟩ = some (.slice A13 l13.length c13) := (blk_cell BK.out 13).trans rfl
                                    go_wp2_with (first | ((with_reducible refine gate_dst (N := 93) rfl ?_); refine wpList_load_row rfl 29 (.tmp 1) rfl gb rfl 29 #[.int .i64 a0, .int .i64 a1, .bool a2, .int .i64 a3, .string a4, .bool a5, .string a6, .slice A7 l7.length c7, .int .i64 a8, .bool a9, .bool a10, .string a11, .bool a12, .slice A13 l13.length c13, .bool a14, .int .i64 a15, .bool a16, .string a17, .slice A18 l18.length c18, .int .i64 a19, .bool a20, .int .i64 a21, .slice A22 l22.length c22, .slice A23 l23.length c23, .slice A24 l24.length c24] (0, 0) _ BK.out hu29 rfl (by kernel_rfl) ?_) | (go_at_call 99; (with_reducible refine (length_calls a0 a1 a2 a3 a4 a5 a6 A7 c7 l7 a8 a9 a10 a11 a12 A13 c13 l13 a14 a15 a16 a17 A18 c18 l18 a19 a20 a21 A22 c22 l22 A23 c23 l23 A24 c24 l24 h _ _ _ rfl rfl rfl _ (HhT.out.below (by repeat (first | (with_reducible first | exact HB.out | apply below_alloc | apply pw_below_drewN | apply below_drew1) | exact HB.out))) Hh1.out Hh2.out Hhh.out HhS.out (Kd.C_below Hhr22.out (by repeat (first | (with_reducible first | exact HB.out | apply below_alloc | apply pw_below_drewN | apply below_drew1) | exact HB.out))) Hhc22.out (Kd.C_below Hhr24.out (by repeat (first | (with_reducible first | exact HB.out | apply below_alloc | apply pw_below_drewN | apply below_drew1) | exact HB.out))) Hhc24.out L HhL.out).mono ?_); rintro e w9 ⟨rfl, hb⟩; have n0_ := Aside0.mk (below_step (by repeat (first | (with_reducible first | exact HB.out | apply below_alloc | apply pw_below_drewN | apply below_drew1) | exact HB.out)) hb); have n1_ := Aside0.mk (blk_below (by first | exact BK.out | exact blk_drewN BK.out _) hb); clear HB BK; have HB := n0_; have BK := n1_; clear n0_ n1_; clear hb; have hz7 : w9.cell? ⟨gb, 7, none⟩ = some (.slice A7 l7.length c7) := (blk_cell BK.out 7).trans rfl; have hz13 : w9.cell? ⟨gb, 13, none⟩ = some (.slice A13 l13.length c13) := (blk_cell BK.out 13).trans rfl))
                                    all_goals (go_meet; (case rel => exact ⟨_, rfl, Aside0.mk (by first | (simp [*]; done) | (rw [Bool.eq_iff_iff]; simp; omega) | (simp [*]; intros; exfalso; omega) | (simp_all; done) | (simp_all; intros; exfalso; omega)), (by first | exact BK | exact Aside0.mk (blk_drewN BK.out _)), Aside0.mk (by repeat (first | (with_reducible first | exact HB.out | apply below_alloc | apply pw_below_drewN | apply below_drew1) | exact HB.out))⟩))
                                  · as_aux_lemma =>
                                    go_wp2
                                    all_goals (go_meet; (case rel => exact ⟨_, rfl, Aside0.mk (by first | (simp [*]; done) | (rw [Bool.eq_iff_iff]; simp; omega) | (simp [*]; intros; exfalso; omega) | (simp_all; done) | (simp_all; intros; exfalso; omega)), (by first | exact BK | exact Aside0.mk (blk_drewN BK.out _)), Aside0.mk (by repeat (first | (with_reducible first | exact HB.out | apply below_alloc | apply pw_below_drewN | apply below_drew1) | exact HB.out))⟩))
                                case rest =>
                                  clear HB BK
                                  obtain ⟨b6, rfl, hb6, BK, HB⟩ := hcut
                                  replace hb6 := Aside0.mk (show b6 = (decide (65535 < (l7.length : Int)) || (decide (65535 < (l13.length : Int)) || decide (268435455 < L))) by first | (rw [hb6.out, hd6.out]; done) | (rw [hb6.out, hd6.out]; simp only [Bool.or_assoc]))
                                  clear hd6
                                  obtain ⟨wA7, hwA⟩ : ∃ x, x = wc := ⟨_, rfl⟩
                                  subst hwA
                                  cases b6 with
                                  | true =>
                                    have e : R = 27 := by rw [HhR.out, ← hb0.out, ← hb1.out, ← hb2.out, ← hb3.out, ← hb4.out, ← hb5.out, ← hb6.out]; rfl
                                    subst e
                                    as_aux_lemma =>
                                    go_wp2
                                    go_ret
                                    exact ⟨rfl, by repeat (first | (with_reducible first | exact HB.out | apply below_alloc | apply pw_below_drewN | apply below_drew1) | exact HB.out)⟩
                                  | false =>
                                    go_upto_region 28 with (fail)
                                    try simp only [Act.put, List.setIfInBounds_toArray, List.set_cons_zero, List.set_cons_succ]
                                    go_cut [96] (fun v wc => ∃ b : Bool, v = .bool b ∧ Aside0 (b = (decide (0 < bits BinOp.and IntKind.i64 h 16) && ((l22.length : Int) == 0))) ∧ Aside0 (wc.heap[gb]? = some (.cells #[.int .i64 a0, .int .i64 a1, .bool a2, .int .i64 a3, .string a4, .bool a5, .string a6, .slice A7 l7.length c7, .int .i64 a8, .bool a9, .bool a10, .string a11, .bool a12, .slice A13 l13.length c13, .bool a14, .int .i64 a15, .bool a16, .string a17, .slice A18 l18.length c18, .int .i64 a19, .bool a20, .int .i64 a21, .slice A22 l22.length c22, .slice A23 l23.length c23, .slice A24 l24.length c24] 29 (0, 0))) ∧ Aside0 (Below w.heap.size w wc))
                                    case first =>
                                      as_aux_lemma =>
                                      have hz22 : wA7.cell? ⟨gb, 22, none⟩ = some (.slice A22 l22.length c22) := (blk_cell BK.out 22).trans rfl
                                      go_wp2
                                      all_goals (go_meet; (case rel => exact ⟨_, rfl, Aside0.mk (by first | (simp [*]; done) | (rw [Bool.eq_iff_iff]; simp; omega) | (simp [*]; intros; exfalso; omega) | (simp_all; done) | (simp_all; intros; exfalso; omega)), (by first | exact BK | exact Aside0.mk (blk_drewN BK.out _)), Aside0.mk (by repeat (first | (with_reducible first | exact HB.out | apply below_alloc | apply pw_below_drewN | apply below_drew1) | exact HB.out))⟩))
                                    case rest =>
                                      clear HB BK
                                      obtain ⟨d7, rfl, hd7, BK, HB⟩ := hcut
                                      obtain ⟨wB7, hwA⟩ : ∃ x, x = wc := ⟨_, rfl⟩
                                      subst hwA
                                      go_upto_if 96 with (fail)
                                      go_cut [96] (fun v wc => ∃ b : Bool, v = .bool b ∧ Aside0 (b = (d7 || ((decide (0 < bits BinOp.and IntKind.i64 h 32) && ((l23.length : Int) == 0)) || (decide (0 < bits BinOp.and IntKind.i64 h 64) && ((l24.length : Int) == 0))))) ∧ Aside0 (wc.heap[gb]? = some (.cells #[.int .i64 a0, .int .i64 a1, .bool a2, .int .i64 a3, .string a4, .bool a5, .string a6, .slice A7 l7.length c7, .int .i64 a8, .bool a9, .bool a10, .string a11, .bool a12, .slice A13 l13.length c13, .bool a14, .int .i64 a15, .bool a16, .string a17, .slice A18 l18.length c18, .int .i64 a19, .bool a20, .int .i64 a21, .slice A22 l22.length c22, .slice A23 l23.length c23, .slice A24 l24.length c24] 29 (0, 0))) ∧ Aside0 (Below w.heap.size w wc))
                                      case first =>
                                        cases d7
                                        · as_aux_lemma =>
                                          have hz22 : wB7.cell? ⟨gb, 22, none⟩ = some (.slice A22 l22.length c22) := (blk_cell BK.out 22).trans rfl
                                          have hz23 : wB7.cell? ⟨gb, 23, none⟩ = some (.slice A23 l23.length c23) := (blk_cell BK.out 23).trans rfl
                                          have hz24 : wB7.cell? ⟨gb, 24, none⟩ = some (.slice A24 l24.length c24) := (blk_cell BK.out 24).trans rfl
                                          go_wp2
                                          all_goals (go_meet; (case rel => exact ⟨_, rfl, Aside0.mk (by first | (simp [*]; done) | (rw [Bool.eq_iff_iff]; simp; omega) | (simp [*]; intros; exfalso; omega) | (simp_all; done) | (simp_all; intros; exfalso; omega)), (by first | exact BK | exact Aside0.mk (blk_drewN BK.out _)), Aside0.mk (by repeat (first | (with_reducible first | exact HB.out | apply below_alloc | apply pw_below_drewN | apply below_drew1) | exact HB.out))⟩))
                                        · as_aux_lemma =>
                                          go_wp2
                                          all_goals (go_meet; (case rel => exact ⟨_, rfl, Aside0.mk (by first | (simp [*]; done) | (rw [Bool.eq_iff_iff]; simp; omega) | (simp [*]; intros; exfalso; omega) | (simp_all; done) | (simp_all; intros; exfalso; omega)), (by first | exact BK | exact Aside0.mk (blk_drewN BK.out _)), Aside0.mk (by repeat (first | (with_reducible first | exact HB.out | apply below_alloc | apply pw_below_drewN | apply below_drew1) | exact HB.out))⟩))
                                      case rest =>
                                        clear HB BK
                                        obtain ⟨b7, rfl, hb7, BK, HB⟩ := hcut
                                        replace hb7 := Aside0.mk (show b7 = ((decide (0 < bits BinOp.and IntKind.i64 h 16) && ((l22.length : Int) == 0)) || ((decide (0 < bits BinOp.and IntKind.i64 h 32) && ((l23.length : Int) == 0)) || (decide (0 < bits BinOp.and IntKind.i64 h 64) && ((l24.length : Int) == 0)))) by first | (rw [hb7.out, hd7.out]; done) | (rw [hb7.out, hd7.out]; simp only [Bool.or_assoc]))
                                        clear hd7
                                        obtain ⟨wA8, hwA⟩ : ∃ x, x = wc := ⟨_, rfl⟩
                                        subst hwA
                                        cases b7 with
                                        | true =>
                                          have e : R = 28 := by rw [HhR.out, ← hb0.out, ← hb1.out, ← hb2.out, ← hb3.out, ← hb4.out, ← hb5.out, ← hb6.out, ← hb7.out]; rfl
                                          subst e
                                          as_aux_lemma =>
                                          go_wp2
                                          go_ret
                                          exact ⟨rfl, by repeat (first | (with_reducible first | exact HB.out | apply below_alloc | apply pw_below_drewN | apply below_drew1) | exact HB.out)⟩
                                        | false =>
                                          go_upto_region 32 with (fail)
                                          try simp only [Act.put, List.setIfInBounds_toArray, List.set_cons_zero, List.set_cons_succ]
                                          go_cut [124] (fun v wc => ∃ b : Bool, v = .bool b ∧ Aside0 (b = (a12 && !a10)) ∧ Aside0 (wc.heap[gb]? = some (.cells #[.int .i64 a0, .int .i64 a1, .bool a2, .int .i64 a3, .string a4, .bool a5, .string a6, .slice A7 l7.length c7, .int .i64 a8, .bool a9, .bool a10, .string a11, .bool a12, .slice A13 l13.length c13, .bool a14, .int .i64 a15, .bool a16, .string a17, .slice A18 l18.length c18, .int .i64 a19, .bool a20, .int .i64 a21, .slice A22 l22.length c22, .slice A23 l23.length c23, .slice A24 l24.length c24] 29 (0, 0))) ∧ Aside0 (Below w.heap.size w wc))
                                          case first =>
                                            as_aux_lemma =>
                                            have hz12 : wA8.cell? ⟨gb, 12, none⟩ = some (.bool a12) := (blk_cell BK.out 12).trans rfl
                                            have hz10 : wA8.cell? ⟨gb, 10, none⟩ = some (.bool a10) := (blk_cell BK.out 10).trans rfl
                                            go_wp2
                                            all_goals (go_meet; (case rel => exact ⟨_, rfl, Aside0.mk (by first | (simp [*]; done) | (rw [Bool.eq_iff_iff]; simp; omega) | (simp [*]; intros; exfalso; omega) | (simp_all; done) | (simp_all; intros; exfalso; omega)), (by first | exact BK | exact Aside0.mk (blk_drewN BK.out _)), Aside0.mk (by repeat (first | (with_reducible first | exact HB.out | apply below_alloc | apply pw_below_drewN | apply below_drew1) | exact HB.out))⟩))
                                          case rest =>
                                            clear HB BK
                                            obtain ⟨d8, rfl, hd8, BK, HB⟩ := hcut
                                            obtain ⟨wB8, hwA⟩ : ∃ x, x = wc := ⟨_, rfl⟩
                                            subst hwA
                                            go_upto_if 124 with (fail)
                                            go_cut [124] (fun v wc => ∃ b : Bool, v = .bool b ∧ Aside0 (b = (d8 || ((a16 && (a19 == 0)) || (a14 && (a15 != 0))))) ∧ Aside0 (wc.heap[gb]? = some (.cells #[.int .i64 a0, .int .i64 a1, .bool a2, .int .i64 a3, .string a4, .bool a5, .string a6, .slice A7 l7.length c7, .int .i64 a8, .bool a9, .bool a10, .string a11, .bool a12, .slice A13 l13.length c13, .bool a14, .int .i64 a15, .bool a16, .string a17, .slice A18 l18.length c18, .int .i64 a19, .bool a20, .int .i64 a21, .slice A22 l22.length c22, .slice A23 l23.length c23, .slice A24 l24.length c24] 29 (0, 0))) ∧ Aside0 (Below w.heap.size w wc))
                                            case first =>
                                              cases d8
                                              · as_aux_lemma =>
                                                have hz12 : wB8.cell? ⟨gb, 12, none⟩ = some (.bool a12) := (blk_cell BK.out 12).trans rfl
                                                have hz10 : wB8.cell? ⟨gb, 10, none⟩ = some (.bool a10) := (blk_cell BK.out 10).trans rfl
                                                have hz16 : wB8.cell? ⟨gb, 16, none⟩ = some (.bool a16) := (blk_cell BK.out 16).trans rfl
                                                have hz19 : wB8.cell? ⟨gb, 19, none⟩ = some (.int .i64 a19) := (blk_cell BK.out 19).trans rfl
                                                have hz14 : wB8.cell? ⟨gb, 14, none⟩ = some (.bool a14) := (blk_cell BK.out 14).trans rfl
                                                have hz15 : wB8.cell? ⟨gb, 15, none⟩ = some (.int .i64 a15) := (blk_cell BK.out 15).trans rfl
                                                go_wp2
                                                all_goals (go_meet; (case rel => exact ⟨_, rfl, Aside0.mk (by first | (simp [*]; done) | (rw [Bool.eq_iff_iff]; simp; omega) | (simp [*]; intros; exfalso; omega) | (simp_all; done) | (simp_all; intros; exfalso; omega)), (by first | exact BK | exact Aside0.mk (blk_drewN BK.out _)), Aside0.mk (by repeat (first | (with_reducible first | exact HB.out | apply below_alloc | apply pw_below_drewN | apply below_drew1) | exact HB.out))⟩))
                                              · as_aux_lemma =>
                                                go_wp2
                                                all_goals (go_meet; (case rel => exact ⟨_, rfl, Aside0.mk (by first | (simp [*]; done) | (rw [Bool.eq_iff_iff]; simp; omega) | (simp [*]; intros; exfalso; omega) | (simp_all; done) | (simp_all; intros; exfalso; omega)), (by first | exact BK | exact Aside0.mk (blk_drewN BK.out _)), Aside0.mk (by repeat (first | (with_reducible first | exact HB.out | apply below_alloc | apply pw_below_drewN | apply below_drew1) | exact HB.out))⟩))
                                            case rest =>
                                              clear HB BK
                                              obtain ⟨b8, rfl, hb8, BK, HB⟩ := hcut
                                              replace hb8 := Aside0.mk (show b8 = ((a12 && !a10) || ((a16 && (a19 == 0)) || (a14 && (a15 != 0)))) by first | (rw [hb8.out, hd8.out]; done) | (rw [hb8.out, hd8.out]; simp only [Bool.or_assoc]))
                                              clear hd8
                                              obtain ⟨wA9, hwA⟩ : ∃ x, x = wc := ⟨_, rfl⟩
                                              subst hwA
                                              cases b8 with
                                              | true =>
                                                have e : R = 29 := by rw [HhR.out, ← hb0.out, ← hb1.out, ← hb2.out, ← hb3.out, ← hb4.out, ← hb5.out, ← hb6.out, ← hb7.out, ← hb8.out]; rfl
                                                subst e
                                                as_aux_lemma =>
                                                go_wp2
                                                go_ret
                                                exact ⟨rfl, by repeat (first | (with_reducible first | exact HB.out | apply below_alloc | apply pw_below_drewN | apply below_drew1) | exact HB.out)⟩
                                              | false =>
                                                have e : R = 0 := by rw [HhR.out, ← hb0.out, ← hb1.out, ← hb2.out, ← hb3.out, ← hb4.out, ← hb5.out, ← hb6.out, ← hb7.out, ← hb8.out]; rfl
                                                subst e
                                                go_wp2
                                                go_ret
                                                exact ⟨rfl, by repeat (first | (with_reducible first | exact HB.out | apply below_alloc | apply pw_below_drewN | apply below_drew1) | exact HB.out)⟩
end Go.Proofs.YtndhkgfeknkfdaaGreatDoor.Pk
