/- crierref2.foreign: whether a field is set that the packet's kind hasn't. -/
import Derived.Test.YtndhkgfeknkfdaaGreatDoorMPacketChecksx5
import Derived.Test.YtndhkgfeknkfdaaGreatDoorPkt
namespace Go.Proofs.YtndhkgfeknkfdaaGreatDoor.Pk
open Go.RowKit Go.Proofs.YtndhkgfeknkfdaaGreatDoor.Giv Go.Proofs.YtndhkgfeknkfdaaGreatDoorW.PrintWords Go.Proofs.YtndhkgfeknkfdaaGreatDoorW.PrintLast Go.Proofs.YtndhkgfeknkfdaaGreatDoorW.PrintMore Go.Proofs.YtndhkgfeknkfdaaGreatDoor.MPacketChecks
set_option linter.unusedVariables false
set_option linter.unusedSimpArgs false
set_option maxHeartbeats 8000000
set_option maxRecDepth 100000
theorem rforeign_calls (a0 : Int) (a1 : Int) (a2 : Bool) (a3 : Int) (a4 : ByteArray) (a5 : Bool) (a6 : ByteArray) (A7 : Option Addr) (c7 : Nat) (l7 : List Int) (a8 : Int) (a9 : Bool) (a10 : Bool) (a11 : ByteArray) (a12 : Bool) (A13 : Option Addr) (c13 : Nat) (l13 : List Int) (a14 : Bool) (a15 : Int) (a16 : Bool) (a17 : ByteArray) (A18 : Option Addr) (c18 : Nat) (l18 : List Int) (a19 : Int) (a20 : Bool) (a21 : Int) (A22 : Option Addr) (c22 : Nat) (l22 : List S82) (A23 : Option Addr) (c23 : Nat) (l23 : List Int) (A24 : Option Addr) (c24 : Nat) (l24 : List ByteArray) (nb z1 z2 R : Bool) (w : World) (hr : Rd w A7 c7 l7 A13 c13 l13 A18 c18 l18 A22 c22 l22 A23 c23 l23 A24 c24 l24)
    (h1 : crierref2_zeroMessage.f a6 l7 a8 a9 = some z1) (h2 : crierref2_zeroMessage.f a17 l18 a19 a20 = some z2) (h3 : crierref2_numbered.f a0 a1 a2 a3 a4 a5 a6 l7 a8 a9 a10 a11 a12 l13 a14 a15 a16 a17 l18 a19 a20 a21 l22 l23 l24 = some nb)
    (hR : R = ((!(a0 == 1) && ((a1 != 0) || (a2 || ((a3 != 0) || ((a4.toList != ([] : List UInt8)) || (a5 || (a10 || a12))))))) || ((!((a0 == 1) && a5) && !z1) || ((!((a0 == 1) && a10) && (a11.toList != ([] : List UInt8))) || (!((a0 == 1) && a12) && decide (0 < (l13.length : Int))))) || (!(a0 == 2) && (a14 || (a15 != 0))) || (!(a0 == 3) && (a16 || !z2)) || ((!nb && (a21 != 0)) || ((!(a0 == 8) && decide (0 < (l22.length : Int))) || ((!(a0 == 9) && decide (0 < (l23.length : Int))) || (!(a0 == 10) && decide (0 < (l24.length : Int)))))))) :
    Calls Tryz.prog 100 #[.agg #[.int .i64 a0, .int .i64 a1, .bool a2, .int .i64 a3, .string a4, .bool a5, .string a6, .slice A7 l7.length c7, .int .i64 a8, .bool a9, .bool a10, .string a11, .bool a12, .slice A13 l13.length c13, .bool a14, .int .i64 a15, .bool a16, .string a17, .slice A18 l18.length c18, .int .i64 a19, .bool a20, .int .i64 a21, .slice A22 l22.length c22, .slice A23 l23.length c23, .slice A24 l24.length c24]] w fun e w' => e = .returned (.bool R) ∧ Below w.heap.size w w' := by
  have hu29 := Tryz.underlying29
  have hu24 := Tryz.underlying24
  have HRD := Aside0.mk hr; have HZ1 := Aside0.mk h1; have HZ2 := Aside0.mk h2; have HNB := Aside0.mk h3; have HR := Aside0.mk hR
  clear hr h1 h2 h3 hR
  have HB := Aside0.mk (Below.refl w.heap.size w)
  go_enter Tryz.func100, Tryz.ntmps100
  go_upto_region 2 with (first | ((with_reducible refine gate_dst (N := 1) rfl ?_); refine box_event ?hg (N := 1) ?hd (cs := #[.int .i64 a0, .int .i64 a1, .bool a2, .int .i64 a3, .string a4, .bool a5, .string a6, .slice A7 l7.length c7, .int .i64 a8, .bool a9, .bool a10, .string a11, .bool a12, .slice A13 l13.length c13, .bool a14, .int .i64 a15, .bool a16, .string a17, .slice A18 l18.length c18, .int .i64 a19, .bool a20, .int .i64 a21, .slice A22 l22.length c22, .slice A23 l23.length c23, .slice A24 l24.length c24]) (t := 29) ?hr ?_; (case hd => rfl); (case hg => rfl); (case hr => first | (go_simp; done) | (go_simp; rfl)); intro gb hg w3 hbox hb; have n0_ := Aside0.mk (below_step HB.out hb); clear HB; have HB := n0_; clear n0_; have BK := Aside0.mk hbox; clear hb hbox hg; have hz0 : w3.cell? ⟨gb, 0, none⟩ = some (.int .i64 a0) := (blk_cell BK.out 0).trans rfl))
  (try simp only [Act.put, List.setIfInBounds_toArray, List.set_cons_zero, List.set_cons_succ])
  generalize (Value.agg #[.int .i64 a0, .int .i64 a1, .bool a2, .int .i64 a3, .string a4, .bool a5, .string a6, .slice A7 l7.length c7, .int .i64 a8, .bool a9, .bool a10, .string a11, .bool a12, .slice A13 l13.length c13, .bool a14, .int .i64 a15, .bool a16, .string a17, .slice A18 l18.length c18, .int .i64 a19, .bool a20, .int .i64 a21, .slice A22 l22.length c22, .slice A23 l23.length c23, .slice A24 l24.length c24]) = v0
  clear hz0
  generalize hb3_ : (a0 == 1) = b3
  have HB3 := Aside0.mk hb3_; clear hb3_
  go_cut [39] (fun v wc => ∃ b : Bool, v = .bool b ∧ Aside0 (b = (!b3 && ((a1 != 0) || (a2 || ((a3 != 0) || ((a4.toList != ([] : List UInt8)) || (a5 || (a10 || a12)))))))) ∧ Aside0 (wc.heap[gb]? = some (.cells #[.int .i64 a0, .int .i64 a1, .bool a2, .int .i64 a3, .string a4, .bool a5, .string a6, .slice A7 l7.length c7, .int .i64 a8, .bool a9, .bool a10, .string a11, .bool a12, .slice A13 l13.length c13, .bool a14, .int .i64 a15, .bool a16, .string a17, .slice A18 l18.length c18, .int .i64 a19, .bool a20, .int .i64 a21, .slice A22 l22.length c22, .slice A23 l23.length c23, .slice A24 l24.length c24] 29 (0, 0))) ∧ Aside0 (Below w.heap.size w wc))
  case first =>
    as_aux_lemma =>
      cases b3
      all_goals (
        have hz1 : w3.cell? ⟨gb, 1, none⟩ = some (.int .i64 a1) := (blk_cell BK.out 1).trans rfl
        have hz2 : w3.cell? ⟨gb, 2, none⟩ = some (.bool a2) := (blk_cell BK.out 2).trans rfl
        have hz3 : w3.cell? ⟨gb, 3, none⟩ = some (.int .i64 a3) := (blk_cell BK.out 3).trans rfl
        have hz4 : w3.cell? ⟨gb, 4, none⟩ = some (.string a4) := (blk_cell BK.out 4).trans rfl
        have hz5 : w3.cell? ⟨gb, 5, none⟩ = some (.bool a5) := (blk_cell BK.out 5).trans rfl
        have hz10 : w3.cell? ⟨gb, 10, none⟩ = some (.bool a10) := (blk_cell BK.out 10).trans rfl
        have hz12 : w3.cell? ⟨gb, 12, none⟩ = some (.bool a12) := (blk_cell BK.out 12).trans rfl
        go_wp2)
      all_goals (go_meet; (case rel => exact ⟨_, rfl, Aside0.mk (by first | rfl | (simp [*]; done) | (simp [bne, *]; done) | (generalize a11.toList = z_ at *; cases z_ <;> simp_all; done) | (simp_all; done)), BK, Aside0.mk (by repeat (first | exact HB.out | (with_reducible first | apply below_alloc | apply pw_below_drewN | apply below_drew1)))⟩))
  case rest =>
    clear HB BK
    obtain ⟨b, rfl, hb0, BK, HB⟩ := hcut
    obtain ⟨wA1, hwA⟩ : ∃ x, x = wc := ⟨_, rfl⟩
    subst hwA
    cases b with
    | true =>
      have e : R = true := by rw [HR.out, HB3.out, ← hb0.out]; simp
      subst e
      as_aux_lemma =>
        go_wp2
        go_ret
        exact ⟨rfl, HB.out⟩
    | false =>
      go_upto_region 4 with (fail)
      (try simp only [Act.put, List.setIfInBounds_toArray, List.set_cons_zero, List.set_cons_succ])
      go_cut [78] (fun v wc => ∃ b : Bool, v = .bool b ∧ Aside0 (b = ((!(b3 && a5) && !z1) || ((!(b3 && a10) && (a11.toList != ([] : List UInt8))) || (!(b3 && a12) && decide (0 < (l13.length : Int)))))) ∧ Aside0 (wc.heap[gb]? = some (.cells #[.int .i64 a0, .int .i64 a1, .bool a2, .int .i64 a3, .string a4, .bool a5, .string a6, .slice A7 l7.length c7, .int .i64 a8, .bool a9, .bool a10, .string a11, .bool a12, .slice A13 l13.length c13, .bool a14, .int .i64 a15, .bool a16, .string a17, .slice A18 l18.length c18, .int .i64 a19, .bool a20, .int .i64 a21, .slice A22 l22.length c22, .slice A23 l23.length c23, .slice A24 l24.length c24] 29 (0, 0))) ∧ Aside0 (Below w.heap.size w wc))
      case first =>
        as_aux_lemma =>
          cases b3
          all_goals (
            have hz5 : wA1.cell? ⟨gb, 5, none⟩ = some (.bool a5) := (blk_cell BK.out 5).trans rfl
            have hz6 : wA1.cell? ⟨gb, 6, none⟩ = some (.string a6) := (blk_cell BK.out 6).trans rfl
            have hz7 : wA1.cell? ⟨gb, 7, none⟩ = some (.slice A7 l7.length c7) := (blk_cell BK.out 7).trans rfl
            have hz8 : wA1.cell? ⟨gb, 8, none⟩ = some (.int .i64 a8) := (blk_cell BK.out 8).trans rfl
            have hz9 : wA1.cell? ⟨gb, 9, none⟩ = some (.bool a9) := (blk_cell BK.out 9).trans rfl
            have hz10 : wA1.cell? ⟨gb, 10, none⟩ = some (.bool a10) := (blk_cell BK.out 10).trans rfl
            have hz11 : wA1.cell? ⟨gb, 11, none⟩ = some (.string a11) := (blk_cell BK.out 11).trans rfl
            have hz12 : wA1.cell? ⟨gb, 12, none⟩ = some (.bool a12) := (blk_cell BK.out 12).trans rfl
            have hz13 : wA1.cell? ⟨gb, 13, none⟩ = some (.slice A13 l13.length c13) := (blk_cell BK.out 13).trans rfl
            go_wp2_with (first | (go_at_call 152; (refine (crierref2_zeroMessage.calls a6 A7 c7 l7 a8 a9 z1 _ ?s1 HRD.out.k7 HZ1.out).mono ?_); (case s1 => exact Kd.C_below HRD.out.r7 (by repeat (first | exact HB.out | (with_reducible first | apply below_alloc | apply pw_below_drewN | apply below_drew1)))); rintro e w9 ⟨rfl, hb⟩; have n0_ := Aside0.mk (below_step (by repeat (first | exact HB.out | (with_reducible first | apply below_alloc | apply pw_below_drewN | apply below_drew1))) hb); have n1_ := Aside0.mk (blk_below BK.out hb); clear HB BK; have HB := n0_; have BK := n1_; clear n0_ n1_; clear hb; have hy10 : w9.cell? ⟨gb, 10, none⟩ = some (.bool a10) := (blk_cell BK.out 10).trans rfl; have hy11 : w9.cell? ⟨gb, 11, none⟩ = some (.string a11) := (blk_cell BK.out 11).trans rfl; have hy12 : w9.cell? ⟨gb, 12, none⟩ = some (.bool a12) := (blk_cell BK.out 12).trans rfl; have hy13 : w9.cell? ⟨gb, 13, none⟩ = some (.slice A13 l13.length c13) := (blk_cell BK.out 13).trans rfl)))
          all_goals (go_meet; (case rel => exact ⟨_, rfl, Aside0.mk (by first | rfl | (simp [*]; done) | (simp [bne, *]; done) | (generalize a11.toList = z_ at *; cases z_ <;> simp_all; done) | (simp_all; done)), BK, Aside0.mk (by repeat (first | exact HB.out | (with_reducible first | apply below_alloc | apply pw_below_drewN | apply below_drew1)))⟩))
      case rest =>
        clear HB BK
        obtain ⟨b, rfl, hb1, BK, HB⟩ := hcut
        obtain ⟨wA2, hwA⟩ : ∃ x, x = wc := ⟨_, rfl⟩
        subst hwA
        cases b with
        | true =>
          have e : R = true := by rw [HR.out, HB3.out, ← hb0.out, ← hb1.out]; simp
          subst e
          as_aux_lemma =>
            go_wp2
            go_ret
            exact ⟨rfl, HB.out⟩
        | false =>
          go_upto_region 6 with (fail)
          (try simp only [Act.put, List.setIfInBounds_toArray, List.set_cons_zero, List.set_cons_succ])
          go_cut [90] (fun v wc => ∃ b : Bool, v = .bool b ∧ Aside0 (b = (!(a0 == 2) && (a14 || (a15 != 0)))) ∧ Aside0 (wc.heap[gb]? = some (.cells #[.int .i64 a0, .int .i64 a1, .bool a2, .int .i64 a3, .string a4, .bool a5, .string a6, .slice A7 l7.length c7, .int .i64 a8, .bool a9, .bool a10, .string a11, .bool a12, .slice A13 l13.length c13, .bool a14, .int .i64 a15, .bool a16, .string a17, .slice A18 l18.length c18, .int .i64 a19, .bool a20, .int .i64 a21, .slice A22 l22.length c22, .slice A23 l23.length c23, .slice A24 l24.length c24] 29 (0, 0))) ∧ Aside0 (Below w.heap.size w wc))
          case first =>
            as_aux_lemma =>
              all_goals (by_cases k_ : a0 = 2; all_goals (first | subst k_ | (have q_ : (a0 != 2) = true := bne_iff_ne.2 k_; clear k_)))
              all_goals (
                have hz0 : wA2.cell? ⟨gb, 0, none⟩ = _ := (blk_cell BK.out 0).trans rfl
                have hz14 : wA2.cell? ⟨gb, 14, none⟩ = some (.bool a14) := (blk_cell BK.out 14).trans rfl
                have hz15 : wA2.cell? ⟨gb, 15, none⟩ = some (.int .i64 a15) := (blk_cell BK.out 15).trans rfl
                go_wp2)
              all_goals (go_meet; (case rel => exact ⟨_, rfl, Aside0.mk (by first | rfl | (simp [*]; done) | (simp [bne, *]; done) | (generalize a11.toList = z_ at *; cases z_ <;> simp_all; done) | (simp_all; done)), BK, Aside0.mk (by repeat (first | exact HB.out | (with_reducible first | apply below_alloc | apply pw_below_drewN | apply below_drew1)))⟩))
          case rest =>
            clear HB BK
            obtain ⟨b, rfl, hb2, BK, HB⟩ := hcut
            obtain ⟨wA3, hwA⟩ : ∃ x, x = wc := ⟨_, rfl⟩
            subst hwA
            cases b with
            | true =>
              have e : R = true := by rw [HR.out, HB3.out, ← hb0.out, ← hb1.out, ← hb2.out]; simp
              subst e
              as_aux_lemma =>
                go_wp2
                go_ret
                exact ⟨rfl, HB.out⟩
            | false =>
              go_upto_region 8 with (fail)
              (try simp only [Act.put, List.setIfInBounds_toArray, List.set_cons_zero, List.set_cons_succ])
              go_cut [103] (fun v wc => ∃ b : Bool, v = .bool b ∧ Aside0 (b = (!(a0 == 3) && (a16 || !z2))) ∧ Aside0 (wc.heap[gb]? = some (.cells #[.int .i64 a0, .int .i64 a1, .bool a2, .int .i64 a3, .string a4, .bool a5, .string a6, .slice A7 l7.length c7, .int .i64 a8, .bool a9, .bool a10, .string a11, .bool a12, .slice A13 l13.length c13, .bool a14, .int .i64 a15, .bool a16, .string a17, .slice A18 l18.length c18, .int .i64 a19, .bool a20, .int .i64 a21, .slice A22 l22.length c22, .slice A23 l23.length c23, .slice A24 l24.length c24] 29 (0, 0))) ∧ Aside0 (Below w.heap.size w wc))
              case first =>
                as_aux_lemma =>
                  all_goals (by_cases k_ : a0 = 3; all_goals (first | subst k_ | (have q_ : (a0 != 3) = true := bne_iff_ne.2 k_; clear k_)))
                  all_goals (
                    have hz0 : wA3.cell? ⟨gb, 0, none⟩ = _ := (blk_cell BK.out 0).trans rfl
                    have hz16 : wA3.cell? ⟨gb, 16, none⟩ = some (.bool a16) := (blk_cell BK.out 16).trans rfl
                    have hz17 : wA3.cell? ⟨gb, 17, none⟩ = some (.string a17) := (blk_cell BK.out 17).trans rfl
                    have hz18 : wA3.cell? ⟨gb, 18, none⟩ = some (.slice A18 l18.length c18) := (blk_cell BK.out 18).trans rfl
                    have hz19 : wA3.cell? ⟨gb, 19, none⟩ = some (.int .i64 a19) := (blk_cell BK.out 19).trans rfl
                    have hz20 : wA3.cell? ⟨gb, 20, none⟩ = some (.bool a20) := (blk_cell BK.out 20).trans rfl
                    go_wp2_with (first | (go_at_call 152; (refine (crierref2_zeroMessage.calls a17 A18 c18 l18 a19 a20 z2 _ ?s1 HRD.out.k18 HZ2.out).mono ?_); (case s1 => exact Kd.C_below HRD.out.r18 (by repeat (first | exact HB.out | (with_reducible first | apply below_alloc | apply pw_below_drewN | apply below_drew1)))); rintro e w9 ⟨rfl, hb⟩; have n0_ := Aside0.mk (below_step (by repeat (first | exact HB.out | (with_reducible first | apply below_alloc | apply pw_below_drewN | apply below_drew1))) hb); have n1_ := Aside0.mk (blk_below BK.out hb); clear HB BK; have HB := n0_; have BK := n1_; clear n0_ n1_; clear hb; skip)))
                  all_goals (go_meet; (case rel => exact ⟨_, rfl, Aside0.mk (by first | rfl | (simp [*]; done) | (simp [bne, *]; done) | (generalize a11.toList = z_ at *; cases z_ <;> simp_all; done) | (simp_all; done)), BK, Aside0.mk (by repeat (first | exact HB.out | (with_reducible first | apply below_alloc | apply pw_below_drewN | apply below_drew1)))⟩))
              case rest =>
                clear HB BK
                obtain ⟨b, rfl, hb3, BK, HB⟩ := hcut
                obtain ⟨wA4, hwA⟩ : ∃ x, x = wc := ⟨_, rfl⟩
                subst hwA
                cases b with
                | true =>
                  have e : R = true := by rw [HR.out, HB3.out, ← hb0.out, ← hb1.out, ← hb2.out, ← hb3.out]; simp
                  subst e
                  as_aux_lemma =>
                    go_wp2
                    go_ret
                    exact ⟨rfl, HB.out⟩
                | false =>
                  go_upto_region 10 with (fail)
                  (try simp only [Act.put, List.setIfInBounds_toArray, List.set_cons_zero, List.set_cons_succ])
                  go_cut [2] (fun v wc => ∃ b : Bool, v = .bool b ∧ Aside0 (b = ((!nb && (a21 != 0)) || ((!(a0 == 8) && decide (0 < (l22.length : Int))) || ((!(a0 == 9) && decide (0 < (l23.length : Int))) || (!(a0 == 10) && decide (0 < (l24.length : Int))))))) ∧ Aside0 (wc.heap[gb]? = some (.cells #[.int .i64 a0, .int .i64 a1, .bool a2, .int .i64 a3, .string a4, .bool a5, .string a6, .slice A7 l7.length c7, .int .i64 a8, .bool a9, .bool a10, .string a11, .bool a12, .slice A13 l13.length c13, .bool a14, .int .i64 a15, .bool a16, .string a17, .slice A18 l18.length c18, .int .i64 a19, .bool a20, .int .i64 a21, .slice A22 l22.length c22, .slice A23 l23.length c23, .slice A24 l24.length c24] 29 (0, 0))) ∧ Aside0 (Below w.heap.size w wc))
                  case first =>
                    as_aux_lemma =>
                      have ma21_ : Aside0 True := ⟨trivial⟩; have mk8_ : Aside0 True := ⟨trivial⟩; have mk9_ : Aside0 True := ⟨trivial⟩; have mk10_ : Aside0 True := ⟨trivial⟩; have ml22_ : Aside0 True := ⟨trivial⟩; have ml23_ : Aside0 True := ⟨trivial⟩; have ml24_ : Aside0 True := ⟨trivial⟩
                      all_goals (
                        go_wp2_with (first | ((with_reducible refine gate_dst (N := 104) rfl ?_); refine wpList_load_row rfl 29 (.tmp 1) rfl gb rfl 29 #[_, .int .i64 a1, .bool a2, .int .i64 a3, .string a4, .bool a5, .string a6, .slice A7 l7.length c7, .int .i64 a8, .bool a9, .bool a10, .string a11, .bool a12, .slice A13 l13.length c13, .bool a14, .int .i64 a15, .bool a16, .string a17, .slice A18 l18.length c18, .int .i64 a19, .bool a20, .int .i64 a21, .slice A22 l22.length c22, .slice A23 l23.length c23, .slice A24 l24.length c24] (0, 0) _ BK.out hu29 rfl (by kernel_rfl) ?_) | (go_at_call 106; (refine (crierref2_numbered.calls _ a1 a2 a3 a4 a5 a6 A7 c7 l7 a8 a9 a10 a11 a12 A13 c13 l13 a14 a15 a16 a17 A18 c18 l18 a19 a20 a21 A22 c22 l22 A23 c23 l23 A24 c24 l24 nb _ ?s1 HRD.out.k7 ?s2 HRD.out.k13 ?s3 HRD.out.k18 ?s4 HRD.out.k22 ?s5 HRD.out.k23 ?s6 HRD.out.k24 HNB.out).mono ?_); (case s1 => exact Kd.C_below HRD.out.r7 (by repeat (first | exact HB.out | (with_reducible first | apply below_alloc | apply pw_below_drewN | apply below_drew1)))); (case s2 => exact Kd.C_below HRD.out.r13 (by repeat (first | exact HB.out | (with_reducible first | apply below_alloc | apply pw_below_drewN | apply below_drew1)))); (case s3 => exact Kd.C_below HRD.out.r18 (by repeat (first | exact HB.out | (with_reducible first | apply below_alloc | apply pw_below_drewN | apply below_drew1)))); (case s4 => exact Kd.C_below HRD.out.r22 (by repeat (first | exact HB.out | (with_reducible first | apply below_alloc | apply pw_below_drewN | apply below_drew1)))); (case s5 => exact Kd.C_below HRD.out.r23 (by repeat (first | exact HB.out | (with_reducible first | apply below_alloc | apply pw_below_drewN | apply below_drew1)))); (case s6 => exact Kd.C_below HRD.out.r24 (by repeat (first | exact HB.out | (with_reducible first | apply below_alloc | apply pw_below_drewN | apply below_drew1)))); rintro e w9 ⟨rfl, hb⟩; have n0_ := Aside0.mk (below_step (by repeat (first | exact HB.out | (with_reducible first | apply below_alloc | apply pw_below_drewN | apply below_drew1))) hb); have n1_ := Aside0.mk (blk_below BK.out hb); clear HB BK; have HB := n0_; have BK := n1_; clear n0_ n1_; clear hb; have hy0 : w9.cell? ⟨gb, 0, none⟩ = _ := (blk_cell BK.out 0).trans rfl; have hy21 : w9.cell? ⟨gb, 21, none⟩ = some (.int .i64 a21) := (blk_cell BK.out 21).trans rfl; have hy22 : w9.cell? ⟨gb, 22, none⟩ = some (.slice A22 l22.length c22) := (blk_cell BK.out 22).trans rfl; have hy23 : w9.cell? ⟨gb, 23, none⟩ = some (.slice A23 l23.length c23) := (blk_cell BK.out 23).trans rfl; have hy24 : w9.cell? ⟨gb, 24, none⟩ = some (.slice A24 l24.length c24) := (blk_cell BK.out 24).trans rfl; cases nb; (case' false => skip); (case' true => clear ma21_)) | ((with_reducible refine gate_dst (N := 108) rfl ?_); clear ma21_; by_cases k_ : a21 = 0; (case' pos => (subst k_; skip)); (case' neg => (have ka21' : (a21 != 0) = true := bne_iff_ne.2 k_; clear k_; clear mk8_ ml22_ mk9_ ml23_ mk10_ ml24_))) | ((with_reducible refine gate_dst (N := 113) rfl ?_); clear mk8_; by_cases k_ : a0 = 8; (case' pos => (subst k_; clear ml22_ mk9_ mk10_)); (case' neg => (have q8_ : (a0 != 8) = true := bne_iff_ne.2 k_; clear k_; skip))) | ((with_reducible refine gate_dst (N := 117) rfl ?_); clear ml22_; by_cases k22 : 0 < l22.length; (case' pos => clear mk9_ ml23_ mk10_ ml24_); (case' neg => skip)) | ((with_reducible refine gate_dst (N := 124) rfl ?_); clear mk9_; by_cases k_ : a0 = 9; (case' pos => (subst k_; clear ml23_ mk10_)); (case' neg => (have q9_ : (a0 != 9) = true := bne_iff_ne.2 k_; clear k_; skip))) | ((with_reducible refine gate_dst (N := 128) rfl ?_); clear ml23_; by_cases k23 : 0 < l23.length; (case' pos => ((try clear mk10_); clear ml24_)); (case' neg => skip)) | ((with_reducible refine gate_dst (N := 135) rfl ?_); clear mk10_; by_cases k_ : a0 = 10; (case' pos => (subst k_; clear ml24_)); (case' neg => (have q10_ : (a0 != 10) = true := bne_iff_ne.2 k_; clear k_; skip))) | ((with_reducible refine gate_dst (N := 139) rfl ?_); clear ml24_; by_cases k24 : 0 < l24.length; (case' pos => skip); (case' neg => skip))))
                      all_goals (go_meet; (case rel => exact ⟨_, rfl, Aside0.mk (by first | rfl | (simp [*]; done) | (simp [bne, *]; done) | (generalize a11.toList = z_ at *; cases z_ <;> simp_all; done) | (simp_all; done)), BK, Aside0.mk (by repeat (first | exact HB.out | (with_reducible first | apply below_alloc | apply pw_below_drewN | apply below_drew1)))⟩))
                  case rest =>
                    clear HB BK
                    obtain ⟨b, rfl, hb4, BK, HB⟩ := hcut
                    obtain ⟨wA5, hwA⟩ : ∃ x, x = wc := ⟨_, rfl⟩
                    subst hwA
                    have e : R = b := by rw [HR.out, HB3.out, ← hb0.out, ← hb1.out, ← hb2.out, ← hb3.out, ← hb4.out]; simp
                    subst e
                    go_wp2
                    go_ret
                    exact ⟨rfl, HB.out⟩
end Go.Proofs.YtndhkgfeknkfdaaGreatDoor.Pk
