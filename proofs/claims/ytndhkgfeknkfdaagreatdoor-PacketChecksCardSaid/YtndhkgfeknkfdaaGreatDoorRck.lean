/- crierref2.Check. -/
import Derived.Test.YtndhkgfeknkfdaaGreatDoorRfo
import Derived.Test.YtndhkgfeknkfdaaGreatDoorRby
import Derived.Test.YtndhkgfeknkfdaaGreatDoorMPacketChecksx
import Derived.Test.YtndhkgfeknkfdaaGreatDoorCnt
namespace Go.Proofs.YtndhkgfeknkfdaaGreatDoor.Pk
open Go.RowKit Go.Proofs.YtndhkgfeknkfdaaGreatDoor.Giv Go.Proofs.YtndhkgfeknkfdaaGreatDoorW.PrintWords Go.Proofs.YtndhkgfeknkfdaaGreatDoorW.PrintLast Go.Proofs.YtndhkgfeknkfdaaGreatDoorW.PrintMore Go.Proofs.YtndhkgfeknkfdaaGreatDoor.MPacketChecks
set_option linter.unusedVariables false
set_option linter.unusedSimpArgs false
set_option maxHeartbeats 8000000
set_option maxRecDepth 100000
theorem drawn_below {w w' : World} (h : Drawn0 w w') : Below w.heap.size w w' := by obtain ⟨nd, rfl⟩ := h; exact pw_below_drewN (Below.refl _ _) _
theorem within_some (n m : Int) : crierref2_within.f n m = some (decide (0 ≤ n) && decide (n ≤ m)) := by
  unfold crierref2_within.f
  by_cases h : n ≥ 0
  · rw [if_pos h, decide_eq_true (show 0 ≤ n from h)]; rfl
  · rw [if_neg h, decide_eq_false (show ¬ 0 ≤ n from h)]; rfl
theorem rCheck_calls (a0 : Int) (a1 : Int) (a2 : Bool) (a3 : Int) (a4 : ByteArray) (a5 : Bool) (a6 : ByteArray) (A7 : Option Addr) (c7 : Nat) (l7 : List Int) (a8 : Int) (a9 : Bool) (a10 : Bool) (a11 : ByteArray) (a12 : Bool) (A13 : Option Addr) (c13 : Nat) (l13 : List Int) (a14 : Bool) (a15 : Int) (a16 : Bool) (a17 : ByteArray) (A18 : Option Addr) (c18 : Nat) (l18 : List Int) (a19 : Int) (a20 : Bool) (a21 : Int) (A22 : Option Addr) (c22 : Nat) (l22 : List S82) (A23 : Option Addr) (c23 : Nat) (l23 : List Int) (A24 : Option Addr) (c24 : Nat) (l24 : List ByteArray) (nb z1 z2 fo t1 t2 tp fl ql : Bool) (kt kp kf kq : Nat) (R : Int) (w : World) (hr : Rd w A7 c7 l7 A13 c13 l13 A18 c18 l18 A22 c22 l22 A23 c23 l23 A24 c24 l24) (hs : P.sum ⟨a0, a1, a2, a3, a4, a5, a6, l7, a8, a9, a10, a11, a12, l13, a14, a15, a16, a17, l18, a19, a20, a21, l22, l23, l24⟩ ≤ 4294967280)
    (h1 : crierref2_zeroMessage.f a6 l7 a8 a9 = some z1) (h2 : crierref2_zeroMessage.f a17 l18 a19 a20 = some z2) (h3 : crierref2_numbered.f a0 a1 a2 a3 a4 a5 a6 l7 a8 a9 a10 a11 a12 l13 a14 a15 a16 a17 l18 a19 a20 a21 l22 l23 l24 = some nb) (h4 : fo = ((!(a0 == 1) && ((a1 != 0) || (a2 || ((a3 != 0) || ((a4.toList != ([] : List UInt8)) || (a5 || (a10 || a12))))))) || ((!((a0 == 1) && a5) && !z1) || ((!((a0 == 1) && a10) && (a11.toList != ([] : List UInt8))) || (!((a0 == 1) && a12) && decide (0 < (l13.length : Int))))) || (!(a0 == 2) && (a14 || (a15 != 0))) || (!(a0 == 3) && (a16 || !z2)) || ((!nb && (a21 != 0)) || ((!(a0 == 8) && decide (0 < (l22.length : Int))) || ((!(a0 == 9) && decide (0 < (l23.length : Int))) || (!(a0 == 10) && decide (0 < (l24.length : Int))))))))
    (h5 : crierref5_Text.f kt a4 = some t1) (h6 : crierref5_Text.f kt a11 = some t2) (h7 : crierref2_topics.f kp a0 a1 a2 a3 a4 a5 a6 l7 a8 a9 a10 a11 a12 l13 a14 a15 a16 a17 l18 a19 a20 a21 l22 l23 l24 = some tp) (h8 : crierref2_filters.f kf a0 a1 a2 a3 a4 a5 a6 l7 a8 a9 a10 a11 a12 l13 a14 a15 a16 a17 l18 a19 a20 a21 l22 l23 l24 = some fl) (h9 : crierref2_qualities.f kq a0 a1 a2 a3 a4 a5 a6 l7 a8 a9 a10 a11 a12 l13 a14 a15 a16 a17 l18 a19 a20 a21 l22 l23 l24 = some ql)
    (hR : R = if (decide (a0 < 1) || decide (14 < a0)) = true then 20 else checkV (fo || (!(decide (0 ≤ a1) && decide (a1 ≤ 255)) || (!(decide (0 ≤ a15) && decide (a15 ≤ 255)) || !(decide (0 ≤ a3) && decide (a3 ≤ 65535))))) (!t1 || !t2) (!tp) (!fl) (!ql) (nb && (decide (a21 < 1) || decide (65535 < a21))) (decide (65535 < (l7.length : Int)) || (decide (65535 < (l13.length : Int)) || decide (268435455 < partV nb (midV a0 a5 a10 a12 a4.size a6.size l7.length a11.size l13.length a17.size l18.length l22 l24 l23.length) 0))) (((a0 == 8) && ((l22.length : Int) == 0)) || (((a0 == 9) && ((l23.length : Int) == 0)) || ((a0 == 10) && ((l24.length : Int) == 0)))) ((a12 && !a10) || ((a16 && (a19 == 0)) || (a14 && (a15 != 0))))) :
    Calls Tryz.prog 25 #[.agg #[.int .i64 a0, .int .i64 a1, .bool a2, .int .i64 a3, .string a4, .bool a5, .string a6, .slice A7 l7.length c7, .int .i64 a8, .bool a9, .bool a10, .string a11, .bool a12, .slice A13 l13.length c13, .bool a14, .int .i64 a15, .bool a16, .string a17, .slice A18 l18.length c18, .int .i64 a19, .bool a20, .int .i64 a21, .slice A22 l22.length c22, .slice A23 l23.length c23, .slice A24 l24.length c24]] w fun e w' => e = .returned (.int .i64 R) ∧ Below w.heap.size w w' := by
  have hu29 := Tryz.underlying29
  have hu24 := Tryz.underlying24
  have HRD := Aside0.mk hr; have HS := Aside0.mk hs; have HZ1 := Aside0.mk h1; have HZ2 := Aside0.mk h2; have HNB := Aside0.mk h3; have HFO := Aside0.mk h4; have HT1 := Aside0.mk h5; have HT2 := Aside0.mk h6; have HTP := Aside0.mk h7; have HFL := Aside0.mk h8; have HQL := Aside0.mk h9; have HR := Aside0.mk hR
  clear hr hs h1 h2 h3 h4 h5 h6 h7 h8 h9 hR
  have HB := Aside0.mk (Below.refl w.heap.size w)
  go_enter Tryz.func25, Tryz.ntmps25
  go_upto_region 1 with (first | ((with_reducible refine gate_dst (N := 1) rfl ?_); refine box_event ?hg (N := 1) ?hd (cs := #[.int .i64 a0, .int .i64 a1, .bool a2, .int .i64 a3, .string a4, .bool a5, .string a6, .slice A7 l7.length c7, .int .i64 a8, .bool a9, .bool a10, .string a11, .bool a12, .slice A13 l13.length c13, .bool a14, .int .i64 a15, .bool a16, .string a17, .slice A18 l18.length c18, .int .i64 a19, .bool a20, .int .i64 a21, .slice A22 l22.length c22, .slice A23 l23.length c23, .slice A24 l24.length c24]) (t := 29) ?hr ?_; (case hd => rfl); (case hg => rfl); (case hr => first | (go_simp; done) | (go_simp; rfl)); intro gb hg w3 hbox hb; have n0_ := Aside0.mk (below_step HB.out hb); clear HB; have HB := n0_; clear n0_; have BK := Aside0.mk hbox; clear hb hbox hg; have hz0 : w3.cell? ⟨gb, 0, none⟩ = some (.int .i64 a0) := (blk_cell BK.out 0).trans rfl))
  (try simp only [Act.put, List.setIfInBounds_toArray, List.set_cons_zero, List.set_cons_succ])
  generalize (Value.agg #[.int .i64 a0, .int .i64 a1, .bool a2, .int .i64 a3, .string a4, .bool a5, .string a6, .slice A7 l7.length c7, .int .i64 a8, .bool a9, .bool a10, .string a11, .bool a12, .slice A13 l13.length c13, .bool a14, .int .i64 a15, .bool a16, .string a17, .slice A18 l18.length c18, .int .i64 a19, .bool a20, .int .i64 a21, .slice A22 l22.length c22, .slice A23 l23.length c23, .slice A24 l24.length c24]) = v0
  clear hz0
  go_cut [3] (fun v wc => ∃ b : Bool, v = .bool b ∧ Aside0 (b = (decide (a0 < 1) || decide (14 < a0))) ∧ Aside0 (wc.heap[gb]? = some (.cells #[.int .i64 a0, .int .i64 a1, .bool a2, .int .i64 a3, .string a4, .bool a5, .string a6, .slice A7 l7.length c7, .int .i64 a8, .bool a9, .bool a10, .string a11, .bool a12, .slice A13 l13.length c13, .bool a14, .int .i64 a15, .bool a16, .string a17, .slice A18 l18.length c18, .int .i64 a19, .bool a20, .int .i64 a21, .slice A22 l22.length c22, .slice A23 l23.length c23, .slice A24 l24.length c24] 29 (0, 0))) ∧ Aside0 (Below w.heap.size w wc))
  case first =>
    as_aux_lemma =>
      all_goals (
        skip
        have hz0 : w3.cell? ⟨gb, 0, none⟩ = _ := (blk_cell BK.out 0).trans rfl
        go_wp2)
      all_goals (go_meet; (case rel => exact ⟨_, rfl, Aside0.mk (by first | rfl | (simp [*]; done) | (simp [bne, *]; done) | (simp_all; done) | (simp [*] at *; omega) | (simp_all; omega)), BK, Aside0.mk (by repeat (first | exact HB.out | (with_reducible first | apply below_alloc | apply pw_below_drewN | apply below_drew1)))⟩))
  case rest =>
    clear HB BK
    obtain ⟨b, rfl, hb0, BK, HB⟩ := hcut
    obtain ⟨wA1, hwA⟩ : ∃ x, x = wc := ⟨_, rfl⟩
    subst hwA
    cases b with
    | true =>
      have e : R = 20 := by rw [HR.out, ← hb0.out]; simp [checkV]
      subst e
      as_aux_lemma =>
        go_wp2
        go_ret
        exact ⟨rfl, HB.out⟩
    | false =>
      go_upto_region 3 with (fail)
      (try simp only [Act.put, List.setIfInBounds_toArray, List.set_cons_zero, List.set_cons_succ])
      go_cut [12] (fun v wc => ∃ b : Bool, v = .bool b ∧ Aside0 (b = (fo || (!(decide (0 ≤ a1) && decide (a1 ≤ 255)) || (!(decide (0 ≤ a15) && decide (a15 ≤ 255)) || !(decide (0 ≤ a3) && decide (a3 ≤ 65535)))))) ∧ Aside0 (wc.heap[gb]? = some (.cells #[.int .i64 a0, .int .i64 a1, .bool a2, .int .i64 a3, .string a4, .bool a5, .string a6, .slice A7 l7.length c7, .int .i64 a8, .bool a9, .bool a10, .string a11, .bool a12, .slice A13 l13.length c13, .bool a14, .int .i64 a15, .bool a16, .string a17, .slice A18 l18.length c18, .int .i64 a19, .bool a20, .int .i64 a21, .slice A22 l22.length c22, .slice A23 l23.length c23, .slice A24 l24.length c24] 29 (0, 0))) ∧ Aside0 (Below w.heap.size w wc))
      case first =>
        as_aux_lemma =>
          all_goals (
            skip
            have hz1 : wA1.cell? ⟨gb, 1, none⟩ = some (.int .i64 a1) := (blk_cell BK.out 1).trans rfl
            have hz3 : wA1.cell? ⟨gb, 3, none⟩ = some (.int .i64 a3) := (blk_cell BK.out 3).trans rfl
            have hz15 : wA1.cell? ⟨gb, 15, none⟩ = some (.int .i64 a15) := (blk_cell BK.out 15).trans rfl
            go_wp2_with (first | ((with_reducible refine gate_dst (N := 13) rfl ?_); refine wpList_load_row rfl 29 (.tmp 1) rfl gb rfl 29 #[.int .i64 a0, .int .i64 a1, .bool a2, .int .i64 a3, .string a4, .bool a5, .string a6, .slice A7 l7.length c7, .int .i64 a8, .bool a9, .bool a10, .string a11, .bool a12, .slice A13 l13.length c13, .bool a14, .int .i64 a15, .bool a16, .string a17, .slice A18 l18.length c18, .int .i64 a19, .bool a20, .int .i64 a21, .slice A22 l22.length c22, .slice A23 l23.length c23, .slice A24 l24.length c24] (0, 0) _ BK.out hu29 rfl (by kernel_rfl) ?_) | (go_at_call 100; (refine (rforeign_calls a0 a1 a2 a3 a4 a5 a6 A7 c7 l7 a8 a9 a10 a11 a12 A13 c13 l13 a14 a15 a16 a17 A18 c18 l18 a19 a20 a21 A22 c22 l22 A23 c23 l23 A24 c24 l24 nb z1 z2 fo _ (HRD.out.below (by repeat (first | exact HB.out | (with_reducible first | apply below_alloc | apply pw_below_drewN | apply below_drew1)))) HZ1.out HZ2.out HNB.out HFO.out).mono ?_); rintro e w9 ⟨rfl, hb⟩; have n0_ := Aside0.mk (below_step (by repeat (first | exact HB.out | (with_reducible first | apply below_alloc | apply pw_below_drewN | apply below_drew1))) hb); have n1_ := Aside0.mk (blk_below BK.out hb); clear HB BK; have HB := n0_; have BK := n1_; clear n0_ n1_; clear hb; have hy1 : w9.cell? ⟨gb, 1, none⟩ = some (.int .i64 a1) := (blk_cell BK.out 1).trans rfl; have hy3 : w9.cell? ⟨gb, 3, none⟩ = some (.int .i64 a3) := (blk_cell BK.out 3).trans rfl; have hy15 : w9.cell? ⟨gb, 15, none⟩ = some (.int .i64 a15) := (blk_cell BK.out 15).trans rfl) | (go_at_call 101; (with_reducible refine (crierref2_within.calls a1 255 (decide (0 ≤ a1) && decide (a1 ≤ 255)) _ (within_some _ _)).mono ?_); rintro e w9 ⟨rfl, hb0⟩; have hb := drawn_below hb0; clear hb0; have n0_ := Aside0.mk (below_step (by repeat (first | exact HB.out | (with_reducible first | apply below_alloc | apply pw_below_drewN | apply below_drew1))) hb); have n1_ := Aside0.mk (blk_below BK.out hb); clear HB BK; have HB := n0_; have BK := n1_; clear n0_ n1_; clear hb; have hy1 : w9.cell? ⟨gb, 1, none⟩ = some (.int .i64 a1) := (blk_cell BK.out 1).trans rfl; have hy3 : w9.cell? ⟨gb, 3, none⟩ = some (.int .i64 a3) := (blk_cell BK.out 3).trans rfl; have hy15 : w9.cell? ⟨gb, 15, none⟩ = some (.int .i64 a15) := (blk_cell BK.out 15).trans rfl) | (go_at_call 101; (with_reducible refine (crierref2_within.calls a15 255 (decide (0 ≤ a15) && decide (a15 ≤ 255)) _ (within_some _ _)).mono ?_); rintro e w9 ⟨rfl, hb0⟩; have hb := drawn_below hb0; clear hb0; have n0_ := Aside0.mk (below_step (by repeat (first | exact HB.out | (with_reducible first | apply below_alloc | apply pw_below_drewN | apply below_drew1))) hb); have n1_ := Aside0.mk (blk_below BK.out hb); clear HB BK; have HB := n0_; have BK := n1_; clear n0_ n1_; clear hb; have hy1 : w9.cell? ⟨gb, 1, none⟩ = some (.int .i64 a1) := (blk_cell BK.out 1).trans rfl; have hy3 : w9.cell? ⟨gb, 3, none⟩ = some (.int .i64 a3) := (blk_cell BK.out 3).trans rfl; have hy15 : w9.cell? ⟨gb, 15, none⟩ = some (.int .i64 a15) := (blk_cell BK.out 15).trans rfl) | (go_at_call 101; (with_reducible refine (crierref2_within.calls a3 65535 (decide (0 ≤ a3) && decide (a3 ≤ 65535)) _ (within_some _ _)).mono ?_); rintro e w9 ⟨rfl, hb0⟩; have hb := drawn_below hb0; clear hb0; have n0_ := Aside0.mk (below_step (by repeat (first | exact HB.out | (with_reducible first | apply below_alloc | apply pw_below_drewN | apply below_drew1))) hb); have n1_ := Aside0.mk (blk_below BK.out hb); clear HB BK; have HB := n0_; have BK := n1_; clear n0_ n1_; clear hb; have hy1 : w9.cell? ⟨gb, 1, none⟩ = some (.int .i64 a1) := (blk_cell BK.out 1).trans rfl; have hy3 : w9.cell? ⟨gb, 3, none⟩ = some (.int .i64 a3) := (blk_cell BK.out 3).trans rfl; have hy15 : w9.cell? ⟨gb, 15, none⟩ = some (.int .i64 a15) := (blk_cell BK.out 15).trans rfl)))
          all_goals (go_meet; (case rel => exact ⟨_, rfl, Aside0.mk (by first | rfl | (simp [*]; done) | (simp [bne, *]; done) | (simp_all; done) | (simp [*] at *; omega) | (simp_all; omega)), BK, Aside0.mk (by repeat (first | exact HB.out | (with_reducible first | apply below_alloc | apply pw_below_drewN | apply below_drew1)))⟩))
      case rest =>
        clear HB BK
        obtain ⟨b, rfl, hb1, BK, HB⟩ := hcut
        obtain ⟨wA2, hwA⟩ : ∃ x, x = wc := ⟨_, rfl⟩
        subst hwA
        cases b with
        | true =>
          have e : R = 21 := by rw [HR.out, ← hb0.out, ← hb1.out]; simp [checkV]
          subst e
          as_aux_lemma =>
            go_wp2
            go_ret
            exact ⟨rfl, HB.out⟩
        | false =>
          go_upto_region 5 with (fail)
          (try simp only [Act.put, List.setIfInBounds_toArray, List.set_cons_zero, List.set_cons_succ])
          go_cut [33] (fun v wc => ∃ b : Bool, v = .bool b ∧ Aside0 (b = (!t1 || !t2)) ∧ Aside0 (wc.heap[gb]? = some (.cells #[.int .i64 a0, .int .i64 a1, .bool a2, .int .i64 a3, .string a4, .bool a5, .string a6, .slice A7 l7.length c7, .int .i64 a8, .bool a9, .bool a10, .string a11, .bool a12, .slice A13 l13.length c13, .bool a14, .int .i64 a15, .bool a16, .string a17, .slice A18 l18.length c18, .int .i64 a19, .bool a20, .int .i64 a21, .slice A22 l22.length c22, .slice A23 l23.length c23, .slice A24 l24.length c24] 29 (0, 0))) ∧ Aside0 (Below w.heap.size w wc))
          case first =>
            as_aux_lemma =>
              all_goals (
                skip
                have hz4 : wA2.cell? ⟨gb, 4, none⟩ = some (.string a4) := (blk_cell BK.out 4).trans rfl
                have hz11 : wA2.cell? ⟨gb, 11, none⟩ = some (.string a11) := (blk_cell BK.out 11).trans rfl
                go_wp2_with (first | (go_at_call 102; (with_reducible refine (crierref5_Text.calls kt a4 t1 _ HT1.out).mono ?_); rintro e w9 ⟨rfl, hb0⟩; have hb := drawn_below hb0; clear hb0; have n0_ := Aside0.mk (below_step (by repeat (first | exact HB.out | (with_reducible first | apply below_alloc | apply pw_below_drewN | apply below_drew1))) hb); have n1_ := Aside0.mk (blk_below BK.out hb); clear HB BK; have HB := n0_; have BK := n1_; clear n0_ n1_; clear hb; have hy11 : w9.cell? ⟨gb, 11, none⟩ = some (.string a11) := (blk_cell BK.out 11).trans rfl) | (go_at_call 102; (with_reducible refine (crierref5_Text.calls kt a11 t2 _ HT2.out).mono ?_); rintro e w9 ⟨rfl, hb0⟩; have hb := drawn_below hb0; clear hb0; have n0_ := Aside0.mk (below_step (by repeat (first | exact HB.out | (with_reducible first | apply below_alloc | apply pw_below_drewN | apply below_drew1))) hb); have n1_ := Aside0.mk (blk_below BK.out hb); clear HB BK; have HB := n0_; have BK := n1_; clear n0_ n1_; clear hb; have hy11 : w9.cell? ⟨gb, 11, none⟩ = some (.string a11) := (blk_cell BK.out 11).trans rfl)))
              all_goals (go_meet; (case rel => exact ⟨_, rfl, Aside0.mk (by first | rfl | (simp [*]; done) | (simp [bne, *]; done) | (simp_all; done) | (simp [*] at *; omega) | (simp_all; omega)), BK, Aside0.mk (by repeat (first | exact HB.out | (with_reducible first | apply below_alloc | apply pw_below_drewN | apply below_drew1)))⟩))
          case rest =>
            clear HB BK
            obtain ⟨b, rfl, hb2, BK, HB⟩ := hcut
            obtain ⟨wA3, hwA⟩ : ∃ x, x = wc := ⟨_, rfl⟩
            subst hwA
            cases b with
            | true =>
              have e : R = 22 := by rw [HR.out, ← hb0.out, ← hb1.out, ← hb2.out]; simp [checkV]
              subst e
              as_aux_lemma =>
                go_wp2
                go_ret
                exact ⟨rfl, HB.out⟩
            | false =>
              go_upto_region 7 with (fail)
              (try simp only [Act.put, List.setIfInBounds_toArray, List.set_cons_zero, List.set_cons_succ])
              go_cut [44] (fun v wc => ∃ b : Bool, v = .bool b ∧ Aside0 (b = (!tp)) ∧ Aside0 (wc.heap[gb]? = some (.cells #[.int .i64 a0, .int .i64 a1, .bool a2, .int .i64 a3, .string a4, .bool a5, .string a6, .slice A7 l7.length c7, .int .i64 a8, .bool a9, .bool a10, .string a11, .bool a12, .slice A13 l13.length c13, .bool a14, .int .i64 a15, .bool a16, .string a17, .slice A18 l18.length c18, .int .i64 a19, .bool a20, .int .i64 a21, .slice A22 l22.length c22, .slice A23 l23.length c23, .slice A24 l24.length c24] 29 (0, 0))) ∧ Aside0 (Below w.heap.size w wc))
              case first =>
                as_aux_lemma =>
                  all_goals (
                    skip
                    go_wp2_with (first | ((with_reducible refine gate_dst (N := 45) rfl ?_); refine wpList_load_row rfl 29 (.tmp 1) rfl gb rfl 29 #[.int .i64 a0, .int .i64 a1, .bool a2, .int .i64 a3, .string a4, .bool a5, .string a6, .slice A7 l7.length c7, .int .i64 a8, .bool a9, .bool a10, .string a11, .bool a12, .slice A13 l13.length c13, .bool a14, .int .i64 a15, .bool a16, .string a17, .slice A18 l18.length c18, .int .i64 a19, .bool a20, .int .i64 a21, .slice A22 l22.length c22, .slice A23 l23.length c23, .slice A24 l24.length c24] (0, 0) _ BK.out hu29 rfl (by kernel_rfl) ?_) | (go_at_call 103; (refine (crierref2_topics.calls kp a0 a1 a2 a3 a4 a5 a6 A7 c7 l7 a8 a9 a10 a11 a12 A13 c13 l13 a14 a15 a16 a17 A18 c18 l18 a19 a20 a21 A22 c22 l22 A23 c23 l23 A24 c24 l24 tp _ ?s1 HRD.out.k7 ?s2 HRD.out.k13 ?s3 HRD.out.k18 ?s4 HRD.out.k22 ?s5 HRD.out.k23 ?s6 HRD.out.k24 HTP.out).mono ?_); (case s1 => exact Kd.C_below HRD.out.r7 (by repeat (first | exact HB.out | (with_reducible first | apply below_alloc | apply pw_below_drewN | apply below_drew1)))); (case s2 => exact Kd.C_below HRD.out.r13 (by repeat (first | exact HB.out | (with_reducible first | apply below_alloc | apply pw_below_drewN | apply below_drew1)))); (case s3 => exact Kd.C_below HRD.out.r18 (by repeat (first | exact HB.out | (with_reducible first | apply below_alloc | apply pw_below_drewN | apply below_drew1)))); (case s4 => exact Kd.C_below HRD.out.r22 (by repeat (first | exact HB.out | (with_reducible first | apply below_alloc | apply pw_below_drewN | apply below_drew1)))); (case s5 => exact Kd.C_below HRD.out.r23 (by repeat (first | exact HB.out | (with_reducible first | apply below_alloc | apply pw_below_drewN | apply below_drew1)))); (case s6 => exact Kd.C_below HRD.out.r24 (by repeat (first | exact HB.out | (with_reducible first | apply below_alloc | apply pw_below_drewN | apply below_drew1)))); rintro e w9 ⟨rfl, hb⟩; have n0_ := Aside0.mk (below_step (by repeat (first | exact HB.out | (with_reducible first | apply below_alloc | apply pw_below_drewN | apply below_drew1))) hb); have n1_ := Aside0.mk (blk_below BK.out hb); clear HB BK; have HB := n0_; have BK := n1_; clear n0_ n1_; clear hb)))
                  all_goals (go_meet; (case rel => exact ⟨_, rfl, Aside0.mk (by first | rfl | (simp [*]; done) | (simp [bne, *]; done) | (simp_all; done) | (simp [*] at *; omega) | (simp_all; omega)), BK, Aside0.mk (by repeat (first | exact HB.out | (with_reducible first | apply below_alloc | apply pw_below_drewN | apply below_drew1)))⟩))
              case rest =>
                clear HB BK
                obtain ⟨b, rfl, hb3, BK, HB⟩ := hcut
                obtain ⟨wA4, hwA⟩ : ∃ x, x = wc := ⟨_, rfl⟩
                subst hwA
                cases b with
                | true =>
                  have e : R = 23 := by rw [HR.out, ← hb0.out, ← hb1.out, ← hb2.out, ← hb3.out]; simp [checkV]
                  subst e
                  as_aux_lemma =>
                    go_wp2
                    go_ret
                    exact ⟨rfl, HB.out⟩
                | false =>
                  go_upto_region 9 with (fail)
                  (try simp only [Act.put, List.setIfInBounds_toArray, List.set_cons_zero, List.set_cons_succ])
                  go_cut [48] (fun v wc => ∃ b : Bool, v = .bool b ∧ Aside0 (b = (!fl)) ∧ Aside0 (wc.heap[gb]? = some (.cells #[.int .i64 a0, .int .i64 a1, .bool a2, .int .i64 a3, .string a4, .bool a5, .string a6, .slice A7 l7.length c7, .int .i64 a8, .bool a9, .bool a10, .string a11, .bool a12, .slice A13 l13.length c13, .bool a14, .int .i64 a15, .bool a16, .string a17, .slice A18 l18.length c18, .int .i64 a19, .bool a20, .int .i64 a21, .slice A22 l22.length c22, .slice A23 l23.length c23, .slice A24 l24.length c24] 29 (0, 0))) ∧ Aside0 (Below w.heap.size w wc))
                  case first =>
                    as_aux_lemma =>
                      all_goals (
                        skip
                        go_wp2_with (first | ((with_reducible refine gate_dst (N := 49) rfl ?_); refine wpList_load_row rfl 29 (.tmp 1) rfl gb rfl 29 #[.int .i64 a0, .int .i64 a1, .bool a2, .int .i64 a3, .string a4, .bool a5, .string a6, .slice A7 l7.length c7, .int .i64 a8, .bool a9, .bool a10, .string a11, .bool a12, .slice A13 l13.length c13, .bool a14, .int .i64 a15, .bool a16, .string a17, .slice A18 l18.length c18, .int .i64 a19, .bool a20, .int .i64 a21, .slice A22 l22.length c22, .slice A23 l23.length c23, .slice A24 l24.length c24] (0, 0) _ BK.out hu29 rfl (by kernel_rfl) ?_) | (go_at_call 104; (refine (crierref2_filters.calls kf a0 a1 a2 a3 a4 a5 a6 A7 c7 l7 a8 a9 a10 a11 a12 A13 c13 l13 a14 a15 a16 a17 A18 c18 l18 a19 a20 a21 A22 c22 l22 A23 c23 l23 A24 c24 l24 fl _ ?s1 HRD.out.k7 ?s2 HRD.out.k13 ?s3 HRD.out.k18 ?s4 HRD.out.k22 ?s5 HRD.out.k23 ?s6 HRD.out.k24 HFL.out).mono ?_); (case s1 => exact Kd.C_below HRD.out.r7 (by repeat (first | exact HB.out | (with_reducible first | apply below_alloc | apply pw_below_drewN | apply below_drew1)))); (case s2 => exact Kd.C_below HRD.out.r13 (by repeat (first | exact HB.out | (with_reducible first | apply below_alloc | apply pw_below_drewN | apply below_drew1)))); (case s3 => exact Kd.C_below HRD.out.r18 (by repeat (first | exact HB.out | (with_reducible first | apply below_alloc | apply pw_below_drewN | apply below_drew1)))); (case s4 => exact Kd.C_below HRD.out.r22 (by repeat (first | exact HB.out | (with_reducible first | apply below_alloc | apply pw_below_drewN | apply below_drew1)))); (case s5 => exact Kd.C_below HRD.out.r23 (by repeat (first | exact HB.out | (with_reducible first | apply below_alloc | apply pw_below_drewN | apply below_drew1)))); (case s6 => exact Kd.C_below HRD.out.r24 (by repeat (first | exact HB.out | (with_reducible first | apply below_alloc | apply pw_below_drewN | apply below_drew1)))); rintro e w9 ⟨rfl, hb⟩; have n0_ := Aside0.mk (below_step (by repeat (first | exact HB.out | (with_reducible first | apply below_alloc | apply pw_below_drewN | apply below_drew1))) hb); have n1_ := Aside0.mk (blk_below BK.out hb); clear HB BK; have HB := n0_; have BK := n1_; clear n0_ n1_; clear hb)))
                      all_goals (go_meet; (case rel => exact ⟨_, rfl, Aside0.mk (by first | rfl | (simp [*]; done) | (simp [bne, *]; done) | (simp_all; done) | (simp [*] at *; omega) | (simp_all; omega)), BK, Aside0.mk (by repeat (first | exact HB.out | (with_reducible first | apply below_alloc | apply pw_below_drewN | apply below_drew1)))⟩))
                  case rest =>
                    clear HB BK
                    obtain ⟨b, rfl, hb4, BK, HB⟩ := hcut
                    obtain ⟨wA5, hwA⟩ : ∃ x, x = wc := ⟨_, rfl⟩
                    subst hwA
                    cases b with
                    | true =>
                      have e : R = 24 := by rw [HR.out, ← hb0.out, ← hb1.out, ← hb2.out, ← hb3.out, ← hb4.out]; simp [checkV]
                      subst e
                      as_aux_lemma =>
                        go_wp2
                        go_ret
                        exact ⟨rfl, HB.out⟩
                    | false =>
                      go_upto_region 11 with (fail)
                      (try simp only [Act.put, List.setIfInBounds_toArray, List.set_cons_zero, List.set_cons_succ])
                      go_cut [52] (fun v wc => ∃ b : Bool, v = .bool b ∧ Aside0 (b = (!ql)) ∧ Aside0 (wc.heap[gb]? = some (.cells #[.int .i64 a0, .int .i64 a1, .bool a2, .int .i64 a3, .string a4, .bool a5, .string a6, .slice A7 l7.length c7, .int .i64 a8, .bool a9, .bool a10, .string a11, .bool a12, .slice A13 l13.length c13, .bool a14, .int .i64 a15, .bool a16, .string a17, .slice A18 l18.length c18, .int .i64 a19, .bool a20, .int .i64 a21, .slice A22 l22.length c22, .slice A23 l23.length c23, .slice A24 l24.length c24] 29 (0, 0))) ∧ Aside0 (Below w.heap.size w wc))
                      case first =>
                        as_aux_lemma =>
                          all_goals (
                            skip
                            go_wp2_with (first | ((with_reducible refine gate_dst (N := 53) rfl ?_); refine wpList_load_row rfl 29 (.tmp 1) rfl gb rfl 29 #[.int .i64 a0, .int .i64 a1, .bool a2, .int .i64 a3, .string a4, .bool a5, .string a6, .slice A7 l7.length c7, .int .i64 a8, .bool a9, .bool a10, .string a11, .bool a12, .slice A13 l13.length c13, .bool a14, .int .i64 a15, .bool a16, .string a17, .slice A18 l18.length c18, .int .i64 a19, .bool a20, .int .i64 a21, .slice A22 l22.length c22, .slice A23 l23.length c23, .slice A24 l24.length c24] (0, 0) _ BK.out hu29 rfl (by kernel_rfl) ?_) | (go_at_call 105; (refine (crierref2_qualities.calls kq a0 a1 a2 a3 a4 a5 a6 A7 c7 l7 a8 a9 a10 a11 a12 A13 c13 l13 a14 a15 a16 a17 A18 c18 l18 a19 a20 a21 A22 c22 l22 A23 c23 l23 A24 c24 l24 ql _ ?s1 HRD.out.k7 ?s2 HRD.out.k13 ?s3 HRD.out.k18 ?s4 HRD.out.k22 ?s5 HRD.out.k23 ?s6 HRD.out.k24 HQL.out).mono ?_); (case s1 => exact Kd.C_below HRD.out.r7 (by repeat (first | exact HB.out | (with_reducible first | apply below_alloc | apply pw_below_drewN | apply below_drew1)))); (case s2 => exact Kd.C_below HRD.out.r13 (by repeat (first | exact HB.out | (with_reducible first | apply below_alloc | apply pw_below_drewN | apply below_drew1)))); (case s3 => exact Kd.C_below HRD.out.r18 (by repeat (first | exact HB.out | (with_reducible first | apply below_alloc | apply pw_below_drewN | apply below_drew1)))); (case s4 => exact Kd.C_below HRD.out.r22 (by repeat (first | exact HB.out | (with_reducible first | apply below_alloc | apply pw_below_drewN | apply below_drew1)))); (case s5 => exact Kd.C_below HRD.out.r23 (by repeat (first | exact HB.out | (with_reducible first | apply below_alloc | apply pw_below_drewN | apply below_drew1)))); (case s6 => exact Kd.C_below HRD.out.r24 (by repeat (first | exact HB.out | (with_reducible first | apply below_alloc | apply pw_below_drewN | apply below_drew1)))); rintro e w9 ⟨rfl, hb⟩; have n0_ := Aside0.mk (below_step (by repeat (first | exact HB.out | (with_reducible first | apply below_alloc | apply pw_below_drewN | apply below_drew1))) hb); have n1_ := Aside0.mk (blk_below BK.out hb); clear HB BK; have HB := n0_; have BK := n1_; clear n0_ n1_; clear hb)))
                          all_goals (go_meet; (case rel => exact ⟨_, rfl, Aside0.mk (by first | rfl | (simp [*]; done) | (simp [bne, *]; done) | (simp_all; done) | (simp [*] at *; omega) | (simp_all; omega)), BK, Aside0.mk (by repeat (first | exact HB.out | (with_reducible first | apply below_alloc | apply pw_below_drewN | apply below_drew1)))⟩))
                      case rest =>
                        clear HB BK
                        obtain ⟨b, rfl, hb5, BK, HB⟩ := hcut
                        obtain ⟨wA6, hwA⟩ : ∃ x, x = wc := ⟨_, rfl⟩
                        subst hwA
                        cases b with
                        | true =>
                          have e : R = 25 := by rw [HR.out, ← hb0.out, ← hb1.out, ← hb2.out, ← hb3.out, ← hb4.out, ← hb5.out]; simp [checkV]
                          subst e
                          as_aux_lemma =>
                            go_wp2
                            go_ret
                            exact ⟨rfl, HB.out⟩
                        | false =>
                          go_upto_region 13 with (fail)
                          (try simp only [Act.put, List.setIfInBounds_toArray, List.set_cons_zero, List.set_cons_succ])
                          go_cut [56] (fun v wc => ∃ b : Bool, v = .bool b ∧ Aside0 (b = (nb && (decide (a21 < 1) || decide (65535 < a21)))) ∧ Aside0 (wc.heap[gb]? = some (.cells #[.int .i64 a0, .int .i64 a1, .bool a2, .int .i64 a3, .string a4, .bool a5, .string a6, .slice A7 l7.length c7, .int .i64 a8, .bool a9, .bool a10, .string a11, .bool a12, .slice A13 l13.length c13, .bool a14, .int .i64 a15, .bool a16, .string a17, .slice A18 l18.length c18, .int .i64 a19, .bool a20, .int .i64 a21, .slice A22 l22.length c22, .slice A23 l23.length c23, .slice A24 l24.length c24] 29 (0, 0))) ∧ Aside0 (Below w.heap.size w wc))
                          case first =>
                            as_aux_lemma =>
                              all_goals (
                                skip
                                have hz21 : wA6.cell? ⟨gb, 21, none⟩ = some (.int .i64 a21) := (blk_cell BK.out 21).trans rfl
                                go_wp2_with (first | ((with_reducible refine gate_dst (N := 57) rfl ?_); refine wpList_load_row rfl 29 (.tmp 1) rfl gb rfl 29 #[.int .i64 a0, .int .i64 a1, .bool a2, .int .i64 a3, .string a4, .bool a5, .string a6, .slice A7 l7.length c7, .int .i64 a8, .bool a9, .bool a10, .string a11, .bool a12, .slice A13 l13.length c13, .bool a14, .int .i64 a15, .bool a16, .string a17, .slice A18 l18.length c18, .int .i64 a19, .bool a20, .int .i64 a21, .slice A22 l22.length c22, .slice A23 l23.length c23, .slice A24 l24.length c24] (0, 0) _ BK.out hu29 rfl (by kernel_rfl) ?_) | (go_at_call 106; (refine (crierref2_numbered.calls a0 a1 a2 a3 a4 a5 a6 A7 c7 l7 a8 a9 a10 a11 a12 A13 c13 l13 a14 a15 a16 a17 A18 c18 l18 a19 a20 a21 A22 c22 l22 A23 c23 l23 A24 c24 l24 nb _ ?s1 HRD.out.k7 ?s2 HRD.out.k13 ?s3 HRD.out.k18 ?s4 HRD.out.k22 ?s5 HRD.out.k23 ?s6 HRD.out.k24 HNB.out).mono ?_); (case s1 => exact Kd.C_below HRD.out.r7 (by repeat (first | exact HB.out | (with_reducible first | apply below_alloc | apply pw_below_drewN | apply below_drew1)))); (case s2 => exact Kd.C_below HRD.out.r13 (by repeat (first | exact HB.out | (with_reducible first | apply below_alloc | apply pw_below_drewN | apply below_drew1)))); (case s3 => exact Kd.C_below HRD.out.r18 (by repeat (first | exact HB.out | (with_reducible first | apply below_alloc | apply pw_below_drewN | apply below_drew1)))); (case s4 => exact Kd.C_below HRD.out.r22 (by repeat (first | exact HB.out | (with_reducible first | apply below_alloc | apply pw_below_drewN | apply below_drew1)))); (case s5 => exact Kd.C_below HRD.out.r23 (by repeat (first | exact HB.out | (with_reducible first | apply below_alloc | apply pw_below_drewN | apply below_drew1)))); (case s6 => exact Kd.C_below HRD.out.r24 (by repeat (first | exact HB.out | (with_reducible first | apply below_alloc | apply pw_below_drewN | apply below_drew1)))); rintro e w9 ⟨rfl, hb⟩; have n0_ := Aside0.mk (below_step (by repeat (first | exact HB.out | (with_reducible first | apply below_alloc | apply pw_below_drewN | apply below_drew1))) hb); have n1_ := Aside0.mk (blk_below BK.out hb); clear HB BK; have HB := n0_; have BK := n1_; clear n0_ n1_; clear hb; have hy21 : w9.cell? ⟨gb, 21, none⟩ = some (.int .i64 a21) := (blk_cell BK.out 21).trans rfl)))
                              all_goals (go_meet; (case rel => exact ⟨_, rfl, Aside0.mk (by first | rfl | (simp [*]; done) | (simp [bne, *]; done) | (simp_all; done) | (simp [*] at *; omega) | (simp_all; omega)), BK, Aside0.mk (by repeat (first | exact HB.out | (with_reducible first | apply below_alloc | apply pw_below_drewN | apply below_drew1)))⟩))
                          case rest =>
                            clear HB BK
                            obtain ⟨b, rfl, hb6, BK, HB⟩ := hcut
                            obtain ⟨wA7, hwA⟩ : ∃ x, x = wc := ⟨_, rfl⟩
                            subst hwA
                            cases b with
                            | true =>
                              have e : R = 26 := by rw [HR.out, ← hb0.out, ← hb1.out, ← hb2.out, ← hb3.out, ← hb4.out, ← hb5.out, ← hb6.out]; simp [checkV]
                              subst e
                              as_aux_lemma =>
                                go_wp2
                                go_ret
                                exact ⟨rfl, HB.out⟩
                            | false =>
                              go_upto_region 15 with (fail)
                              (try simp only [Act.put, List.setIfInBounds_toArray, List.set_cons_zero, List.set_cons_succ])
                              go_cut [69] (fun v wc => ∃ b : Bool, v = .bool b ∧ Aside0 (b = (decide (65535 < (l7.length : Int)) || (decide (65535 < (l13.length : Int)) || decide (268435455 < partV nb (midV a0 a5 a10 a12 a4.size a6.size l7.length a11.size l13.length a17.size l18.length l22 l24 l23.length) 0)))) ∧ Aside0 (wc.heap[gb]? = some (.cells #[.int .i64 a0, .int .i64 a1, .bool a2, .int .i64 a3, .string a4, .bool a5, .string a6, .slice A7 l7.length c7, .int .i64 a8, .bool a9, .bool a10, .string a11, .bool a12, .slice A13 l13.length c13, .bool a14, .int .i64 a15, .bool a16, .string a17, .slice A18 l18.length c18, .int .i64 a19, .bool a20, .int .i64 a21, .slice A22 l22.length c22, .slice A23 l23.length c23, .slice A24 l24.length c24] 29 (0, 0))) ∧ Aside0 (Below w.heap.size w wc))
                              case first =>
                                as_aux_lemma =>
                                  all_goals (by_cases kA : (65535 : Int) < (l7.length : Int)); all_goals (by_cases kB : (65535 : Int) < (l13.length : Int))
                                  all_goals (
                                    skip
                                    have hz7 : wA7.cell? ⟨gb, 7, none⟩ = some (.slice A7 l7.length c7) := (blk_cell BK.out 7).trans rfl
                                    have hz13 : wA7.cell? ⟨gb, 13, none⟩ = some (.slice A13 l13.length c13) := (blk_cell BK.out 13).trans rfl
                                    go_wp2_with (first | ((with_reducible refine gate_dst (N := 82) rfl ?_); refine wpList_load_rowG (by rfl) 29 (.tmp 1) rfl gb rfl 29 #[.int .i64 a0, .int .i64 a1, .bool a2, .int .i64 a3, .string a4, .bool a5, .string a6, .slice A7 l7.length c7, .int .i64 a8, .bool a9, .bool a10, .string a11, .bool a12, .slice A13 l13.length c13, .bool a14, .int .i64 a15, .bool a16, .string a17, .slice A18 l18.length c18, .int .i64 a19, .bool a20, .int .i64 a21, .slice A22 l22.length c22, .slice A23 l23.length c23, .slice A24 l24.length c24] (0, 0) _ BK.out hu29 rfl (by kernel_rfl) ?_) | (go_at_call 107; (refine (rbytes_calls a0 a1 a2 a3 a4 a5 a6 A7 c7 l7 a8 a9 a10 a11 a12 A13 c13 l13 a14 a15 a16 a17 A18 c18 l18 a19 a20 a21 A22 c22 l22 A23 c23 l23 A24 c24 l24 nb _ (HRD.out.below (by repeat (first | exact HB.out | (with_reducible first | apply below_alloc | apply pw_below_drewN | apply below_drew1)))) HNB.out HS.out).mono ?_); rintro e w9 ⟨rfl, hb⟩; have n0_ := Aside0.mk (below_step (by repeat (first | exact HB.out | (with_reducible first | apply below_alloc | apply pw_below_drewN | apply below_drew1))) hb); have n1_ := Aside0.mk (blk_below BK.out hb); clear HB BK; have HB := n0_; have BK := n1_; clear n0_ n1_; clear hb)))
                                  all_goals (go_meet; (case rel => exact ⟨_, rfl, Aside0.mk (by first | rfl | (rw [decide_eq_false (p := (65535 : Int) < (l7.length : Int)) (by omega), decide_eq_false (p := (65535 : Int) < (l13.length : Int)) (by omega)]; rfl) | (simp [*]; done) | (simp [bne, *]; done) | (simp_all; done) | (simp [*] at *; omega) | (simp_all; omega)), BK, Aside0.mk (by repeat (first | exact HB.out | (with_reducible first | apply below_alloc | apply pw_below_drewN | apply below_drew1)))⟩))
                              case rest =>
                                clear HB BK
                                obtain ⟨b, rfl, hb7, BK, HB⟩ := hcut
                                obtain ⟨wA8, hwA⟩ : ∃ x, x = wc := ⟨_, rfl⟩
                                subst hwA
                                cases b with
                                | true =>
                                  have e : R = 27 := by rw [HR.out, ← hb0.out, ← hb1.out, ← hb2.out, ← hb3.out, ← hb4.out, ← hb5.out, ← hb6.out, ← hb7.out]; simp [checkV]
                                  subst e
                                  as_aux_lemma =>
                                    go_wp2
                                    go_ret
                                    exact ⟨rfl, HB.out⟩
                                | false =>
                                  go_upto_region 17 with (fail)
                                  (try simp only [Act.put, List.setIfInBounds_toArray, List.set_cons_zero, List.set_cons_succ])
                                  go_cut [86] (fun v wc => ∃ b : Bool, v = .bool b ∧ Aside0 (b = (((a0 == 8) && ((l22.length : Int) == 0)) || (((a0 == 9) && ((l23.length : Int) == 0)) || ((a0 == 10) && ((l24.length : Int) == 0))))) ∧ Aside0 (wc.heap[gb]? = some (.cells #[.int .i64 a0, .int .i64 a1, .bool a2, .int .i64 a3, .string a4, .bool a5, .string a6, .slice A7 l7.length c7, .int .i64 a8, .bool a9, .bool a10, .string a11, .bool a12, .slice A13 l13.length c13, .bool a14, .int .i64 a15, .bool a16, .string a17, .slice A18 l18.length c18, .int .i64 a19, .bool a20, .int .i64 a21, .slice A22 l22.length c22, .slice A23 l23.length c23, .slice A24 l24.length c24] 29 (0, 0))) ∧ Aside0 (Below w.heap.size w wc))
                                  case first =>
                                    as_aux_lemma =>
                                      all_goals (try (by_cases k8 : a0 = 8))
                                      all_goals (try subst k8)
                                      all_goals (try (by_cases k9 : a0 = 9))
                                      all_goals (try subst k9)
                                      all_goals (try (by_cases k10 : a0 = 10))
                                      all_goals (try subst k10)
                                      all_goals (
                                        skip
                                        have hz0 : wA8.cell? ⟨gb, 0, none⟩ = _ := (blk_cell BK.out 0).trans rfl
                                        have hz22 : wA8.cell? ⟨gb, 22, none⟩ = some (.slice A22 l22.length c22) := (blk_cell BK.out 22).trans rfl
                                        have hz23 : wA8.cell? ⟨gb, 23, none⟩ = some (.slice A23 l23.length c23) := (blk_cell BK.out 23).trans rfl
                                        have hz24 : wA8.cell? ⟨gb, 24, none⟩ = some (.slice A24 l24.length c24) := (blk_cell BK.out 24).trans rfl
                                        go_wp2)
                                      all_goals (go_meet; (case rel => exact ⟨_, rfl, Aside0.mk (by first | rfl | (simp [*]; done) | (simp [bne, *]; done) | (simp_all; done) | (simp [*] at *; omega) | (simp_all; omega)), BK, Aside0.mk (by repeat (first | exact HB.out | (with_reducible first | apply below_alloc | apply pw_below_drewN | apply below_drew1)))⟩))
                                  case rest =>
                                    clear HB BK
                                    obtain ⟨b, rfl, hb8, BK, HB⟩ := hcut
                                    obtain ⟨wA9, hwA⟩ : ∃ x, x = wc := ⟨_, rfl⟩
                                    subst hwA
                                    cases b with
                                    | true =>
                                      have e : R = 28 := by rw [HR.out, ← hb0.out, ← hb1.out, ← hb2.out, ← hb3.out, ← hb4.out, ← hb5.out, ← hb6.out, ← hb7.out, ← hb8.out]; simp [checkV]
                                      subst e
                                      as_aux_lemma =>
                                        go_wp2
                                        go_ret
                                        exact ⟨rfl, HB.out⟩
                                    | false =>
                                      go_upto_region 19 with (fail)
                                      (try simp only [Act.put, List.setIfInBounds_toArray, List.set_cons_zero, List.set_cons_succ])
                                      go_cut [118] (fun v wc => ∃ b : Bool, v = .bool b ∧ Aside0 (b = ((a12 && !a10) || ((a16 && (a19 == 0)) || (a14 && (a15 != 0))))) ∧ Aside0 (wc.heap[gb]? = some (.cells #[.int .i64 a0, .int .i64 a1, .bool a2, .int .i64 a3, .string a4, .bool a5, .string a6, .slice A7 l7.length c7, .int .i64 a8, .bool a9, .bool a10, .string a11, .bool a12, .slice A13 l13.length c13, .bool a14, .int .i64 a15, .bool a16, .string a17, .slice A18 l18.length c18, .int .i64 a19, .bool a20, .int .i64 a21, .slice A22 l22.length c22, .slice A23 l23.length c23, .slice A24 l24.length c24] 29 (0, 0))) ∧ Aside0 (Below w.heap.size w wc))
                                      case first =>
                                        as_aux_lemma =>
                                          all_goals (
                                            skip
                                            have hz10 : wA9.cell? ⟨gb, 10, none⟩ = some (.bool a10) := (blk_cell BK.out 10).trans rfl
                                            have hz12 : wA9.cell? ⟨gb, 12, none⟩ = some (.bool a12) := (blk_cell BK.out 12).trans rfl
                                            have hz14 : wA9.cell? ⟨gb, 14, none⟩ = some (.bool a14) := (blk_cell BK.out 14).trans rfl
                                            have hz15 : wA9.cell? ⟨gb, 15, none⟩ = some (.int .i64 a15) := (blk_cell BK.out 15).trans rfl
                                            have hz16 : wA9.cell? ⟨gb, 16, none⟩ = some (.bool a16) := (blk_cell BK.out 16).trans rfl
                                            have hz19 : wA9.cell? ⟨gb, 19, none⟩ = some (.int .i64 a19) := (blk_cell BK.out 19).trans rfl
                                            go_wp2)
                                          all_goals (go_meet; (case rel => exact ⟨_, rfl, Aside0.mk (by first | rfl | (simp [*]; done) | (simp [bne, *]; done) | (simp_all; done) | (simp [*] at *; omega) | (simp_all; omega)), BK, Aside0.mk (by repeat (first | exact HB.out | (with_reducible first | apply below_alloc | apply pw_below_drewN | apply below_drew1)))⟩))
                                      case rest =>
                                        clear HB BK
                                        obtain ⟨b, rfl, hb9, BK, HB⟩ := hcut
                                        obtain ⟨wA10, hwA⟩ : ∃ x, x = wc := ⟨_, rfl⟩
                                        subst hwA
                                        cases b with
                                        | true =>
                                          have e : R = 29 := by rw [HR.out, ← hb0.out, ← hb1.out, ← hb2.out, ← hb3.out, ← hb4.out, ← hb5.out, ← hb6.out, ← hb7.out, ← hb8.out, ← hb9.out]; simp [checkV]
                                          subst e
                                          as_aux_lemma =>
                                            go_wp2
                                            go_ret
                                            exact ⟨rfl, HB.out⟩
                                        | false =>
                                          have e : R = 0 := by rw [HR.out, ← hb0.out, ← hb1.out, ← hb2.out, ← hb3.out, ← hb4.out, ← hb5.out, ← hb6.out, ← hb7.out, ← hb8.out, ← hb9.out]; simp [checkV]
                                          subst e
                                          go_wp2
                                          go_ret
                                          exact ⟨rfl, HB.out⟩
end Go.Proofs.YtndhkgfeknkfdaaGreatDoor.Pk
