/- packet.foreign: whether a field is set that the packet's kind hasn't. -/
import Derived.Test.YtndhkgfeknkfdaaGreatDoorMPacketChecksx
import Derived.Test.YtndhkgfeknkfdaaGreatDoorFil
import Derived.Test.YtndhkgfeknkfdaaGreatDoorNum
namespace Go.Proofs.YtndhkgfeknkfdaaGreatDoor.Pk
open Go.RowKit Go.Proofs.YtndhkgfeknkfdaaGreatDoor.Giv Go.Proofs.YtndhkgfeknkfdaaGreatDoorW.PrintWords Go.Proofs.YtndhkgfeknkfdaaGreatDoorW.PrintLast Go.Proofs.YtndhkgfeknkfdaaGreatDoorW.PrintMore Go.Proofs.YtndhkgfeknkfdaaGreatDoor.MPacketChecks
set_option linter.unusedVariables false
set_option linter.unusedSimpArgs false
set_option maxHeartbeats 8000000
set_option maxRecDepth 100000
theorem foreign_calls (a0 : Int) (a1 : Int) (a2 : Bool) (a3 : Int) (a4 : ByteArray) (a5 : Bool) (a6 : ByteArray) (A7 : Option Addr) (c7 : Nat) (l7 : List Int) (a8 : Int) (a9 : Bool) (a10 : Bool) (a11 : ByteArray) (a12 : Bool) (A13 : Option Addr) (n13 c13 : Nat) (a14 : Bool) (a15 : Int) (a16 : Bool) (a17 : ByteArray) (A18 : Option Addr) (c18 : Nat) (l18 : List Int) (a19 : Int) (a20 : Bool) (a21 : Int) (A22 : Option Addr) (n22 c22 : Nat) (A23 : Option Addr) (n23 c23 : Nat) (A24 : Option Addr) (n24 c24 : Nat) (h : Int) (m1 m2 R : Bool) (w : World) (hT : HasT w) (h1 : 1 ≤ a0) (h2 : a0 ≤ 14) (hh : h = hasL.getD a0.toNat 0)
    (hr7 : Kd.C (Kd.int .u8) w A7 l7.length l7) (hc7 : l7.length ≤ c7) (hr18 : Kd.C (Kd.int .u8) w A18 l18.length l18) (hc18 : l18.length ≤ c18)
    (hm1 : packet_sameMessage.f a6 l7 a8 a9 ⟨#[]⟩ [] 0 false = some m1) (hm2 : packet_sameMessage.f a17 l18 a19 a20 ⟨#[]⟩ [] 0 false = some m2)
    (hR : R = (((bits BinOp.and IntKind.i64 h 1 == 0) && ((a1 != 0) || (a2 || ((a3 != 0) || ((a4.toList != ([] : List UInt8)) || (a5 || (a10 || a12))))))) || (!a5 && !m1) || (!a10 && (a11.toList != ([] : List UInt8))) || (!a12 && decide (0 < (n13 : Int))) || ((bits BinOp.and IntKind.i64 h 2 == 0) && (a14 || (a15 != 0))) || ((bits BinOp.and IntKind.i64 h 4 == 0) && (a16 || !m2)) || (!numberedV a0 a19 && (a21 != 0)) || ((bits BinOp.and IntKind.i64 h 16 == 0) && decide (0 < (n22 : Int))) || ((bits BinOp.and IntKind.i64 h 32 == 0) && decide (0 < (n23 : Int))) || ((bits BinOp.and IntKind.i64 h 64 == 0) && decide (0 < (n24 : Int))))) :
    Calls Tryz.prog 93 #[.agg #[.int .i64 a0, .int .i64 a1, .bool a2, .int .i64 a3, .string a4, .bool a5, .string a6, .slice A7 l7.length c7, .int .i64 a8, .bool a9, .bool a10, .string a11, .bool a12, .slice A13 n13 c13, .bool a14, .int .i64 a15, .bool a16, .string a17, .slice A18 l18.length c18, .int .i64 a19, .bool a20, .int .i64 a21, .slice A22 n22 c22, .slice A23 n23 c23, .slice A24 n24 c24]] w fun e w' => e = .returned (.bool R) ∧ Below w.heap.size w w' := by
  have hu29 := Tryz.underlying29
  have hu24 := Tryz.underlying24
  have HG := Aside0.mk (show w.cell? ⟨0, a0.toNat, none⟩ = some (.int .i64 h) by rw [hh]; exact hT a0.toNat (by omega))
  have HT := Aside0.mk hT
  have H1 := Aside0.mk h1
  have H2 := Aside0.mk h2
  have HR7 := Aside0.mk hr7
  have HC7 := Aside0.mk hc7
  have HR18 := Aside0.mk hr18
  have HC18 := Aside0.mk hc18
  have HM1 := Aside0.mk hm1
  have HM2 := Aside0.mk hm2
  have HR := Aside0.mk hR
  have p : (0 ≤ a0) = True := eq_true (by omega)
  have q : (a0 < 15) = True := eq_true (by omega)
  clear hT h1 h2 hh hr7 hc7 hr18 hc18 hm1 hm2 hR
  have HB := Aside0.mk (Below.refl w.heap.size w)
  go_enter Tryz.func93, Tryz.ntmps93
  go_upto_region 4 with (first | ((with_reducible refine gate_dst (N := 1) rfl ?_); refine box_event ?hg (N := 1) ?hd (cs := #[.int .i64 a0, .int .i64 a1, .bool a2, .int .i64 a3, .string a4, .bool a5, .string a6, .slice A7 l7.length c7, .int .i64 a8, .bool a9, .bool a10, .string a11, .bool a12, .slice A13 n13 c13, .bool a14, .int .i64 a15, .bool a16, .string a17, .slice A18 l18.length c18, .int .i64 a19, .bool a20, .int .i64 a21, .slice A22 n22 c22, .slice A23 n23 c23, .slice A24 n24 c24]) (t := 29) ?hr ?_; (case hd => rfl); (case hg => rfl); (case hr => first | (go_simp; done) | (go_simp; rfl)); intro gb hg w3 hbox hb; have n0_ := Aside0.mk (below_step (by repeat (first | (with_reducible first | exact HB.out | apply below_alloc | apply pw_below_drewN | apply below_drew1) | exact HB.out)) hb); clear HB; have HB := n0_; clear n0_; have BK := Aside0.mk hbox; have hG : w3.cell? ⟨0, a0.toNat, none⟩ = some (.int .i64 h) := (Below.cell HB.out (p := ⟨0, a0.toNat, none⟩) (Cr_cell_lt HG.out)).trans HG.out; have hz0 : w3.cell? ⟨gb, 0, none⟩ = some (.int .i64 a0) := (blk_cell BK.out 0).trans rfl; clear hb hbox hg) | ((with_reducible refine gate_dst (N := 4) rfl ?_); refine box_event ?hg (N := 4) ?hd (cs := #[.string ⟨#[]⟩, .slice none 0 0, .int .i64 0, .bool false]) (t := 24) ?hr ?_; (case hd => rfl); (case hg => rfl); (case hr => first | (go_simp; done) | (go_simp; rfl)); intro gn hg w4 hbox hb; have n0_ := Aside0.mk (below_step (by repeat (first | (with_reducible first | exact HB.out | apply below_alloc | apply pw_below_drewN | apply below_drew1) | exact HB.out)) hb); have n1_ := Aside0.mk (blk_below BK.out hb); clear HB BK; have HB := n0_; have BK := n1_; clear n0_ n1_; have BN := Aside0.mk hbox; clear hG hz0; clear hb hbox hg))
  (try simp only [Act.put, List.setIfInBounds_toArray, List.set_cons_zero, List.set_cons_succ])
  generalize (Value.agg #[.int .i64 a0, .int .i64 a1, .bool a2, .int .i64 a3, .string a4, .bool a5, .string a6, .slice A7 l7.length c7, .int .i64 a8, .bool a9, .bool a10, .string a11, .bool a12, .slice A13 n13 c13, .bool a14, .int .i64 a15, .bool a16, .string a17, .slice A18 l18.length c18, .int .i64 a19, .bool a20, .int .i64 a21, .slice A22 n22 c22, .slice A23 n23 c23, .slice A24 n24 c24]) = v0
  clear p q
  go_cut [9] (fun v wc => ∃ b : Bool, v = .bool b ∧ Aside0 (b = ((bits BinOp.and IntKind.i64 h 1 == 0) && ((a1 != 0) || (a2 || ((a3 != 0) || ((a4.toList != ([] : List UInt8)) || (a5 || (a10 || a12)))))))) ∧ Aside0 (wc.heap[gb]? = some (.cells #[.int .i64 a0, .int .i64 a1, .bool a2, .int .i64 a3, .string a4, .bool a5, .string a6, .slice A7 l7.length c7, .int .i64 a8, .bool a9, .bool a10, .string a11, .bool a12, .slice A13 n13 c13, .bool a14, .int .i64 a15, .bool a16, .string a17, .slice A18 l18.length c18, .int .i64 a19, .bool a20, .int .i64 a21, .slice A22 n22 c22, .slice A23 n23 c23, .slice A24 n24 c24] 29 (0, 0))) ∧ Aside0 (wc.heap[gn]? = some (.cells #[.string ⟨#[]⟩, .slice none 0 0, .int .i64 0, .bool false] 24 (0, 0))) ∧ Aside0 (Below w.heap.size w wc))
  case first =>
    as_aux_lemma =>
      have hz1 : w4.cell? ⟨gb, 1, none⟩ = some (.int .i64 a1) := (blk_cell BK.out 1).trans rfl
      have hz2 : w4.cell? ⟨gb, 2, none⟩ = some (.bool a2) := (blk_cell BK.out 2).trans rfl
      have hz3 : w4.cell? ⟨gb, 3, none⟩ = some (.int .i64 a3) := (blk_cell BK.out 3).trans rfl
      have hz4 : w4.cell? ⟨gb, 4, none⟩ = some (.string a4) := (blk_cell BK.out 4).trans rfl
      have hz5 : w4.cell? ⟨gb, 5, none⟩ = some (.bool a5) := (blk_cell BK.out 5).trans rfl
      have hz10 : w4.cell? ⟨gb, 10, none⟩ = some (.bool a10) := (blk_cell BK.out 10).trans rfl
      have hz12 : w4.cell? ⟨gb, 12, none⟩ = some (.bool a12) := (blk_cell BK.out 12).trans rfl
      go_wp2
      all_goals (go_meet; (case rel => exact ⟨_, rfl, Aside0.mk (by first | (simp [*]; done) | (generalize a11.toList = z_ at *; cases z_ <;> simp_all; done) | (simp_all; done)), by first | exact BK | exact Aside0.mk (blk_drewN BK.out _), by first | exact BN | exact Aside0.mk (blk_drewN BN.out _), Aside0.mk (by repeat (first | (with_reducible first | exact HB.out | apply below_alloc | apply pw_below_drewN | apply below_drew1) | exact HB.out))⟩))
  case rest =>
    clear HB BK BN
    obtain ⟨b, rfl, hb0, BK, BN, HB⟩ := hcut
    obtain ⟨wA1, hwA⟩ : ∃ x, x = wc := ⟨_, rfl⟩
    subst hwA
    cases b with
    | true =>
      have e : R = true := by rw [HR.out, ← hb0.out]; simp
      subst e
      as_aux_lemma =>
        go_wp2
        go_ret
        exact ⟨rfl, by repeat (first | (with_reducible first | exact HB.out | apply below_alloc | apply pw_below_drewN | apply below_drew1) | exact HB.out)⟩
    | false =>
      go_upto_region 5 with (fail)
      (try simp only [Act.put, List.setIfInBounds_toArray, List.set_cons_zero, List.set_cons_succ])
      go_cut [44] (fun v wc => ∃ b : Bool, v = .bool b ∧ Aside0 (b = (!a5 && !m1)) ∧ Aside0 (wc.heap[gb]? = some (.cells #[.int .i64 a0, .int .i64 a1, .bool a2, .int .i64 a3, .string a4, .bool a5, .string a6, .slice A7 l7.length c7, .int .i64 a8, .bool a9, .bool a10, .string a11, .bool a12, .slice A13 n13 c13, .bool a14, .int .i64 a15, .bool a16, .string a17, .slice A18 l18.length c18, .int .i64 a19, .bool a20, .int .i64 a21, .slice A22 n22 c22, .slice A23 n23 c23, .slice A24 n24 c24] 29 (0, 0))) ∧ Aside0 (wc.heap[gn]? = some (.cells #[.string ⟨#[]⟩, .slice none 0 0, .int .i64 0, .bool false] 24 (0, 0))) ∧ Aside0 (Below w.heap.size w wc))
      case first =>
        as_aux_lemma =>
          have hz5 : wA1.cell? ⟨gb, 5, none⟩ = some (.bool a5) := (blk_cell BK.out 5).trans rfl
          have hz6 : wA1.cell? ⟨gb, 6, none⟩ = some (.string a6) := (blk_cell BK.out 6).trans rfl
          have hz7 : wA1.cell? ⟨gb, 7, none⟩ = some (.slice A7 l7.length c7) := (blk_cell BK.out 7).trans rfl
          have hz8 : wA1.cell? ⟨gb, 8, none⟩ = some (.int .i64 a8) := (blk_cell BK.out 8).trans rfl
          have hz9 : wA1.cell? ⟨gb, 9, none⟩ = some (.bool a9) := (blk_cell BK.out 9).trans rfl
          have hn0 : wA1.cell? ⟨gn, 0, none⟩ = some (.string ⟨#[]⟩) := (blk_cell BN.out 0).trans rfl
          have hn1 : wA1.cell? ⟨gn, 1, none⟩ = some (.slice none 0 0) := (blk_cell BN.out 1).trans rfl
          have hn2 : wA1.cell? ⟨gn, 2, none⟩ = some (.int .i64 0) := (blk_cell BN.out 2).trans rfl
          have hn3 : wA1.cell? ⟨gn, 3, none⟩ = some (.bool false) := (blk_cell BN.out 3).trans rfl
          go_wp2_with (first | (go_at_call 52; (refine (packet_sameMessage.calls a6 A7 c7 l7 a8 a9 ⟨#[]⟩ none 0 [] 0 false m1 _ ?s1 ?s2 ?s3 ?s4 HM1.out).mono ?_); (case s1 => exact Kd.C_below HR7.out (by repeat (first | (with_reducible first | exact HB.out | apply below_alloc | apply pw_below_drewN | apply below_drew1) | exact HB.out))); (case s2 => exact HC7.out); (case s3 => exact Kd.C_nil _ _); (case s4 => exact Nat.le_refl _); rintro e w9 ⟨rfl, hb⟩; have n0_ := Aside0.mk (below_step (by repeat (first | (with_reducible first | exact HB.out | apply below_alloc | apply pw_below_drewN | apply below_drew1) | exact HB.out)) hb); have n1_ := Aside0.mk (blk_below (by first | exact BK.out | exact blk_drewN BK.out _) hb); have n2_ := Aside0.mk (blk_below (by first | exact BN.out | exact blk_drewN BN.out _) hb); clear HB BK BN; have HB := n0_; have BK := n1_; have BN := n2_; clear n0_ n1_ n2_; clear hb))
          all_goals (go_meet; (case rel => exact ⟨_, rfl, Aside0.mk (by first | (simp [*]; done) | (generalize a11.toList = z_ at *; cases z_ <;> simp_all; done) | (simp_all; done)), by first | exact BK | exact Aside0.mk (blk_drewN BK.out _), by first | exact BN | exact Aside0.mk (blk_drewN BN.out _), Aside0.mk (by repeat (first | (with_reducible first | exact HB.out | apply below_alloc | apply pw_below_drewN | apply below_drew1) | exact HB.out))⟩))
      case rest =>
        clear HB BK BN
        obtain ⟨b, rfl, hb1, BK, BN, HB⟩ := hcut
        obtain ⟨wA2, hwA⟩ : ∃ x, x = wc := ⟨_, rfl⟩
        subst hwA
        cases b with
        | true =>
          have e : R = true := by rw [HR.out, ← hb0.out, ← hb1.out]; simp
          subst e
          as_aux_lemma =>
            go_wp2
            go_ret
            exact ⟨rfl, by repeat (first | (with_reducible first | exact HB.out | apply below_alloc | apply pw_below_drewN | apply below_drew1) | exact HB.out)⟩
        | false =>
          go_upto_region 6 with (fail)
          (try simp only [Act.put, List.setIfInBounds_toArray, List.set_cons_zero, List.set_cons_succ])
          go_cut [55] (fun v wc => ∃ b : Bool, v = .bool b ∧ Aside0 (b = (!a10 && (a11.toList != ([] : List UInt8)))) ∧ Aside0 (wc.heap[gb]? = some (.cells #[.int .i64 a0, .int .i64 a1, .bool a2, .int .i64 a3, .string a4, .bool a5, .string a6, .slice A7 l7.length c7, .int .i64 a8, .bool a9, .bool a10, .string a11, .bool a12, .slice A13 n13 c13, .bool a14, .int .i64 a15, .bool a16, .string a17, .slice A18 l18.length c18, .int .i64 a19, .bool a20, .int .i64 a21, .slice A22 n22 c22, .slice A23 n23 c23, .slice A24 n24 c24] 29 (0, 0))) ∧ Aside0 (wc.heap[gn]? = some (.cells #[.string ⟨#[]⟩, .slice none 0 0, .int .i64 0, .bool false] 24 (0, 0))) ∧ Aside0 (Below w.heap.size w wc))
          case first =>
            as_aux_lemma =>
              have hz10 : wA2.cell? ⟨gb, 10, none⟩ = some (.bool a10) := (blk_cell BK.out 10).trans rfl
              have hz11 : wA2.cell? ⟨gb, 11, none⟩ = some (.string a11) := (blk_cell BK.out 11).trans rfl
              go_wp2
              all_goals (go_meet; (case rel => exact ⟨_, rfl, Aside0.mk (by first | (simp [*]; done) | (generalize a11.toList = z_ at *; cases z_ <;> simp_all; done) | (simp_all; done)), by first | exact BK | exact Aside0.mk (blk_drewN BK.out _), by first | exact BN | exact Aside0.mk (blk_drewN BN.out _), Aside0.mk (by repeat (first | (with_reducible first | exact HB.out | apply below_alloc | apply pw_below_drewN | apply below_drew1) | exact HB.out))⟩))
          case rest =>
            clear HB BK BN
            obtain ⟨b, rfl, hb2, BK, BN, HB⟩ := hcut
            obtain ⟨wA3, hwA⟩ : ∃ x, x = wc := ⟨_, rfl⟩
            subst hwA
            cases b with
            | true =>
              have e : R = true := by rw [HR.out, ← hb0.out, ← hb1.out, ← hb2.out]; simp
              subst e
              as_aux_lemma =>
                go_wp2
                go_ret
                exact ⟨rfl, by repeat (first | (with_reducible first | exact HB.out | apply below_alloc | apply pw_below_drewN | apply below_drew1) | exact HB.out)⟩
            | false =>
              go_upto_region 7 with (fail)
              (try simp only [Act.put, List.setIfInBounds_toArray, List.set_cons_zero, List.set_cons_succ])
              go_cut [64] (fun v wc => ∃ b : Bool, v = .bool b ∧ Aside0 (b = (!a12 && decide (0 < (n13 : Int)))) ∧ Aside0 (wc.heap[gb]? = some (.cells #[.int .i64 a0, .int .i64 a1, .bool a2, .int .i64 a3, .string a4, .bool a5, .string a6, .slice A7 l7.length c7, .int .i64 a8, .bool a9, .bool a10, .string a11, .bool a12, .slice A13 n13 c13, .bool a14, .int .i64 a15, .bool a16, .string a17, .slice A18 l18.length c18, .int .i64 a19, .bool a20, .int .i64 a21, .slice A22 n22 c22, .slice A23 n23 c23, .slice A24 n24 c24] 29 (0, 0))) ∧ Aside0 (wc.heap[gn]? = some (.cells #[.string ⟨#[]⟩, .slice none 0 0, .int .i64 0, .bool false] 24 (0, 0))) ∧ Aside0 (Below w.heap.size w wc))
              case first =>
                as_aux_lemma =>
                  have hz12 : wA3.cell? ⟨gb, 12, none⟩ = some (.bool a12) := (blk_cell BK.out 12).trans rfl
                  have hz13 : wA3.cell? ⟨gb, 13, none⟩ = some (.slice A13 n13 c13) := (blk_cell BK.out 13).trans rfl
                  go_wp2
                  all_goals (go_meet; (case rel => exact ⟨_, rfl, Aside0.mk (by first | (simp [*]; done) | (generalize a11.toList = z_ at *; cases z_ <;> simp_all; done) | (simp_all; done)), by first | exact BK | exact Aside0.mk (blk_drewN BK.out _), by first | exact BN | exact Aside0.mk (blk_drewN BN.out _), Aside0.mk (by repeat (first | (with_reducible first | exact HB.out | apply below_alloc | apply pw_below_drewN | apply below_drew1) | exact HB.out))⟩))
              case rest =>
                clear HB BK BN
                obtain ⟨b, rfl, hb3, BK, BN, HB⟩ := hcut
                obtain ⟨wA4, hwA⟩ : ∃ x, x = wc := ⟨_, rfl⟩
                subst hwA
                cases b with
                | true =>
                  have e : R = true := by rw [HR.out, ← hb0.out, ← hb1.out, ← hb2.out, ← hb3.out]; simp
                  subst e
                  as_aux_lemma =>
                    go_wp2
                    go_ret
                    exact ⟨rfl, by repeat (first | (with_reducible first | exact HB.out | apply below_alloc | apply pw_below_drewN | apply below_drew1) | exact HB.out)⟩
                | false =>
                  go_upto_region 8 with (fail)
                  (try simp only [Act.put, List.setIfInBounds_toArray, List.set_cons_zero, List.set_cons_succ])
                  go_cut [74] (fun v wc => ∃ b : Bool, v = .bool b ∧ Aside0 (b = ((bits BinOp.and IntKind.i64 h 2 == 0) && (a14 || (a15 != 0)))) ∧ Aside0 (wc.heap[gb]? = some (.cells #[.int .i64 a0, .int .i64 a1, .bool a2, .int .i64 a3, .string a4, .bool a5, .string a6, .slice A7 l7.length c7, .int .i64 a8, .bool a9, .bool a10, .string a11, .bool a12, .slice A13 n13 c13, .bool a14, .int .i64 a15, .bool a16, .string a17, .slice A18 l18.length c18, .int .i64 a19, .bool a20, .int .i64 a21, .slice A22 n22 c22, .slice A23 n23 c23, .slice A24 n24 c24] 29 (0, 0))) ∧ Aside0 (wc.heap[gn]? = some (.cells #[.string ⟨#[]⟩, .slice none 0 0, .int .i64 0, .bool false] 24 (0, 0))) ∧ Aside0 (Below w.heap.size w wc))
                  case first =>
                    as_aux_lemma =>
                      have hz14 : wA4.cell? ⟨gb, 14, none⟩ = some (.bool a14) := (blk_cell BK.out 14).trans rfl
                      have hz15 : wA4.cell? ⟨gb, 15, none⟩ = some (.int .i64 a15) := (blk_cell BK.out 15).trans rfl
                      go_wp2
                      all_goals (go_meet; (case rel => exact ⟨_, rfl, Aside0.mk (by first | (simp [*]; done) | (generalize a11.toList = z_ at *; cases z_ <;> simp_all; done) | (simp_all; done)), by first | exact BK | exact Aside0.mk (blk_drewN BK.out _), by first | exact BN | exact Aside0.mk (blk_drewN BN.out _), Aside0.mk (by repeat (first | (with_reducible first | exact HB.out | apply below_alloc | apply pw_below_drewN | apply below_drew1) | exact HB.out))⟩))
                  case rest =>
                    clear HB BK BN
                    obtain ⟨b, rfl, hb4, BK, BN, HB⟩ := hcut
                    obtain ⟨wA5, hwA⟩ : ∃ x, x = wc := ⟨_, rfl⟩
                    subst hwA
                    cases b with
                    | true =>
                      have e : R = true := by rw [HR.out, ← hb0.out, ← hb1.out, ← hb2.out, ← hb3.out, ← hb4.out]; simp
                      subst e
                      as_aux_lemma =>
                        go_wp2
                        go_ret
                        exact ⟨rfl, by repeat (first | (with_reducible first | exact HB.out | apply below_alloc | apply pw_below_drewN | apply below_drew1) | exact HB.out)⟩
                    | false =>
                      go_upto_region 9 with (fail)
                      (try simp only [Act.put, List.setIfInBounds_toArray, List.set_cons_zero, List.set_cons_succ])
                      go_cut [87] (fun v wc => ∃ b : Bool, v = .bool b ∧ Aside0 (b = ((bits BinOp.and IntKind.i64 h 4 == 0) && (a16 || !m2))) ∧ Aside0 (wc.heap[gb]? = some (.cells #[.int .i64 a0, .int .i64 a1, .bool a2, .int .i64 a3, .string a4, .bool a5, .string a6, .slice A7 l7.length c7, .int .i64 a8, .bool a9, .bool a10, .string a11, .bool a12, .slice A13 n13 c13, .bool a14, .int .i64 a15, .bool a16, .string a17, .slice A18 l18.length c18, .int .i64 a19, .bool a20, .int .i64 a21, .slice A22 n22 c22, .slice A23 n23 c23, .slice A24 n24 c24] 29 (0, 0))) ∧ Aside0 (wc.heap[gn]? = some (.cells #[.string ⟨#[]⟩, .slice none 0 0, .int .i64 0, .bool false] 24 (0, 0))) ∧ Aside0 (Below w.heap.size w wc))
                      case first =>
                        as_aux_lemma =>
                          have hz16 : wA5.cell? ⟨gb, 16, none⟩ = some (.bool a16) := (blk_cell BK.out 16).trans rfl
                          have hz17 : wA5.cell? ⟨gb, 17, none⟩ = some (.string a17) := (blk_cell BK.out 17).trans rfl
                          have hz18 : wA5.cell? ⟨gb, 18, none⟩ = some (.slice A18 l18.length c18) := (blk_cell BK.out 18).trans rfl
                          have hz19 : wA5.cell? ⟨gb, 19, none⟩ = some (.int .i64 a19) := (blk_cell BK.out 19).trans rfl
                          have hz20 : wA5.cell? ⟨gb, 20, none⟩ = some (.bool a20) := (blk_cell BK.out 20).trans rfl
                          have hn0 : wA5.cell? ⟨gn, 0, none⟩ = some (.string ⟨#[]⟩) := (blk_cell BN.out 0).trans rfl
                          have hn1 : wA5.cell? ⟨gn, 1, none⟩ = some (.slice none 0 0) := (blk_cell BN.out 1).trans rfl
                          have hn2 : wA5.cell? ⟨gn, 2, none⟩ = some (.int .i64 0) := (blk_cell BN.out 2).trans rfl
                          have hn3 : wA5.cell? ⟨gn, 3, none⟩ = some (.bool false) := (blk_cell BN.out 3).trans rfl
                          go_wp2_with (first | (go_at_call 52; (refine (packet_sameMessage.calls a17 A18 c18 l18 a19 a20 ⟨#[]⟩ none 0 [] 0 false m2 _ ?s1 ?s2 ?s3 ?s4 HM2.out).mono ?_); (case s1 => exact Kd.C_below HR18.out (by repeat (first | (with_reducible first | exact HB.out | apply below_alloc | apply pw_below_drewN | apply below_drew1) | exact HB.out))); (case s2 => exact HC18.out); (case s3 => exact Kd.C_nil _ _); (case s4 => exact Nat.le_refl _); rintro e w9 ⟨rfl, hb⟩; have n0_ := Aside0.mk (below_step (by repeat (first | (with_reducible first | exact HB.out | apply below_alloc | apply pw_below_drewN | apply below_drew1) | exact HB.out)) hb); have n1_ := Aside0.mk (blk_below (by first | exact BK.out | exact blk_drewN BK.out _) hb); have n2_ := Aside0.mk (blk_below (by first | exact BN.out | exact blk_drewN BN.out _) hb); clear HB BK BN; have HB := n0_; have BK := n1_; have BN := n2_; clear n0_ n1_ n2_; clear hb))
                          all_goals (go_meet; (case rel => exact ⟨_, rfl, Aside0.mk (by first | (simp [*]; done) | (generalize a11.toList = z_ at *; cases z_ <;> simp_all; done) | (simp_all; done)), by first | exact BK | exact Aside0.mk (blk_drewN BK.out _), by first | exact BN | exact Aside0.mk (blk_drewN BN.out _), Aside0.mk (by repeat (first | (with_reducible first | exact HB.out | apply below_alloc | apply pw_below_drewN | apply below_drew1) | exact HB.out))⟩))
                      case rest =>
                        clear HB BK BN
                        obtain ⟨b, rfl, hb5, BK, BN, HB⟩ := hcut
                        obtain ⟨wA6, hwA⟩ : ∃ x, x = wc := ⟨_, rfl⟩
                        subst hwA
                        cases b with
                        | true =>
                          have e : R = true := by rw [HR.out, ← hb0.out, ← hb1.out, ← hb2.out, ← hb3.out, ← hb4.out, ← hb5.out]; simp
                          subst e
                          as_aux_lemma =>
                            go_wp2
                            go_ret
                            exact ⟨rfl, by repeat (first | (with_reducible first | exact HB.out | apply below_alloc | apply pw_below_drewN | apply below_drew1) | exact HB.out)⟩
                        | false =>
                          go_upto_region 10 with (fail)
                          (try simp only [Act.put, List.setIfInBounds_toArray, List.set_cons_zero, List.set_cons_succ])
                          go_cut [102] (fun v wc => ∃ b : Bool, v = .bool b ∧ Aside0 (b = (!numberedV a0 a19 && (a21 != 0))) ∧ Aside0 (wc.heap[gb]? = some (.cells #[.int .i64 a0, .int .i64 a1, .bool a2, .int .i64 a3, .string a4, .bool a5, .string a6, .slice A7 l7.length c7, .int .i64 a8, .bool a9, .bool a10, .string a11, .bool a12, .slice A13 n13 c13, .bool a14, .int .i64 a15, .bool a16, .string a17, .slice A18 l18.length c18, .int .i64 a19, .bool a20, .int .i64 a21, .slice A22 n22 c22, .slice A23 n23 c23, .slice A24 n24 c24] 29 (0, 0))) ∧ Aside0 (wc.heap[gn]? = some (.cells #[.string ⟨#[]⟩, .slice none 0 0, .int .i64 0, .bool false] 24 (0, 0))) ∧ Aside0 (Below w.heap.size w wc))
                          case first =>
                            as_aux_lemma =>
                              go_wp2_with (first | ((with_reducible refine gate_dst (N := 103) rfl ?_); refine wpList_load_row rfl 29 (.tmp 1) rfl gb rfl 29 #[.int .i64 a0, .int .i64 a1, .bool a2, .int .i64 a3, .string a4, .bool a5, .string a6, .slice A7 l7.length c7, .int .i64 a8, .bool a9, .bool a10, .string a11, .bool a12, .slice A13 n13 c13, .bool a14, .int .i64 a15, .bool a16, .string a17, .slice A18 l18.length c18, .int .i64 a19, .bool a20, .int .i64 a21, .slice A22 n22 c22, .slice A23 n23 c23, .slice A24 n24 c24] (0, 0) _ BK.out hu29 rfl (by kernel_rfl) ?_) | (go_at_call 98; (with_reducible refine (numbered_calls a0 a1 a2 a3 a4 a5 a6 A7 l7.length c7 a8 a9 a10 a11 a12 A13 n13 c13 a14 a15 a16 a17 A18 l18.length c18 a19 a20 a21 A22 n22 c22 A23 n23 c23 A24 n24 c24 _ (HT.out.below (by repeat (first | (with_reducible first | exact HB.out | apply below_alloc | apply pw_below_drewN | apply below_drew1) | exact HB.out))) H1.out H2.out).mono ?_); rintro e w9 ⟨rfl, hb⟩; have n0_ := Aside0.mk (below_step (by repeat (first | (with_reducible first | exact HB.out | apply below_alloc | apply pw_below_drewN | apply below_drew1) | exact HB.out)) hb); have n1_ := Aside0.mk (blk_below (by first | exact BK.out | exact blk_drewN BK.out _) hb); have n2_ := Aside0.mk (blk_below (by first | exact BN.out | exact blk_drewN BN.out _) hb); clear HB BK BN; have HB := n0_; have BK := n1_; have BN := n2_; clear n0_ n1_ n2_; clear hb; have hy21 : w9.cell? ⟨gb, 21, none⟩ = some (.int .i64 a21) := (blk_cell BK.out 21).trans rfl))
                              all_goals (go_meet; (case rel => exact ⟨_, rfl, Aside0.mk (by first | (simp [*]; done) | (generalize a11.toList = z_ at *; cases z_ <;> simp_all; done) | (simp_all; done)), by first | exact BK | exact Aside0.mk (blk_drewN BK.out _), by first | exact BN | exact Aside0.mk (blk_drewN BN.out _), Aside0.mk (by repeat (first | (with_reducible first | exact HB.out | apply below_alloc | apply pw_below_drewN | apply below_drew1) | exact HB.out))⟩))
                          case rest =>
                            clear HB BK BN
                            obtain ⟨b, rfl, hb6, BK, BN, HB⟩ := hcut
                            obtain ⟨wA7, hwA⟩ : ∃ x, x = wc := ⟨_, rfl⟩
                            subst hwA
                            cases b with
                            | true =>
                              have e : R = true := by rw [HR.out, ← hb0.out, ← hb1.out, ← hb2.out, ← hb3.out, ← hb4.out, ← hb5.out, ← hb6.out]; simp
                              subst e
                              as_aux_lemma =>
                                go_wp2
                                go_ret
                                exact ⟨rfl, by repeat (first | (with_reducible first | exact HB.out | apply below_alloc | apply pw_below_drewN | apply below_drew1) | exact HB.out)⟩
                            | false =>
                              go_upto_region 11 with (fail)
                              (try simp only [Act.put, List.setIfInBounds_toArray, List.set_cons_zero, List.set_cons_succ])
                              go_cut [111] (fun v wc => ∃ b : Bool, v = .bool b ∧ Aside0 (b = ((bits BinOp.and IntKind.i64 h 16 == 0) && decide (0 < (n22 : Int)))) ∧ Aside0 (wc.heap[gb]? = some (.cells #[.int .i64 a0, .int .i64 a1, .bool a2, .int .i64 a3, .string a4, .bool a5, .string a6, .slice A7 l7.length c7, .int .i64 a8, .bool a9, .bool a10, .string a11, .bool a12, .slice A13 n13 c13, .bool a14, .int .i64 a15, .bool a16, .string a17, .slice A18 l18.length c18, .int .i64 a19, .bool a20, .int .i64 a21, .slice A22 n22 c22, .slice A23 n23 c23, .slice A24 n24 c24] 29 (0, 0))) ∧ Aside0 (wc.heap[gn]? = some (.cells #[.string ⟨#[]⟩, .slice none 0 0, .int .i64 0, .bool false] 24 (0, 0))) ∧ Aside0 (Below w.heap.size w wc))
                              case first =>
                                as_aux_lemma =>
                                  have hz22 : wA7.cell? ⟨gb, 22, none⟩ = some (.slice A22 n22 c22) := (blk_cell BK.out 22).trans rfl
                                  go_wp2
                                  all_goals (go_meet; (case rel => exact ⟨_, rfl, Aside0.mk (by first | (simp [*]; done) | (generalize a11.toList = z_ at *; cases z_ <;> simp_all; done) | (simp_all; done)), by first | exact BK | exact Aside0.mk (blk_drewN BK.out _), by first | exact BN | exact Aside0.mk (blk_drewN BN.out _), Aside0.mk (by repeat (first | (with_reducible first | exact HB.out | apply below_alloc | apply pw_below_drewN | apply below_drew1) | exact HB.out))⟩))
                              case rest =>
                                clear HB BK BN
                                obtain ⟨b, rfl, hb7, BK, BN, HB⟩ := hcut
                                obtain ⟨wA8, hwA⟩ : ∃ x, x = wc := ⟨_, rfl⟩
                                subst hwA
                                cases b with
                                | true =>
                                  have e : R = true := by rw [HR.out, ← hb0.out, ← hb1.out, ← hb2.out, ← hb3.out, ← hb4.out, ← hb5.out, ← hb6.out, ← hb7.out]; simp
                                  subst e
                                  as_aux_lemma =>
                                    go_wp2
                                    go_ret
                                    exact ⟨rfl, by repeat (first | (with_reducible first | exact HB.out | apply below_alloc | apply pw_below_drewN | apply below_drew1) | exact HB.out)⟩
                                | false =>
                                  go_upto_region 12 with (fail)
                                  (try simp only [Act.put, List.setIfInBounds_toArray, List.set_cons_zero, List.set_cons_succ])
                                  go_cut [121] (fun v wc => ∃ b : Bool, v = .bool b ∧ Aside0 (b = ((bits BinOp.and IntKind.i64 h 32 == 0) && decide (0 < (n23 : Int)))) ∧ Aside0 (wc.heap[gb]? = some (.cells #[.int .i64 a0, .int .i64 a1, .bool a2, .int .i64 a3, .string a4, .bool a5, .string a6, .slice A7 l7.length c7, .int .i64 a8, .bool a9, .bool a10, .string a11, .bool a12, .slice A13 n13 c13, .bool a14, .int .i64 a15, .bool a16, .string a17, .slice A18 l18.length c18, .int .i64 a19, .bool a20, .int .i64 a21, .slice A22 n22 c22, .slice A23 n23 c23, .slice A24 n24 c24] 29 (0, 0))) ∧ Aside0 (wc.heap[gn]? = some (.cells #[.string ⟨#[]⟩, .slice none 0 0, .int .i64 0, .bool false] 24 (0, 0))) ∧ Aside0 (Below w.heap.size w wc))
                                  case first =>
                                    as_aux_lemma =>
                                      have hz23 : wA8.cell? ⟨gb, 23, none⟩ = some (.slice A23 n23 c23) := (blk_cell BK.out 23).trans rfl
                                      go_wp2
                                      all_goals (go_meet; (case rel => exact ⟨_, rfl, Aside0.mk (by first | (simp [*]; done) | (generalize a11.toList = z_ at *; cases z_ <;> simp_all; done) | (simp_all; done)), by first | exact BK | exact Aside0.mk (blk_drewN BK.out _), by first | exact BN | exact Aside0.mk (blk_drewN BN.out _), Aside0.mk (by repeat (first | (with_reducible first | exact HB.out | apply below_alloc | apply pw_below_drewN | apply below_drew1) | exact HB.out))⟩))
                                  case rest =>
                                    clear HB BK BN
                                    obtain ⟨b, rfl, hb8, BK, BN, HB⟩ := hcut
                                    obtain ⟨wA9, hwA⟩ : ∃ x, x = wc := ⟨_, rfl⟩
                                    subst hwA
                                    cases b with
                                    | true =>
                                      have e : R = true := by rw [HR.out, ← hb0.out, ← hb1.out, ← hb2.out, ← hb3.out, ← hb4.out, ← hb5.out, ← hb6.out, ← hb7.out, ← hb8.out]; simp
                                      subst e
                                      as_aux_lemma =>
                                        go_wp2
                                        go_ret
                                        exact ⟨rfl, by repeat (first | (with_reducible first | exact HB.out | apply below_alloc | apply pw_below_drewN | apply below_drew1) | exact HB.out)⟩
                                    | false =>
                                      go_upto_region 13 with (fail)
                                      (try simp only [Act.put, List.setIfInBounds_toArray, List.set_cons_zero, List.set_cons_succ])
                                      go_cut [131] (fun v wc => ∃ b : Bool, v = .bool b ∧ Aside0 (b = ((bits BinOp.and IntKind.i64 h 64 == 0) && decide (0 < (n24 : Int)))) ∧ Aside0 (wc.heap[gb]? = some (.cells #[.int .i64 a0, .int .i64 a1, .bool a2, .int .i64 a3, .string a4, .bool a5, .string a6, .slice A7 l7.length c7, .int .i64 a8, .bool a9, .bool a10, .string a11, .bool a12, .slice A13 n13 c13, .bool a14, .int .i64 a15, .bool a16, .string a17, .slice A18 l18.length c18, .int .i64 a19, .bool a20, .int .i64 a21, .slice A22 n22 c22, .slice A23 n23 c23, .slice A24 n24 c24] 29 (0, 0))) ∧ Aside0 (wc.heap[gn]? = some (.cells #[.string ⟨#[]⟩, .slice none 0 0, .int .i64 0, .bool false] 24 (0, 0))) ∧ Aside0 (Below w.heap.size w wc))
                                      case first =>
                                        as_aux_lemma =>
                                          have hz24 : wA9.cell? ⟨gb, 24, none⟩ = some (.slice A24 n24 c24) := (blk_cell BK.out 24).trans rfl
                                          go_wp2
                                          all_goals (go_meet; (case rel => exact ⟨_, rfl, Aside0.mk (by first | (simp [*]; done) | (generalize a11.toList = z_ at *; cases z_ <;> simp_all; done) | (simp_all; done)), by first | exact BK | exact Aside0.mk (blk_drewN BK.out _), by first | exact BN | exact Aside0.mk (blk_drewN BN.out _), Aside0.mk (by repeat (first | (with_reducible first | exact HB.out | apply below_alloc | apply pw_below_drewN | apply below_drew1) | exact HB.out))⟩))
                                      case rest =>
                                        clear HB BK BN
                                        obtain ⟨b, rfl, hb9, BK, BN, HB⟩ := hcut
                                        obtain ⟨wA10, hwA⟩ : ∃ x, x = wc := ⟨_, rfl⟩
                                        subst hwA
                                        cases b with
                                        | true =>
                                          have e : R = true := by rw [HR.out, ← hb0.out, ← hb1.out, ← hb2.out, ← hb3.out, ← hb4.out, ← hb5.out, ← hb6.out, ← hb7.out, ← hb8.out, ← hb9.out]; simp
                                          subst e
                                          as_aux_lemma =>
                                            go_wp2
                                            go_ret
                                            exact ⟨rfl, by repeat (first | (with_reducible first | exact HB.out | apply below_alloc | apply pw_below_drewN | apply below_drew1) | exact HB.out)⟩
                                        | false =>
                                          have e : R = false := by rw [HR.out, ← hb0.out, ← hb1.out, ← hb2.out, ← hb3.out, ← hb4.out, ← hb5.out, ← hb6.out, ← hb7.out, ← hb8.out, ← hb9.out]; rfl
                                          subst e
                                          go_wp2
                                          go_ret
                                          exact ⟨rfl, by repeat (first | (with_reducible first | exact HB.out | apply below_alloc | apply pw_below_drewN | apply below_drew1) | exact HB.out)⟩
end Go.Proofs.YtndhkgfeknkfdaaGreatDoor.Pk
