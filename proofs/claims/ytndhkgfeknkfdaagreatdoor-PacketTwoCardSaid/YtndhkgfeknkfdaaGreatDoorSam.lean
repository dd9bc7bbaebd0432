/- packet.Same: whether two packets are alike in all that they hold. -/
import Derived.Test.YtndhkgfeknkfdaaGreatDoorPk0
import Derived.Test.YtndhkgfeknkfdaaGreatDoorEqs
import Derived.Deep.MidRow
namespace Go.Proofs.YtndhkgfeknkfdaaGreatDoor.Pk
open Go.RowKit Go.Proofs.YtndhkgfeknkfdaaGreatDoorW.PrintWords Go.Proofs.YtndhkgfeknkfdaaGreatDoorW.PrintLast Go.Proofs.YtndhkgfeknkfdaaGreatDoorW.PrintMore Go.Proofs.YtndhkgfeknkfdaaGreatDoor.MPacketChecks
open Go.Proofs.YtndhkgfeknkfdaaGreatDoorW.PrintWords.Aside0 renaming mk → am
set_option linter.unusedVariables false
set_option linter.unusedSimpArgs false
set_option maxHeartbeats 4000000
set_option maxRecDepth 100000
theorem wpList_load_midG {P : Program} {ops : Array Oper} {rest : List Oper} {op : Oper} {a : Act} {w : World} {Q : Exit → Act → World → Prop} (hw : Region.wanted op (yielded ops a.tmps) = true) (ty : TypeId) (x : Operand) (ho : op.op = .load ty x)
  (b o : Nat) (hx : a.eval x = .pointer (some ⟨b, o, none⟩)) (cs : List Value) (d : TypeDesc) (hc : w.rangeAt b o cs)
  (hu : P.underlying ty = some d) (hd : d.isRow = true) (hi : (P.info? ty).map (·.size) = some cs.length)
  (h : wpList P ops Q rest (a.put op.dst (.agg cs.toArray)) w) : wpList P ops Q (op :: rest) a w :=
 wpList_step fun K hK => by rw [if_pos hw]; exact wp_load_mid ty x ho b o hx cs d hc hu hd hi (hK _ _ h)
theorem rangeAt_sub {w : World} {g : Nat} {cs : Array Value} {t : TypeId} {fr : Nat × Nat} (h : w.heap[g]? = some (.cells cs t fr)) (o n : Nat) : w.rangeAt g o ((cs.toList.drop o).take n) := fun j v hv => by
 rw [cell_of_row w g (o + j) cs t fr h]
 rw [List.getElem?_take] at hv
 by_cases hj : j < n
 ·rw [if_pos hj, List.getElem?_drop] at hv
  simpa using hv
 ·rw [if_neg hj] at hv
  cases hv
theorem Same_calls (a0 : Int) (a1 : Int) (a2 : Bool) (a3 : Int) (a4 : ByteArray) (a5 : Bool) (a6 : ByteArray) (A7 : Option Addr) (c7 : Nat) (l7 : List Int) (a8 : Int) (a9 : Bool) (a10 : Bool) (a11 : ByteArray) (a12 : Bool) (A13 : Option Addr) (c13 : Nat) (l13 : List Int) (a14 : Bool) (a15 : Int) (a16 : Bool) (a17 : ByteArray) (A18 : Option Addr) (c18 : Nat) (l18 : List Int) (a19 : Int) (a20 : Bool) (a21 : Int) (A22 : Option Addr) (c22 : Nat) (l22 : List S82) (A23 : Option Addr) (c23 : Nat) (l23 : List Int) (A24 : Option Addr) (c24 : Nat) (l24 : List ByteArray) (qa0 : Int) (qa1 : Int) (qa2 : Bool) (qa3 : Int) (qa4 : ByteArray) (qa5 : Bool) (qa6 : ByteArray) (qA7 : Option Addr) (qc7 : Nat) (ql7 : List Int) (qa8 : Int) (qa9 : Bool) (qa10 : Bool) (qa11 : ByteArray) (qa12 : Bool) (qA13 : Option Addr) (qc13 : Nat) (ql13 : List Int) (qa14 : Bool) (qa15 : Int) (qa16 : Bool) (qa17 : ByteArray) (qA18 : Option Addr) (qc18 : Nat) (ql18 : List Int) (qa19 : Int) (qa20 : Bool) (qa21 : Int) (qA22 : Option Addr) (qc22 : Nat) (ql22 : List S82) (qA23 : Option Addr) (qc23 : Nat) (ql23 : List Int) (qA24 : Option Addr) (qc24 : Nat) (ql24 : List ByteArray) (kA kI kT : Nat) (rW rM rA rI rT R : Bool) (w : World) (hP : Rd w A7 c7 l7 A13 c13 l13 A18 c18 l18 A22 c22 l22 A23 c23 l23 A24 c24 l24) (hQ : Rd w qA7 qc7 ql7 qA13 qc13 ql13 qA18 qc18 ql18 qA22 qc22 ql22 qA23 qc23 ql23 qA24 qc24 ql24)
  (hW : packet_sameMessage.f a6 l7 a8 a9 qa6 ql7 qa8 qa9 = some rW) (hM : packet_sameMessage.f a17 l18 a19 a20 qa17 ql18 qa19 qa20 = some rM)
  (hA : RPacketRight.api_Ask_53.f kA l22 ql22 = some rA) (hI : RPacketRight.slices_Equal_int_int.f kI l23 ql23 = some rI) (hT : RPacketRight.slices_Equal_string_string.f kT l24 ql24 = some rT)
  (hR : R = (!((a0 != qa0) || ((a1 != qa1) || ((a2 != qa2) || ((a3 != qa3) || ((a4.toList != qa4.toList) || ((a14 != qa14) || ((a15 != qa15) || ((a16 != qa16) || (a21 != qa21))))))))) && (!((a5 != qa5) || ((a10 != qa10) || ((a12 != qa12) || ((a11.toList != qa11.toList) || !((strOfNums l13).toList == (strOfNums ql13).toList))))) && (rW && (rM && (rA && (rI && rT))))))) :
  Calls Tryz.prog 10 #[.agg #[.int .i64 a0, .int .i64 a1, .bool a2, .int .i64 a3, .string a4, .bool a5, .string a6, .slice A7 l7.length c7, .int .i64 a8, .bool a9, .bool a10, .string a11, .bool a12, .slice A13 l13.length c13, .bool a14, .int .i64 a15, .bool a16, .string a17, .slice A18 l18.length c18, .int .i64 a19, .bool a20, .int .i64 a21, .slice A22 l22.length c22, .slice A23 l23.length c23, .slice A24 l24.length c24], .agg #[.int .i64 qa0, .int .i64 qa1, .bool qa2, .int .i64 qa3, .string qa4, .bool qa5, .string qa6, .slice qA7 ql7.length qc7, .int .i64 qa8, .bool qa9, .bool qa10, .string qa11, .bool qa12, .slice qA13 ql13.length qc13, .bool qa14, .int .i64 qa15, .bool qa16, .string qa17, .slice qA18 ql18.length qc18, .int .i64 qa19, .bool qa20, .int .i64 qa21, .slice qA22 ql22.length qc22, .slice qA23 ql23.length qc23, .slice qA24 ql24.length qc24]] w fun e w' => e = .returned (.bool R) ∧ Below w.heap.size w w' := by
 have hu29 := Tryz.underlying29
 have hu24 := Tryz.underlying24
 have HP := am hP
 have HQ := am hQ
 have HW := am hW
 have HM := am hM
 have HA_ := am hA
 have HI := am hI
 have HTT := am hT
 have HR := am hR
 clear hP hQ hW hM hA hI hT hR
 have HB := am (Below.refl w.heap.size w)
 go_enter Tryz.func10, Tryz.ntmps10
 go_upto_region 1 with (first | ((with_reducible refine gate_dst (N := 2) rfl ?_); refine box_event ?hg2 (N := 2) ?hd2 (cs := #[.int .i64 a0, .int .i64 a1, .bool a2, .int .i64 a3, .string a4, .bool a5, .string a6, .slice A7 l7.length c7, .int .i64 a8, .bool a9, .bool a10, .string a11, .bool a12, .slice A13 l13.length c13, .bool a14, .int .i64 a15, .bool a16, .string a17, .slice A18 l18.length c18, .int .i64 a19, .bool a20, .int .i64 a21, .slice A22 l22.length c22, .slice A23 l23.length c23, .slice A24 l24.length c24]) (t := 29) ?hr2 ?_; (case hd2 => rfl); (case hg2 => rfl); (case hr2 => first | (go_simp; done) | (go_simp; rfl)); intro gb hg w3 hbox hb; have BK := am hbox; have n0_ := am (below_step HB.out hb); clear HB; have HB := n0_; clear n0_ hbox hg hb) | ((with_reducible refine gate_dst (N := 3) rfl ?_); refine box_event ?hg3 (N := 3) ?hd3 (cs := #[.int .i64 qa0, .int .i64 qa1, .bool qa2, .int .i64 qa3, .string qa4, .bool qa5, .string qa6, .slice qA7 ql7.length qc7, .int .i64 qa8, .bool qa9, .bool qa10, .string qa11, .bool qa12, .slice qA13 ql13.length qc13, .bool qa14, .int .i64 qa15, .bool qa16, .string qa17, .slice qA18 ql18.length qc18, .int .i64 qa19, .bool qa20, .int .i64 qa21, .slice qA22 ql22.length qc22, .slice qA23 ql23.length qc23, .slice qA24 ql24.length qc24]) (t := 29) ?hr3 ?_; (case hd3 => rfl); (case hg3 => rfl); (case hr3 => first | (go_simp; done) | (go_simp; rfl)); intro gq hg w4 hbox hb; have BQ := am hbox; have n0_ := am (below_step HB.out hb); have n1_ := am (blk_below BK.out hb); clear HB BK; have HB := n0_; have BK := n1_; clear n0_ n1_ hbox hg hb))
 try simp only [Act.put, List.setIfInBounds_toArray, List.set_cons_zero, List.set_cons_succ]
 generalize (Value.agg #[.int .i64 a0, .int .i64 a1, .bool a2, .int .i64 a3, .string a4, .bool a5, .string a6, .slice A7 l7.length c7, .int .i64 a8, .bool a9, .bool a10, .string a11, .bool a12, .slice A13 l13.length c13, .bool a14, .int .i64 a15, .bool a16, .string a17, .slice A18 l18.length c18, .int .i64 a19, .bool a20, .int .i64 a21, .slice A22 l22.length c22, .slice A23 l23.length c23, .slice A24 l24.length c24]) = v0
 generalize (Value.agg #[.int .i64 qa0, .int .i64 qa1, .bool qa2, .int .i64 qa3, .string qa4, .bool qa5, .string qa6, .slice qA7 ql7.length qc7, .int .i64 qa8, .bool qa9, .bool qa10, .string qa11, .bool qa12, .slice qA13 ql13.length qc13, .bool qa14, .int .i64 qa15, .bool qa16, .string qa17, .slice qA18 ql18.length qc18, .int .i64 qa19, .bool qa20, .int .i64 qa21, .slice qA22 ql22.length qc22, .slice qA23 ql23.length qc23, .slice qA24 ql24.length qc24]) = v1
 go_cut [65] (fun v wc => ∃ b : Bool, v = .bool b ∧ Aside0 (b = ((a0 != qa0) || ((a1 != qa1) || ((a2 != qa2) || ((a3 != qa3) || ((a4.toList != qa4.toList) || ((a14 != qa14) || ((a15 != qa15) || ((a16 != qa16) || (a21 != qa21)))))))))) ∧ Aside0 (wc.heap[gb]? = some (.cells #[.int .i64 a0, .int .i64 a1, .bool a2, .int .i64 a3, .string a4, .bool a5, .string a6, .slice A7 l7.length c7, .int .i64 a8, .bool a9, .bool a10, .string a11, .bool a12, .slice A13 l13.length c13, .bool a14, .int .i64 a15, .bool a16, .string a17, .slice A18 l18.length c18, .int .i64 a19, .bool a20, .int .i64 a21, .slice A22 l22.length c22, .slice A23 l23.length c23, .slice A24 l24.length c24] 29 (0, 0))) ∧ Aside0 (wc.heap[gq]? = some (.cells #[.int .i64 qa0, .int .i64 qa1, .bool qa2, .int .i64 qa3, .string qa4, .bool qa5, .string qa6, .slice qA7 ql7.length qc7, .int .i64 qa8, .bool qa9, .bool qa10, .string qa11, .bool qa12, .slice qA13 ql13.length qc13, .bool qa14, .int .i64 qa15, .bool qa16, .string qa17, .slice qA18 ql18.length qc18, .int .i64 qa19, .bool qa20, .int .i64 qa21, .slice qA22 ql22.length qc22, .slice qA23 ql23.length qc23, .slice qA24 ql24.length qc24] 29 (0, 0))) ∧ Aside0 (Below w.heap.size w wc))
 case first =>
  as_aux_lemma =>
   have hz0 : w4.cell? ⟨gb, 0, none⟩ = some (.int .i64 a0) := (blk_cell BK.out 0).trans rfl
   have hy0 : w4.cell? ⟨gq, 0, none⟩ = some (.int .i64 qa0) := (blk_cell BQ.out 0).trans rfl
   have hz1 : w4.cell? ⟨gb, 1, none⟩ = some (.int .i64 a1) := (blk_cell BK.out 1).trans rfl
   have hy1 : w4.cell? ⟨gq, 1, none⟩ = some (.int .i64 qa1) := (blk_cell BQ.out 1).trans rfl
   have hz2 : w4.cell? ⟨gb, 2, none⟩ = some (.bool a2) := (blk_cell BK.out 2).trans rfl
   have hy2 : w4.cell? ⟨gq, 2, none⟩ = some (.bool qa2) := (blk_cell BQ.out 2).trans rfl
   have hz3 : w4.cell? ⟨gb, 3, none⟩ = some (.int .i64 a3) := (blk_cell BK.out 3).trans rfl
   have hy3 : w4.cell? ⟨gq, 3, none⟩ = some (.int .i64 qa3) := (blk_cell BQ.out 3).trans rfl
   have hz4 : w4.cell? ⟨gb, 4, none⟩ = some (.string a4) := (blk_cell BK.out 4).trans rfl
   have hy4 : w4.cell? ⟨gq, 4, none⟩ = some (.string qa4) := (blk_cell BQ.out 4).trans rfl
   have hz14 : w4.cell? ⟨gb, 14, none⟩ = some (.bool a14) := (blk_cell BK.out 14).trans rfl
   have hy14 : w4.cell? ⟨gq, 14, none⟩ = some (.bool qa14) := (blk_cell BQ.out 14).trans rfl
   have hz15 : w4.cell? ⟨gb, 15, none⟩ = some (.int .i64 a15) := (blk_cell BK.out 15).trans rfl
   have hy15 : w4.cell? ⟨gq, 15, none⟩ = some (.int .i64 qa15) := (blk_cell BQ.out 15).trans rfl
   have hz16 : w4.cell? ⟨gb, 16, none⟩ = some (.bool a16) := (blk_cell BK.out 16).trans rfl
   have hy16 : w4.cell? ⟨gq, 16, none⟩ = some (.bool qa16) := (blk_cell BQ.out 16).trans rfl
   have hz21 : w4.cell? ⟨gb, 21, none⟩ = some (.int .i64 a21) := (blk_cell BK.out 21).trans rfl
   have hy21 : w4.cell? ⟨gq, 21, none⟩ = some (.int .i64 qa21) := (blk_cell BQ.out 21).trans rfl
   go_wp2_with (fail)
   all_goals (go_meet; (case rel => exact ⟨_, rfl, am (by first | (simp [*]; done) | (simp_all; done)), by first | exact BK | exact am (blk_drewN BK.out _), by first | exact BQ | exact am (blk_drewN BQ.out _), am (by repeat (first | exact HB.out | (with_reducible first | apply below_alloc | apply pw_below_drewN | apply below_drew1)))⟩))
 case rest =>
  clear HB BK BQ
  obtain ⟨b, rfl, hb65, BK, BQ, HB⟩ := hcut
  obtain ⟨wA1, hwA⟩ : ∃ x, x = wc := ⟨_, rfl⟩
  subst hwA
  cases b with
  | true =>
   have e : R = false := by rw [HR.out, ← hb65.out]; simp
   subst e
   as_aux_lemma =>
    go_wp2
    go_ret
    exact ⟨rfl, (by repeat (first | exact HB.out | (with_reducible first | apply below_alloc | apply pw_below_drewN | apply below_drew1)))⟩
  | false =>
   go_upto_region 3 with (fail)
   go_cut [99] (fun v wc => ∃ b : Bool, v = .bool b ∧ Aside0 (b = ((a5 != qa5) || ((a10 != qa10) || ((a12 != qa12) || ((a11.toList != qa11.toList) || !((strOfNums l13).toList == (strOfNums ql13).toList)))))) ∧ Aside0 (wc.heap[gb]? = some (.cells #[.int .i64 a0, .int .i64 a1, .bool a2, .int .i64 a3, .string a4, .bool a5, .string a6, .slice A7 l7.length c7, .int .i64 a8, .bool a9, .bool a10, .string a11, .bool a12, .slice A13 l13.length c13, .bool a14, .int .i64 a15, .bool a16, .string a17, .slice A18 l18.length c18, .int .i64 a19, .bool a20, .int .i64 a21, .slice A22 l22.length c22, .slice A23 l23.length c23, .slice A24 l24.length c24] 29 (0, 0))) ∧ Aside0 (wc.heap[gq]? = some (.cells #[.int .i64 qa0, .int .i64 qa1, .bool qa2, .int .i64 qa3, .string qa4, .bool qa5, .string qa6, .slice qA7 ql7.length qc7, .int .i64 qa8, .bool qa9, .bool qa10, .string qa11, .bool qa12, .slice qA13 ql13.length qc13, .bool qa14, .int .i64 qa15, .bool qa16, .string qa17, .slice qA18 ql18.length qc18, .int .i64 qa19, .bool qa20, .int .i64 qa21, .slice qA22 ql22.length qc22, .slice qA23 ql23.length qc23, .slice qA24 ql24.length qc24] 29 (0, 0))) ∧ Aside0 (Below w.heap.size w wc))
   case first =>
    as_aux_lemma =>
     have hz5 : wA1.cell? ⟨gb, 5, none⟩ = some (.bool a5) := (blk_cell BK.out 5).trans rfl
     have hy5 : wA1.cell? ⟨gq, 5, none⟩ = some (.bool qa5) := (blk_cell BQ.out 5).trans rfl
     have hz10 : wA1.cell? ⟨gb, 10, none⟩ = some (.bool a10) := (blk_cell BK.out 10).trans rfl
     have hy10 : wA1.cell? ⟨gq, 10, none⟩ = some (.bool qa10) := (blk_cell BQ.out 10).trans rfl
     have hz11 : wA1.cell? ⟨gb, 11, none⟩ = some (.string a11) := (blk_cell BK.out 11).trans rfl
     have hy11 : wA1.cell? ⟨gq, 11, none⟩ = some (.string qa11) := (blk_cell BQ.out 11).trans rfl
     have hz12 : wA1.cell? ⟨gb, 12, none⟩ = some (.bool a12) := (blk_cell BK.out 12).trans rfl
     have hy12 : wA1.cell? ⟨gq, 12, none⟩ = some (.bool qa12) := (blk_cell BQ.out 12).trans rfl
     have hz13 : wA1.cell? ⟨gb, 13, none⟩ = some (.slice A13 l13.length c13) := (blk_cell BK.out 13).trans rfl
     have hy13 : wA1.cell? ⟨gq, 13, none⟩ = some (.slice qA13 ql13.length qc13) := (blk_cell BQ.out 13).trans rfl
     go_wp2_with ((go_at_call 51; refine (bytes_Equal.calls A13 c13 l13 qA13 qc13 ql13 _ _ ?s1 ?s2 ?s3 ?s4 rfl).mono ?_; (case s1 => exact Kd.C_below HP.out.r13 (by repeat (first | exact HB.out | (with_reducible first | apply below_alloc | apply pw_below_drewN | apply below_drew1)))); (case s2 => exact HP.out.k13); (case s3 => exact Kd.C_below HQ.out.r13 (by repeat (first | exact HB.out | (with_reducible first | apply below_alloc | apply pw_below_drewN | apply below_drew1)))); (case s4 => exact HQ.out.k13); rintro e w9 ⟨rfl, ⟨nd, rfl⟩⟩))
     all_goals (go_meet; (case rel => exact ⟨_, rfl, am (by first | (simp [*]; done) | (simp_all; done)), by first | exact BK | exact am (blk_drewN BK.out _), by first | exact BQ | exact am (blk_drewN BQ.out _), am (by repeat (first | exact HB.out | (with_reducible first | apply below_alloc | apply pw_below_drewN | apply below_drew1)))⟩))
   case rest =>
    clear HB BK BQ
    obtain ⟨b, rfl, hb99, BK, BQ, HB⟩ := hcut
    obtain ⟨wA2, hwA⟩ : ∃ x, x = wc := ⟨_, rfl⟩
    subst hwA
    cases b with
    | true =>
     have e : R = false := by rw [HR.out, ← hb99.out]; simp
     subst e
     as_aux_lemma =>
      go_wp2
      go_ret
      exact ⟨rfl, (by repeat (first | exact HB.out | (with_reducible first | apply below_alloc | apply pw_below_drewN | apply below_drew1)))⟩
    | false =>
     have e : R = (rW && (rM && (rA && (rI && rT)))) := by rw [HR.out, ← hb65.out, ← hb99.out]; rfl
     subst e
     go_wp2_with (first | ((with_reducible refine gate_dst (N := 101) rfl ?_); refine wpList_load_midG (by rfl) 24 (.tmp 100) rfl gb 6 rfl [.string a6, .slice A7 l7.length c7, .int .i64 a8, .bool a9] _ (rangeAt_sub (by first | exact BK.out | exact blk_drewN BK.out _ | exact blk_drew BK.out) 6 4) hu24 rfl (by kernel_rfl) ?_) | ((with_reducible refine gate_dst (N := 103) rfl ?_); refine wpList_load_midG (by rfl) 24 (.tmp 102) rfl gq 6 rfl [.string qa6, .slice qA7 ql7.length qc7, .int .i64 qa8, .bool qa9] _ (rangeAt_sub (by first | exact BQ.out | exact blk_drewN BQ.out _ | exact blk_drew BQ.out) 6 4) hu24 rfl (by kernel_rfl) ?_) | ((with_reducible refine gate_dst (N := 107) rfl ?_); refine wpList_load_midG (by rfl) 24 (.tmp 106) rfl gb 17 rfl [.string a17, .slice A18 l18.length c18, .int .i64 a19, .bool a20] _ (rangeAt_sub (by first | exact BK.out | exact blk_drewN BK.out _ | exact blk_drew BK.out) 17 4) hu24 rfl (by kernel_rfl) ?_) | ((with_reducible refine gate_dst (N := 109) rfl ?_); refine wpList_load_midG (by rfl) 24 (.tmp 108) rfl gq 17 rfl [.string qa17, .slice qA18 ql18.length qc18, .int .i64 qa19, .bool qa20] _ (rangeAt_sub (by first | exact BQ.out | exact blk_drewN BQ.out _ | exact blk_drew BQ.out) 17 4) hu24 rfl (by kernel_rfl) ?_) | (go_at_call 52; (with_reducible refine (packet_sameMessage.calls a6 A7 c7 l7 a8 a9 qa6 qA7 qc7 ql7 qa8 qa9 rW _ ?t11 ?t12 ?t13 ?t14 HW.out).mono ?_); (case t11 => exact Kd.C_below HP.out.r7 (by repeat (first | exact HB.out | (with_reducible first | apply below_alloc | apply pw_below_drewN | apply below_drew1)))); (case t12 => exact HP.out.k7); (case t13 => exact Kd.C_below HQ.out.r7 (by repeat (first | exact HB.out | (with_reducible first | apply below_alloc | apply pw_below_drewN | apply below_drew1)))); (case t14 => exact HQ.out.k7); rintro e w9 ⟨rfl, hb⟩; have n0_ := am (below_step (by repeat (first | exact HB.out | (with_reducible first | apply below_alloc | apply pw_below_drewN | apply below_drew1))) hb); have n1_ := am (blk_below (by first | exact BK.out | exact blk_drewN BK.out _ | exact blk_drew BK.out) hb); have n2_ := am (blk_below (by first | exact BQ.out | exact blk_drewN BQ.out _ | exact blk_drew BQ.out) hb); clear HB BK BQ; have HB := n0_; have BK := n1_; have BQ := n2_; clear n0_ n1_ n2_ hb; have hz22 : w9.cell? ⟨gb, 22, none⟩ = some (.slice A22 l22.length c22) := (blk_cell BK.out 22).trans rfl; have hy22 : w9.cell? ⟨gq, 22, none⟩ = some (.slice qA22 ql22.length qc22) := (blk_cell BQ.out 22).trans rfl; have hz23 : w9.cell? ⟨gb, 23, none⟩ = some (.slice A23 l23.length c23) := (blk_cell BK.out 23).trans rfl; have hy23 : w9.cell? ⟨gq, 23, none⟩ = some (.slice qA23 ql23.length qc23) := (blk_cell BQ.out 23).trans rfl; have hz24 : w9.cell? ⟨gb, 24, none⟩ = some (.slice A24 l24.length c24) := (blk_cell BK.out 24).trans rfl; have hy24 : w9.cell? ⟨gq, 24, none⟩ = some (.slice qA24 ql24.length qc24) := (blk_cell BQ.out 24).trans rfl) | (go_at_call 52; (with_reducible refine (packet_sameMessage.calls a17 A18 c18 l18 a19 a20 qa17 qA18 qc18 ql18 qa19 qa20 rM _ ?t21 ?t22 ?t23 ?t24 HM.out).mono ?_); (case t21 => exact Kd.C_below HP.out.r18 (by repeat (first | exact HB.out | (with_reducible first | apply below_alloc | apply pw_below_drewN | apply below_drew1)))); (case t22 => exact HP.out.k18); (case t23 => exact Kd.C_below HQ.out.r18 (by repeat (first | exact HB.out | (with_reducible first | apply below_alloc | apply pw_below_drewN | apply below_drew1)))); (case t24 => exact HQ.out.k18); rintro e w9 ⟨rfl, hb⟩; have n0_ := am (below_step (by repeat (first | exact HB.out | (with_reducible first | apply below_alloc | apply pw_below_drewN | apply below_drew1))) hb); have n1_ := am (blk_below (by first | exact BK.out | exact blk_drewN BK.out _ | exact blk_drew BK.out) hb); have n2_ := am (blk_below (by first | exact BQ.out | exact blk_drewN BQ.out _ | exact blk_drew BQ.out) hb); clear HB BK BQ; have HB := n0_; have BK := n1_; have BQ := n2_; clear n0_ n1_ n2_ hb; have hz22 : w9.cell? ⟨gb, 22, none⟩ = some (.slice A22 l22.length c22) := (blk_cell BK.out 22).trans rfl; have hy22 : w9.cell? ⟨gq, 22, none⟩ = some (.slice qA22 ql22.length qc22) := (blk_cell BQ.out 22).trans rfl; have hz23 : w9.cell? ⟨gb, 23, none⟩ = some (.slice A23 l23.length c23) := (blk_cell BK.out 23).trans rfl; have hy23 : w9.cell? ⟨gq, 23, none⟩ = some (.slice qA23 ql23.length qc23) := (blk_cell BQ.out 23).trans rfl; have hz24 : w9.cell? ⟨gb, 24, none⟩ = some (.slice A24 l24.length c24) := (blk_cell BK.out 24).trans rfl; have hy24 : w9.cell? ⟨gq, 24, none⟩ = some (.slice qA24 ql24.length qc24) := (blk_cell BQ.out 24).trans rfl) | (go_at_call 53; (with_reducible refine (RPacketRight.api_Ask_53.calls kA A22 c22 l22 qA22 qc22 ql22 rA _ ?t31 ?t32 ?t33 ?t34 HA_.out).mono ?_); (case t31 => exact Kd.C_below HP.out.r22 (by repeat (first | exact HB.out | (with_reducible first | apply below_alloc | apply pw_below_drewN | apply below_drew1)))); (case t32 => exact HP.out.k22); (case t33 => exact Kd.C_below HQ.out.r22 (by repeat (first | exact HB.out | (with_reducible first | apply below_alloc | apply pw_below_drewN | apply below_drew1)))); (case t34 => exact HQ.out.k22); rintro e w9 ⟨rfl, ⟨nd, rfl⟩⟩) | (go_at_call 54; (with_reducible refine (RPacketRight.slices_Equal_int_int.calls kI A23 c23 l23 qA23 qc23 ql23 rI _ ?t41 ?t42 ?t43 ?t44 HI.out).mono ?_); (case t41 => exact Kd.C_below HP.out.r23 (by repeat (first | exact HB.out | (with_reducible first | apply below_alloc | apply pw_below_drewN | apply below_drew1)))); (case t42 => exact HP.out.k23); (case t43 => exact Kd.C_below HQ.out.r23 (by repeat (first | exact HB.out | (with_reducible first | apply below_alloc | apply pw_below_drewN | apply below_drew1)))); (case t44 => exact HQ.out.k23); rintro e w9 ⟨rfl, ⟨nd, rfl⟩⟩) | (go_at_call 55; (with_reducible refine (RPacketRight.slices_Equal_string_string.calls kT A24 c24 l24 qA24 qc24 ql24 rT _ ?t51 ?t52 ?t53 ?t54 HTT.out).mono ?_); (case t51 => exact Kd.C_below HP.out.r24 (by repeat (first | exact HB.out | (with_reducible first | apply below_alloc | apply pw_below_drewN | apply below_drew1)))); (case t52 => exact HP.out.k24); (case t53 => exact Kd.C_below HQ.out.r24 (by repeat (first | exact HB.out | (with_reducible first | apply below_alloc | apply pw_below_drewN | apply below_drew1)))); (case t54 => exact HQ.out.k24); rintro e w9 ⟨rfl, ⟨nd, rfl⟩⟩))
     all_goals (go_ret; exact ⟨by first | rfl | (simp [*]; done) | (simp_all; done), (by repeat (first | exact HB.out | (with_reducible first | apply below_alloc | apply pw_below_drewN | apply below_drew1)))⟩)
end Go.Proofs.YtndhkgfeknkfdaaGreatDoor.Pk
/- packet.Same tells whether two packets are alike. -/
namespace Go.Proofs.YtndhkgfeknkfdaaGreatDoor.Pk
open Go.RowKit Go.Proofs.YtndhkgfeknkfdaaGreatDoorW.PrintWords Go.Proofs.YtndhkgfeknkfdaaGreatDoorW.PrintLast Go.Proofs.YtndhkgfeknkfdaaGreatDoorW.PrintMore Go.Proofs.YtndhkgfeknkfdaaGreatDoor.MPacketChecks
set_option linter.unusedVariables false
set_option linter.unusedSimpArgs false
set_option maxHeartbeats 2000000
set_option maxRecDepth 100000
theorem sum_lists {p : P} (h : p.sum ≤ 4294967280) : (p.l22.length : Int) ≤ 4611686018427387904 ∧ (p.l23.length : Int) ≤ 4611686018427387904 ∧ (p.l24.length : Int) ≤ 4611686018427387904 := by
 have h1 := sumA_len p.l22
 have h2 := sumT_len p.l24
 unfold P.sum at h
 omega
theorem Same_P (a0 : Int) (a1 : Int) (a2 : Bool) (a3 : Int) (a4 : ByteArray) (a5 : Bool) (a6 : ByteArray) (A7 : Option Addr) (c7 : Nat) (l7 : List Int) (a8 : Int) (a9 : Bool) (a10 : Bool) (a11 : ByteArray) (a12 : Bool) (A13 : Option Addr) (c13 : Nat) (l13 : List Int) (a14 : Bool) (a15 : Int) (a16 : Bool) (a17 : ByteArray) (A18 : Option Addr) (c18 : Nat) (l18 : List Int) (a19 : Int) (a20 : Bool) (a21 : Int) (A22 : Option Addr) (c22 : Nat) (l22 : List S82) (A23 : Option Addr) (c23 : Nat) (l23 : List Int) (A24 : Option Addr) (c24 : Nat) (l24 : List ByteArray) (qa0 : Int) (qa1 : Int) (qa2 : Bool) (qa3 : Int) (qa4 : ByteArray) (qa5 : Bool) (qa6 : ByteArray) (qA7 : Option Addr) (qc7 : Nat) (ql7 : List Int) (qa8 : Int) (qa9 : Bool) (qa10 : Bool) (qa11 : ByteArray) (qa12 : Bool) (qA13 : Option Addr) (qc13 : Nat) (ql13 : List Int) (qa14 : Bool) (qa15 : Int) (qa16 : Bool) (qa17 : ByteArray) (qA18 : Option Addr) (qc18 : Nat) (ql18 : List Int) (qa19 : Int) (qa20 : Bool) (qa21 : Int) (qA22 : Option Addr) (qc22 : Nat) (ql22 : List S82) (qA23 : Option Addr) (qc23 : Nat) (ql23 : List Int) (qA24 : Option Addr) (qc24 : Nat) (ql24 : List ByteArray) (R : Bool) (w : World) (hP : Rd w A7 c7 l7 A13 c13 l13 A18 c18 l18 A22 c22 l22 A23 c23 l23 A24 c24 l24) (hQ : Rd w qA7 qc7 ql7 qA13 qc13 ql13 qA18 qc18 ql18 qA22 qc22 ql22 qA23 qc23 ql23 qA24 qc24 ql24) (hs : P.sum ⟨a0, a1, a2, a3, a4, a5, a6, l7, a8, a9, a10, a11, a12, l13, a14, a15, a16, a17, l18, a19, a20, a21, l22, l23, l24⟩ ≤ 4294967280) (hR : R = true ↔ Alike ⟨a0, a1, a2, a3, a4, a5, a6, l7, a8, a9, a10, a11, a12, l13, a14, a15, a16, a17, l18, a19, a20, a21, l22, l23, l24⟩ ⟨qa0, qa1, qa2, qa3, qa4, qa5, qa6, ql7, qa8, qa9, qa10, qa11, qa12, ql13, qa14, qa15, qa16, qa17, ql18, qa19, qa20, qa21, ql22, ql23, ql24⟩) :
  Calls Tryz.prog 10 #[.agg #[.int .i64 a0, .int .i64 a1, .bool a2, .int .i64 a3, .string a4, .bool a5, .string a6, .slice A7 l7.length c7, .int .i64 a8, .bool a9, .bool a10, .string a11, .bool a12, .slice A13 l13.length c13, .bool a14, .int .i64 a15, .bool a16, .string a17, .slice A18 l18.length c18, .int .i64 a19, .bool a20, .int .i64 a21, .slice A22 l22.length c22, .slice A23 l23.length c23, .slice A24 l24.length c24], .agg #[.int .i64 qa0, .int .i64 qa1, .bool qa2, .int .i64 qa3, .string qa4, .bool qa5, .string qa6, .slice qA7 ql7.length qc7, .int .i64 qa8, .bool qa9, .bool qa10, .string qa11, .bool qa12, .slice qA13 ql13.length qc13, .bool qa14, .int .i64 qa15, .bool qa16, .string qa17, .slice qA18 ql18.length qc18, .int .i64 qa19, .bool qa20, .int .i64 qa21, .slice qA22 ql22.length qc22, .slice qA23 ql23.length qc23, .slice qA24 ql24.length qc24]] w fun e w' => e = .returned (.bool R) ∧ Below w.heap.size w w' := by
 have hl := sum_lists hs
 obtain ⟨kA, rA, hA, xA⟩ := asks_eq l22 ql22 hl.1
 obtain ⟨kI, rI, hI, xI⟩ := ints_eq l23 ql23 hl.2.1
 obtain ⟨kT, rT, hT, xT⟩ := texts_eq l24 ql24 hl.2.2
 obtain ⟨rW, hW, xW⟩ := msg_eq a6 l7 a8 a9 qa6 ql7 qa8 qa9
 obtain ⟨rM, hM, xM⟩ := msg_eq a17 l18 a19 a20 qa17 ql18 qa19 qa20
 refine Same_calls a0 a1 a2 a3 a4 a5 a6 A7 c7 l7 a8 a9 a10 a11 a12 A13 c13 l13 a14 a15 a16 a17 A18 c18 l18 a19 a20 a21 A22 c22 l22 A23 c23 l23 A24 c24 l24 qa0 qa1 qa2 qa3 qa4 qa5 qa6 qA7 qc7 ql7 qa8 qa9 qa10 qa11 qa12 qA13 qc13 ql13 qa14 qa15 qa16 qa17 qA18 qc18 ql18 qa19 qa20 qa21 qA22 qc22 ql22 qA23 qc23 ql23 qA24 qc24 ql24 kA kI kT rW rM rA rI rT R w hP hQ hW hM hA hI hT ?_
 rw [Bool.eq_iff_iff, hR]
 simp only [Bool.and_eq_true, Bool.not_eq_true', Bool.or_eq_false_iff, bne_eq_false_iff_eq, Bool.not_eq_false', beq_iff_eq, xA, xI, xT, xW, xM]
 constructor
 ·intro h
  exact ⟨⟨h.s0, h.s1, h.s2, h.s3, (congrArg ByteArray.toList h.s4), h.s14, h.s15, h.s16, h.s21⟩, ⟨h.s5, h.s10, h.s12, (congrArg ByteArray.toList h.s11), (congrArg ByteArray.toList h.s13)⟩, ⟨h.s6, h.s8, h.s9, h.s7⟩, ⟨h.s17, h.s19, h.s20, h.s18⟩, h.s22, h.s23, h.s24⟩
 ·rintro ⟨⟨s0, s1, s2, s3, s4, s14, s15, s16, s21⟩, ⟨s5, s10, s12, s11, s13⟩, ⟨s6, s8, s9, s7⟩, ⟨s17, s19, s20, s18⟩, s22, s23, s24⟩
  exact ⟨s0, s1, s2, s3, (toList_inj s4), s5, s6, s7, s8, s9, s10, (toList_inj s11), s12, (toList_inj s13), s14, s15, s16, s17, s18, s19, s20, s21, s22, s23, s24⟩
end Go.Proofs.YtndhkgfeknkfdaaGreatDoor.Pk
