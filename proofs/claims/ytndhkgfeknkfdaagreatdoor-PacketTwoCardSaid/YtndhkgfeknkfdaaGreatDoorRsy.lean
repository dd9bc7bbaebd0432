/- crierref2.Same of any two packets. -/
import Derived.Test.YtndhkgfeknkfdaaGreatDoorPk0
import Derived.Test.YtndhkgfeknkfdaaGreatDoorSam
import Derived.Deep.QuietTactic
import Derived.BigQuiet
import Derived.Deep.MidRow
namespace Go.Proofs.YtndhkgfeknkfdaaGreatDoor.Pk
open Go.RowKit Go.Proofs.YtndhkgfeknkfdaaGreatDoorW.PrintWords Go.Proofs.YtndhkgfeknkfdaaGreatDoorW.PrintLast Go.Proofs.YtndhkgfeknkfdaaGreatDoorW.PrintMore Go.Proofs.YtndhkgfeknkfdaaGreatDoor.MPacketChecks
open Go.Proofs.YtndhkgfeknkfdaaGreatDoorW.PrintWords.Aside0 renaming mk → am
set_option linter.unusedVariables false
set_option linter.unusedSimpArgs false
set_option maxHeartbeats 8000000
set_option maxRecDepth 100000
theorem eqA82 (d : Nat) (w : World) (x0 y0 : ByteArray) (x1 y1 : Int) :
  (Op.equalIn (d + 2) 82 (.agg #[.string x0, .int .i64 x1]) (.agg #[.string y0, .int .i64 y1])).run Tryz.prog w = .ok (x0.toList == y0.toList && (x1 == y1)) w := by
 refine eqA_of Tryz.underlying82 (by kernel_rfl) ?_
 refine eqf_cons (by rfl) (by go_simp; rfl) (by go_simp; rfl) (by go_simp) ?_
 exact eqf_last (by rfl) (by go_simp; rfl) (by go_simp; rfl) (by go_simp)
attribute [local go_sem high] eqA82
theorem drawn_belowS {w w' : World} (h : Drawn0 w w') : Below w.heap.size w w' := by obtain ⟨nd, rfl⟩ := h; exact pw_below_drewN (Below.refl _ _) _
theorem rd_eq22 {l q : List S82} {k : Nat} (h : l[k]? = q[k]?) : rd_T82 l k = rd_T82 q k := by
 unfold rd_T82
 rw [Int.toNat_natCast, List.getD_eq_getElem?_getD, List.getD_eq_getElem?_getD, h]
theorem ne22 {l q : List S82} {k : Nat} (h1 : k < l.length) (h2 : k < q.length) (h : ¬ l[k]? = q[k]?) : ((rd_T82 l k).f0.toList == (rd_T82 q k).f0.toList && ((rd_T82 l k).f1 == (rd_T82 q k).f1)) = false := by
 rw [Bool.eq_false_iff]
 intro hb
 rw [Bool.and_eq_true, beq_iff_eq, beq_iff_eq] at hb
 apply h
 have e1 : rd_T82 l k = l[k] := by unfold rd_T82; rw [Int.toNat_natCast, List.getD_eq_getElem?_getD, List.getElem?_eq_getElem h1]; rfl
 have e2 : rd_T82 q k = q[k] := by unfold rd_T82; rw [Int.toNat_natCast, List.getD_eq_getElem?_getD, List.getElem?_eq_getElem h2]; rfl
 rw [e1, e2] at hb
 rw [List.getElem?_eq_getElem h1, List.getElem?_eq_getElem h2]
 have e3 := toList_inj hb.1
 congr 1
 cases hx : l[k] with
 | mk x0 x1 => cases hy : q[k] with
  | mk y0 y1 =>
   rw [hx, hy] at e3 hb
   simp only at e3 hb
   rw [e3, hb.2]
theorem ne23 {l q : List Int} {k : Nat} (h1 : k < l.length) (h2 : k < q.length) (h : ¬ l[k]? = q[k]?) : ¬ l.getD k 0 = q.getD k 0 := fun e => h (by
 rw [List.getD_eq_getElem?_getD, List.getD_eq_getElem?_getD, List.getElem?_eq_getElem h1, List.getElem?_eq_getElem h2] at e
 rw [List.getElem?_eq_getElem h1, List.getElem?_eq_getElem h2]
 exact congrArg some e)
theorem ne24 {l q : List ByteArray} {k : Nat} (h1 : k < l.length) (h2 : k < q.length) (h : ¬ l[k]? = q[k]?) : ((rdOf ByteArray.empty l k).toList == (rdOf ByteArray.empty q k).toList) = false := by
 rw [Bool.eq_false_iff]
 intro hb
 rw [beq_iff_eq] at hb
 have e3 := toList_inj hb
 apply h
 unfold rdOf at e3
 rw [List.getD_eq_getElem?_getD, List.getD_eq_getElem?_getD, Int.toNat_natCast, List.getElem?_eq_getElem h1, List.getElem?_eq_getElem h2] at e3
 rw [List.getElem?_eq_getElem h1, List.getElem?_eq_getElem h2]
 exact congrArg some e3
theorem rSame_any (a0 : Int) (a1 : Int) (a2 : Bool) (a3 : Int) (a4 : ByteArray) (a5 : Bool) (a6 : ByteArray) (A7 : Option Addr) (c7 : Nat) (l7 : List Int) (a8 : Int) (a9 : Bool) (a10 : Bool) (a11 : ByteArray) (a12 : Bool) (A13 : Option Addr) (c13 : Nat) (l13 : List Int) (a14 : Bool) (a15 : Int) (a16 : Bool) (a17 : ByteArray) (A18 : Option Addr) (c18 : Nat) (l18 : List Int) (a19 : Int) (a20 : Bool) (a21 : Int) (A22 : Option Addr) (c22 : Nat) (l22 : List S82) (A23 : Option Addr) (c23 : Nat) (l23 : List Int) (A24 : Option Addr) (c24 : Nat) (l24 : List ByteArray) (qa0 : Int) (qa1 : Int) (qa2 : Bool) (qa3 : Int) (qa4 : ByteArray) (qa5 : Bool) (qa6 : ByteArray) (qA7 : Option Addr) (qc7 : Nat) (ql7 : List Int) (qa8 : Int) (qa9 : Bool) (qa10 : Bool) (qa11 : ByteArray) (qa12 : Bool) (qA13 : Option Addr) (qc13 : Nat) (ql13 : List Int) (qa14 : Bool) (qa15 : Int) (qa16 : Bool) (qa17 : ByteArray) (qA18 : Option Addr) (qc18 : Nat) (ql18 : List Int) (qa19 : Int) (qa20 : Bool) (qa21 : Int) (qA22 : Option Addr) (qc22 : Nat) (ql22 : List S82) (qA23 : Option Addr) (qc23 : Nat) (ql23 : List Int) (qA24 : Option Addr) (qc24 : Nat) (ql24 : List ByteArray) (krW krM krB : Nat) (rW rM rB R : Bool) (w : World) (hp : Rd w A7 c7 l7 A13 c13 l13 A18 c18 l18 A22 c22 l22 A23 c23 l23 A24 c24 l24) (hq : Rd w qA7 qc7 ql7 qA13 qc13 ql13 qA18 qc18 ql18 qA22 qc22 ql22 qA23 qc23 ql23 qA24 qc24 ql24)
  (hW : crierref2_SameMessage.f krW a6 l7 a8 a9 qa6 ql7 qa8 qa9 = some rW) (hM : crierref2_SameMessage.f krM a17 l18 a19 a20 qa17 ql18 qa19 qa20 = some rM) (hBB : crierref2_sameBytes.f krB l13 ql13 = some rB)
  (hR : R = true ↔ ((a0 != qa0) || ((a1 != qa1) || ((a2 != qa2) || ((a3 != qa3) || ((a4.toList != qa4.toList) || ((a5 != qa5) || ((a10 != qa10) || ((a11.toList != qa11.toList) || (a12 != qa12))))))))) = false ∧ ((a14 != qa14) || ((a15 != qa15) || ((a16 != qa16) || ((a21 != qa21) || ((!rW) || ((!rM) || (!rB))))))) = false ∧ l22 = ql22 ∧ l23 = ql23 ∧ l24 = ql24) (hn22 : l22.length ≤ 1073741824) (hn23 : l23.length ≤ 1073741824) (hn24 : l24.length ≤ 1073741824) :
  Calls Tryz.prog 8 #[.agg #[.int .i64 a0, .int .i64 a1, .bool a2, .int .i64 a3, .string a4, .bool a5, .string a6, .slice A7 l7.length c7, .int .i64 a8, .bool a9, .bool a10, .string a11, .bool a12, .slice A13 l13.length c13, .bool a14, .int .i64 a15, .bool a16, .string a17, .slice A18 l18.length c18, .int .i64 a19, .bool a20, .int .i64 a21, .slice A22 l22.length c22, .slice A23 l23.length c23, .slice A24 l24.length c24], .agg #[.int .i64 qa0, .int .i64 qa1, .bool qa2, .int .i64 qa3, .string qa4, .bool qa5, .string qa6, .slice qA7 ql7.length qc7, .int .i64 qa8, .bool qa9, .bool qa10, .string qa11, .bool qa12, .slice qA13 ql13.length qc13, .bool qa14, .int .i64 qa15, .bool qa16, .string qa17, .slice qA18 ql18.length qc18, .int .i64 qa19, .bool qa20, .int .i64 qa21, .slice qA22 ql22.length qc22, .slice qA23 ql23.length qc23, .slice qA24 ql24.length qc24]] w fun e w' => e = .returned (.bool R) ∧ Below w.heap.size w w' := by
 have hu29 := Tryz.underlying29
 have hu24 := Tryz.underlying24
 have hu82 := Tryz.underlying82
 have HP := am hp; have HQ := am hq; have HW := am hW; have HM := am hM; have HBB := am hBB; have HR := am hR
 clear hp hq hW hM hBB hR
 have HB := am (Below.refl w.heap.size w)
 go_enter Tryz.func8, Tryz.ntmps8
 go_upto_region 1 with (first | ((with_reducible refine gate_dst (N := 2) rfl ?_); refine box_event ?hg2 (N := 2) ?hd2 (cs := #[.int .i64 a0, .int .i64 a1, .bool a2, .int .i64 a3, .string a4, .bool a5, .string a6, .slice A7 l7.length c7, .int .i64 a8, .bool a9, .bool a10, .string a11, .bool a12, .slice A13 l13.length c13, .bool a14, .int .i64 a15, .bool a16, .string a17, .slice A18 l18.length c18, .int .i64 a19, .bool a20, .int .i64 a21, .slice A22 l22.length c22, .slice A23 l23.length c23, .slice A24 l24.length c24]) (t := 29) ?hr2 ?_; (case hd2 => rfl); (case hg2 => rfl); (case hr2 => first | (go_simp; done) | (go_simp; rfl)); intro ga hg w2 hbox hb; have BK := am hbox; have n0_ := am (below_step HB.out hb); clear HB; have HB := n0_; clear n0_ hb hbox hg) | ((with_reducible refine gate_dst (N := 3) rfl ?_); refine box_event ?hg3 (N := 3) ?hd3 (cs := #[.int .i64 qa0, .int .i64 qa1, .bool qa2, .int .i64 qa3, .string qa4, .bool qa5, .string qa6, .slice qA7 ql7.length qc7, .int .i64 qa8, .bool qa9, .bool qa10, .string qa11, .bool qa12, .slice qA13 ql13.length qc13, .bool qa14, .int .i64 qa15, .bool qa16, .string qa17, .slice qA18 ql18.length qc18, .int .i64 qa19, .bool qa20, .int .i64 qa21, .slice qA22 ql22.length qc22, .slice qA23 ql23.length qc23, .slice qA24 ql24.length qc24]) (t := 29) ?hr3 ?_; (case hd3 => rfl); (case hg3 => rfl); (case hr3 => first | (go_simp; done) | (go_simp; rfl)); intro gb hg w3 hbox hb; have BQ := am hbox; have n0_ := am (below_step HB.out hb); have n1_ := am (blk_below BK.out hb); clear HB BK; have HB := n0_; have BK := n1_; clear n0_ n1_ hb hbox hg))
 try simp only [Act.put, List.setIfInBounds_toArray, List.set_cons_zero, List.set_cons_succ]
 generalize (Value.agg #[.int .i64 a0, .int .i64 a1, .bool a2, .int .i64 a3, .string a4, .bool a5, .string a6, .slice A7 l7.length c7, .int .i64 a8, .bool a9, .bool a10, .string a11, .bool a12, .slice A13 l13.length c13, .bool a14, .int .i64 a15, .bool a16, .string a17, .slice A18 l18.length c18, .int .i64 a19, .bool a20, .int .i64 a21, .slice A22 l22.length c22, .slice A23 l23.length c23, .slice A24 l24.length c24]) = v0
 generalize (Value.agg #[.int .i64 qa0, .int .i64 qa1, .bool qa2, .int .i64 qa3, .string qa4, .bool qa5, .string qa6, .slice qA7 ql7.length qc7, .int .i64 qa8, .bool qa9, .bool qa10, .string qa11, .bool qa12, .slice qA13 ql13.length qc13, .bool qa14, .int .i64 qa15, .bool qa16, .string qa17, .slice qA18 ql18.length qc18, .int .i64 qa19, .bool qa20, .int .i64 qa21, .slice qA22 ql22.length qc22, .slice qA23 ql23.length qc23, .slice qA24 ql24.length qc24]) = v1
 go_cut [68] (fun v wc => ∃ b : Bool, v = .bool b ∧ Aside0 (b = ((a0 != qa0) || ((a1 != qa1) || ((a2 != qa2) || ((a3 != qa3) || ((a4.toList != qa4.toList) || ((a5 != qa5) || ((a10 != qa10) || ((a11.toList != qa11.toList) || (a12 != qa12)))))))))) ∧ Aside0 (wc.heap[ga]? = some (.cells #[.int .i64 a0, .int .i64 a1, .bool a2, .int .i64 a3, .string a4, .bool a5, .string a6, .slice A7 l7.length c7, .int .i64 a8, .bool a9, .bool a10, .string a11, .bool a12, .slice A13 l13.length c13, .bool a14, .int .i64 a15, .bool a16, .string a17, .slice A18 l18.length c18, .int .i64 a19, .bool a20, .int .i64 a21, .slice A22 l22.length c22, .slice A23 l23.length c23, .slice A24 l24.length c24] 29 (0, 0))) ∧ Aside0 (wc.heap[gb]? = some (.cells #[.int .i64 qa0, .int .i64 qa1, .bool qa2, .int .i64 qa3, .string qa4, .bool qa5, .string qa6, .slice qA7 ql7.length qc7, .int .i64 qa8, .bool qa9, .bool qa10, .string qa11, .bool qa12, .slice qA13 ql13.length qc13, .bool qa14, .int .i64 qa15, .bool qa16, .string qa17, .slice qA18 ql18.length qc18, .int .i64 qa19, .bool qa20, .int .i64 qa21, .slice qA22 ql22.length qc22, .slice qA23 ql23.length qc23, .slice qA24 ql24.length qc24] 29 (0, 0))) ∧ Aside0 (Below w.heap.size w wc))
 case first =>
  as_aux_lemma =>
   have p0 : w3.cell? ⟨ga, 0, none⟩ = some (.int .i64 a0) := (blk_cell BK.out 0).trans rfl; have q0 : w3.cell? ⟨gb, 0, none⟩ = some (.int .i64 qa0) := (blk_cell BQ.out 0).trans rfl; have p1 : w3.cell? ⟨ga, 1, none⟩ = some (.int .i64 a1) := (blk_cell BK.out 1).trans rfl; have q1 : w3.cell? ⟨gb, 1, none⟩ = some (.int .i64 qa1) := (blk_cell BQ.out 1).trans rfl; have p2 : w3.cell? ⟨ga, 2, none⟩ = some (.bool a2) := (blk_cell BK.out 2).trans rfl; have q2 : w3.cell? ⟨gb, 2, none⟩ = some (.bool qa2) := (blk_cell BQ.out 2).trans rfl; have p3 : w3.cell? ⟨ga, 3, none⟩ = some (.int .i64 a3) := (blk_cell BK.out 3).trans rfl; have q3 : w3.cell? ⟨gb, 3, none⟩ = some (.int .i64 qa3) := (blk_cell BQ.out 3).trans rfl; have p4 : w3.cell? ⟨ga, 4, none⟩ = some (.string a4) := (blk_cell BK.out 4).trans rfl; have q4 : w3.cell? ⟨gb, 4, none⟩ = some (.string qa4) := (blk_cell BQ.out 4).trans rfl; have p5 : w3.cell? ⟨ga, 5, none⟩ = some (.bool a5) := (blk_cell BK.out 5).trans rfl; have q5 : w3.cell? ⟨gb, 5, none⟩ = some (.bool qa5) := (blk_cell BQ.out 5).trans rfl; have p10 : w3.cell? ⟨ga, 10, none⟩ = some (.bool a10) := (blk_cell BK.out 10).trans rfl; have q10 : w3.cell? ⟨gb, 10, none⟩ = some (.bool qa10) := (blk_cell BQ.out 10).trans rfl; have p11 : w3.cell? ⟨ga, 11, none⟩ = some (.string a11) := (blk_cell BK.out 11).trans rfl; have q11 : w3.cell? ⟨gb, 11, none⟩ = some (.string qa11) := (blk_cell BQ.out 11).trans rfl; have p12 : w3.cell? ⟨ga, 12, none⟩ = some (.bool a12) := (blk_cell BK.out 12).trans rfl; have q12 : w3.cell? ⟨gb, 12, none⟩ = some (.bool qa12) := (blk_cell BQ.out 12).trans rfl
   go_wp2_with (fail)
   all_goals (go_meet; (case rel => exact ⟨_, rfl, am (by first | (simp [*]; done) | (simp_all; done) | (simp [*, bne]; done)), by first | exact BK | exact am (blk_drewN BK.out _), by first | exact BQ | exact am (blk_drewN BQ.out _), am (by repeat (first | exact HB.out | (with_reducible first | apply below_alloc | apply pw_below_drewN | apply below_drew1)))⟩))
 case rest =>
  clear HB BK BQ
  obtain ⟨b, rfl, hb68, BK, BQ, HB⟩ := hcut
  obtain ⟨wA1, hwA⟩ : ∃ x, x = wc := ⟨_, rfl⟩
  subst hwA
  cases b with
  | true =>
   have e : R = false := (Bool.eq_false_iff.2 (fun h => by have h1 := (HR.out.1 h).1; rw [← hb68.out] at h1; cases h1))
   subst e
   as_aux_lemma =>
    go_wp2
    go_ret
    exact ⟨rfl, (by repeat (first | exact HB.out | (with_reducible first | apply below_alloc | apply pw_below_drewN | apply below_drew1)))⟩
  | false =>
   go_upto_region 3 with (fail)
   go_cut [118] (fun v wc => ∃ b : Bool, v = .bool b ∧ Aside0 (b = ((a14 != qa14) || ((a15 != qa15) || ((a16 != qa16) || ((a21 != qa21) || ((!rW) || ((!rM) || (!rB)))))))) ∧ Aside0 (wc.heap[ga]? = some (.cells #[.int .i64 a0, .int .i64 a1, .bool a2, .int .i64 a3, .string a4, .bool a5, .string a6, .slice A7 l7.length c7, .int .i64 a8, .bool a9, .bool a10, .string a11, .bool a12, .slice A13 l13.length c13, .bool a14, .int .i64 a15, .bool a16, .string a17, .slice A18 l18.length c18, .int .i64 a19, .bool a20, .int .i64 a21, .slice A22 l22.length c22, .slice A23 l23.length c23, .slice A24 l24.length c24] 29 (0, 0))) ∧ Aside0 (wc.heap[gb]? = some (.cells #[.int .i64 qa0, .int .i64 qa1, .bool qa2, .int .i64 qa3, .string qa4, .bool qa5, .string qa6, .slice qA7 ql7.length qc7, .int .i64 qa8, .bool qa9, .bool qa10, .string qa11, .bool qa12, .slice qA13 ql13.length qc13, .bool qa14, .int .i64 qa15, .bool qa16, .string qa17, .slice qA18 ql18.length qc18, .int .i64 qa19, .bool qa20, .int .i64 qa21, .slice qA22 ql22.length qc22, .slice qA23 ql23.length qc23, .slice qA24 ql24.length qc24] 29 (0, 0))) ∧ Aside0 (Below w.heap.size w wc))
   case first =>
    as_aux_lemma =>
     have p14 : wA1.cell? ⟨ga, 14, none⟩ = some (.bool a14) := (blk_cell BK.out 14).trans rfl; have q14 : wA1.cell? ⟨gb, 14, none⟩ = some (.bool qa14) := (blk_cell BQ.out 14).trans rfl; have p15 : wA1.cell? ⟨ga, 15, none⟩ = some (.int .i64 a15) := (blk_cell BK.out 15).trans rfl; have q15 : wA1.cell? ⟨gb, 15, none⟩ = some (.int .i64 qa15) := (blk_cell BQ.out 15).trans rfl; have p16 : wA1.cell? ⟨ga, 16, none⟩ = some (.bool a16) := (blk_cell BK.out 16).trans rfl; have q16 : wA1.cell? ⟨gb, 16, none⟩ = some (.bool qa16) := (blk_cell BQ.out 16).trans rfl; have p21 : wA1.cell? ⟨ga, 21, none⟩ = some (.int .i64 a21) := (blk_cell BK.out 21).trans rfl; have q21 : wA1.cell? ⟨gb, 21, none⟩ = some (.int .i64 qa21) := (blk_cell BQ.out 21).trans rfl; have p13 : wA1.cell? ⟨ga, 13, none⟩ = some (.slice A13 l13.length c13) := (blk_cell BK.out 13).trans rfl; have q13 : wA1.cell? ⟨gb, 13, none⟩ = some (.slice qA13 ql13.length qc13) := (blk_cell BQ.out 13).trans rfl
     go_wp2_with (first | ((with_reducible refine gate_dst (N := 97) rfl ?_); refine wpList_load_midG (by rfl) 24 (.tmp 96) rfl ga 6 rfl [.string a6, .slice A7 l7.length c7, .int .i64 a8, .bool a9] _ (rangeAt_sub (by first | exact BK.out | exact blk_drewN BK.out _ | exact blk_drew BK.out) 6 4) hu24 rfl (by kernel_rfl) ?_) | ((with_reducible refine gate_dst (N := 99) rfl ?_); refine wpList_load_midG (by rfl) 24 (.tmp 98) rfl gb 6 rfl [.string qa6, .slice qA7 ql7.length qc7, .int .i64 qa8, .bool qa9] _ (rangeAt_sub (by first | exact BQ.out | exact blk_drewN BQ.out _ | exact blk_drew BQ.out) 6 4) hu24 rfl (by kernel_rfl) ?_) | ((with_reducible refine gate_dst (N := 105) rfl ?_); refine wpList_load_midG (by rfl) 24 (.tmp 104) rfl ga 17 rfl [.string a17, .slice A18 l18.length c18, .int .i64 a19, .bool a20] _ (rangeAt_sub (by first | exact BK.out | exact blk_drewN BK.out _ | exact blk_drew BK.out) 17 4) hu24 rfl (by kernel_rfl) ?_) | ((with_reducible refine gate_dst (N := 107) rfl ?_); refine wpList_load_midG (by rfl) 24 (.tmp 106) rfl gb 17 rfl [.string qa17, .slice qA18 ql18.length qc18, .int .i64 qa19, .bool qa20] _ (rangeAt_sub (by first | exact BQ.out | exact blk_drewN BQ.out _ | exact blk_drew BQ.out) 17 4) hu24 rfl (by kernel_rfl) ?_) | (go_at_call 32; (with_reducible refine (crierref2_SameMessage.calls krW a6 A7 c7 l7 a8 a9 qa6 qA7 qc7 ql7 qa8 qa9 rW _ ?s1 HP.out.k7 ?t1 HQ.out.k7 HW.out).mono ?_); (case s1 => exact Kd.C_below HP.out.r7 (by repeat (first | exact HB.out | (with_reducible first | apply below_alloc | apply pw_below_drewN | apply below_drew1)))); (case t1 => exact Kd.C_below HQ.out.r7 (by repeat (first | exact HB.out | (with_reducible first | apply below_alloc | apply pw_below_drewN | apply below_drew1)))); rintro e w9 ⟨rfl, hb⟩; have n0_ := am (below_step (by repeat (first | exact HB.out | (with_reducible first | apply below_alloc | apply pw_below_drewN | apply below_drew1))) hb); have n1_ := am (blk_below (by first | exact BK.out | exact blk_drewN BK.out _ | exact blk_drew BK.out) hb); have n2_ := am (blk_below (by first | exact BQ.out | exact blk_drewN BQ.out _ | exact blk_drew BQ.out) hb); clear HB BK BQ; have HB := n0_; have BK := n1_; have BQ := n2_; clear n0_ n1_ n2_ hb; have p13 : w9.cell? ⟨ga, 13, none⟩ = some (.slice A13 l13.length c13) := (blk_cell BK.out 13).trans rfl; have q13 : w9.cell? ⟨gb, 13, none⟩ = some (.slice qA13 ql13.length qc13) := (blk_cell BQ.out 13).trans rfl) | (go_at_call 32; (with_reducible refine (crierref2_SameMessage.calls krM a17 A18 c18 l18 a19 a20 qa17 qA18 qc18 ql18 qa19 qa20 rM _ ?s2 HP.out.k18 ?t2 HQ.out.k18 HM.out).mono ?_); (case s2 => exact Kd.C_below HP.out.r18 (by repeat (first | exact HB.out | (with_reducible first | apply below_alloc | apply pw_below_drewN | apply below_drew1)))); (case t2 => exact Kd.C_below HQ.out.r18 (by repeat (first | exact HB.out | (with_reducible first | apply below_alloc | apply pw_below_drewN | apply below_drew1)))); rintro e w9 ⟨rfl, hb⟩; have n0_ := am (below_step (by repeat (first | exact HB.out | (with_reducible first | apply below_alloc | apply pw_below_drewN | apply below_drew1))) hb); have n1_ := am (blk_below (by first | exact BK.out | exact blk_drewN BK.out _ | exact blk_drew BK.out) hb); have n2_ := am (blk_below (by first | exact BQ.out | exact blk_drewN BQ.out _ | exact blk_drew BQ.out) hb); clear HB BK BQ; have HB := n0_; have BK := n1_; have BQ := n2_; clear n0_ n1_ n2_ hb; have p13 : w9.cell? ⟨ga, 13, none⟩ = some (.slice A13 l13.length c13) := (blk_cell BK.out 13).trans rfl; have q13 : w9.cell? ⟨gb, 13, none⟩ = some (.slice qA13 ql13.length qc13) := (blk_cell BQ.out 13).trans rfl) | (go_at_call 33; (with_reducible refine (crierref2_sameBytes.calls krB A13 c13 l13 qA13 qc13 ql13 rB _ ?s3 HP.out.k13 ?t3 HQ.out.k13 HBB.out).mono ?_); (case s3 => exact Kd.C_below HP.out.r13 (by repeat (first | exact HB.out | (with_reducible first | apply below_alloc | apply pw_below_drewN | apply below_drew1)))); (case t3 => exact Kd.C_below HQ.out.r13 (by repeat (first | exact HB.out | (with_reducible first | apply below_alloc | apply pw_below_drewN | apply below_drew1)))); rintro e w9 ⟨rfl, hb0⟩; have hb := drawn_belowS hb0; clear hb0; have n0_ := am (below_step (by repeat (first | exact HB.out | (with_reducible first | apply below_alloc | apply pw_below_drewN | apply below_drew1))) hb); have n1_ := am (blk_below (by first | exact BK.out | exact blk_drewN BK.out _ | exact blk_drew BK.out) hb); have n2_ := am (blk_below (by first | exact BQ.out | exact blk_drewN BQ.out _ | exact blk_drew BQ.out) hb); clear HB BK BQ; have HB := n0_; have BK := n1_; have BQ := n2_; clear n0_ n1_ n2_ hb))
     all_goals (go_meet; (case rel => exact ⟨_, rfl, am (by first | (simp [*]; done) | (simp_all; done) | (simp [*, bne]; done)), by first | exact BK | exact am (blk_drewN BK.out _), by first | exact BQ | exact am (blk_drewN BQ.out _), am (by repeat (first | exact HB.out | (with_reducible first | apply below_alloc | apply pw_below_drewN | apply below_drew1)))⟩))
   case rest =>
    clear HB BK BQ
    obtain ⟨b, rfl, hb118, BK, BQ, HB⟩ := hcut
    obtain ⟨wA2, hwA⟩ : ∃ x, x = wc := ⟨_, rfl⟩
    subst hwA
    cases b with
    | true =>
     have e : R = false := (Bool.eq_false_iff.2 (fun h => by have h1 := (HR.out.1 h).2.1; rw [← hb118.out] at h1; cases h1))
     subst e
     as_aux_lemma =>
      go_wp2
      go_ret
      exact ⟨rfl, (by repeat (first | exact HB.out | (with_reducible first | apply below_alloc | apply pw_below_drewN | apply below_drew1)))⟩
    | false =>
     go_upto_region 5 with (fail)
     have p22 : wA2.cell? ⟨ga, 22, none⟩ = some (.slice A22 l22.length c22) := (blk_cell BK.out 22).trans rfl; have q22 : wA2.cell? ⟨gb, 22, none⟩ = some (.slice qA22 ql22.length qc22) := (blk_cell BQ.out 22).trans rfl; have p23 : wA2.cell? ⟨ga, 23, none⟩ = some (.slice A23 l23.length c23) := (blk_cell BK.out 23).trans rfl; have q23 : wA2.cell? ⟨gb, 23, none⟩ = some (.slice qA23 ql23.length qc23) := (blk_cell BQ.out 23).trans rfl; have p24 : wA2.cell? ⟨ga, 24, none⟩ = some (.slice A24 l24.length c24) := (blk_cell BK.out 24).trans rfl; have q24 : wA2.cell? ⟨gb, 24, none⟩ = some (.slice qA24 ql24.length qc24) := (blk_cell BQ.out 24).trans rfl
     by_cases h22 : l22.length = ql22.length
     case neg =>
      as_aux_lemma =>
       have e : R = false := (Bool.eq_false_iff.2 (fun h => h22 (congrArg List.length (HR.out.1 h).2.2.1)))
       subst e
       go_wp2
       all_goals (go_ret; exact ⟨rfl, (by repeat (first | exact HB.out | (with_reducible first | apply below_alloc | apply pw_below_drewN | apply below_drew1)))⟩)
     by_cases h23 : l23.length = ql23.length
     case neg =>
      as_aux_lemma =>
       have e : R = false := (Bool.eq_false_iff.2 (fun h => h23 (congrArg List.length (HR.out.1 h).2.2.2.1)))
       subst e
       go_wp2
       all_goals (go_ret; exact ⟨rfl, (by repeat (first | exact HB.out | (with_reducible first | apply below_alloc | apply pw_below_drewN | apply below_drew1)))⟩)
     by_cases h24 : l24.length = ql24.length
     case neg =>
      as_aux_lemma =>
       have e : R = false := (Bool.eq_false_iff.2 (fun h => h24 (congrArg List.length (HR.out.1 h).2.2.2.2)))
       subst e
       go_wp2
       all_goals (go_ret; exact ⟨rfl, (by repeat (first | exact HB.out | (with_reducible first | apply below_alloc | apply pw_below_drewN | apply below_drew1)))⟩)
     go_wp2
     have HL22 := am h22; have HL23 := am h23; have HL24 := am h24; clear h22 h23 h24
     go_loopw [5] (fun i wr => ∃ k : Nat, k ≤ l22.length ∧ i = .int .i64 k ∧ Aside0 (l22.take k = ql22.take k) ∧ Aside0 (wr.heap[ga]? = some (.cells #[.int .i64 a0, .int .i64 a1, .bool a2, .int .i64 a3, .string a4, .bool a5, .string a6, .slice A7 l7.length c7, .int .i64 a8, .bool a9, .bool a10, .string a11, .bool a12, .slice A13 l13.length c13, .bool a14, .int .i64 a15, .bool a16, .string a17, .slice A18 l18.length c18, .int .i64 a19, .bool a20, .int .i64 a21, .slice A22 l22.length c22, .slice A23 l23.length c23, .slice A24 l24.length c24] 29 (0, 0))) ∧ Aside0 (wr.heap[gb]? = some (.cells #[.int .i64 qa0, .int .i64 qa1, .bool qa2, .int .i64 qa3, .string qa4, .bool qa5, .string qa6, .slice qA7 ql7.length qc7, .int .i64 qa8, .bool qa9, .bool qa10, .string qa11, .bool qa12, .slice qA13 ql13.length qc13, .bool qa14, .int .i64 qa15, .bool qa16, .string qa17, .slice qA18 ql18.length qc18, .int .i64 qa19, .bool qa20, .int .i64 qa21, .slice qA22 ql22.length qc22, .slice qA23 ql23.length qc23, .slice qA24 ql24.length qc24] 29 (0, 0))) ∧ Aside0 (Below w.heap.size w wr)) (fun i _ => l22.length - (intOf i).toNat)
     case atStart => exact ⟨0, Nat.zero_le _, rfl, ⟨by rw [List.take_zero, List.take_zero]⟩, BK, BQ, HB⟩
     case round =>
      clear HB BK BQ p22 q22 p23 q23 p24 q24
      obtain ⟨k, hk, rfl, HT22, BK, BQ, HB⟩ := hrel
      obtain ⟨wo, hwo⟩ : ∃ x, x = wr := ⟨_, rfl⟩; subst hwo
      have p22 : wo.cell? ⟨ga, 22, none⟩ = some (.slice A22 l22.length c22) := (blk_cell BK.out 22).trans rfl; have q22 : wo.cell? ⟨gb, 22, none⟩ = some (.slice qA22 ql22.length qc22) := (blk_cell BQ.out 22).trans rfl
      by_cases hlt : k < l22.length
      ·as_aux_lemma =>
        have hlq : k < ql22.length := by have := HL22.out; omega
        obtain ⟨ad0, e_, e0, e1⟩ := at_T82 (Kd.C_below HP.out.r22 HB.out) (k : Int) (by omega) (by omega); subst e_; rw [Int.toNat_natCast] at e0 e1
        obtain ⟨ad1, e_, f0, f1⟩ := at_T82 (Kd.C_below HQ.out.r22 HB.out) (k : Int) (by omega) (by omega); subst e_; rw [Int.toNat_natCast] at f0 f1
        by_cases he : l22[k]? = ql22[k]?
        ·skip
         have hv_ : rd_T82 ql22 k = rd_T82 l22 k := rd_eq22 he.symm; rw [hv_] at f0 f1; have HE_ := am he; clear he hv_
         go_wp2; repeat (go_quiet (fail); try go_wp2)
         go_roundw
         case rel => exact ⟨k + 1, by omega, by go_num, ⟨by rw [List.take_add_one, List.take_add_one, HT22.out, HE_.out]⟩, ⟨by first | exact BK.out | exact blk_drewN BK.out _⟩, ⟨by first | exact BQ.out | exact blk_drewN BQ.out _⟩, ⟨(by repeat (first | exact HB.out | (with_reducible first | apply below_alloc | apply pw_below_drewN | apply below_drew1)))⟩⟩
         case measure => simp [intOf]; omega
        ·have e : R = false := (Bool.eq_false_iff.2 (fun h => he (by rw [(HR.out.1 h).2.2.1])))
         subst e
         have hn_ := ne22 hlt (by have := HL22.out; omega) he; clear he
         go_wp2; repeat (go_quiet (fail); try go_wp2)
         all_goals (go_ret; exact ⟨rfl, (by repeat (first | exact HB.out | (with_reducible first | apply below_alloc | apply pw_below_drewN | apply below_drew1)))⟩)
      ·obtain rfl : k = l22.length := by omega
       have HT22' : Aside0 (l22 = ql22) := ⟨by have h1_ := HT22.out; rw [List.take_length, HL22.out, List.take_length] at h1_; exact h1_⟩
       have p22 : wo.cell? ⟨ga, 22, none⟩ = some (.slice A22 l22.length c22) := (blk_cell BK.out 22).trans rfl; have q22 : wo.cell? ⟨gb, 22, none⟩ = some (.slice qA22 ql22.length qc22) := (blk_cell BQ.out 22).trans rfl; have p23 : wo.cell? ⟨ga, 23, none⟩ = some (.slice A23 l23.length c23) := (blk_cell BK.out 23).trans rfl; have q23 : wo.cell? ⟨gb, 23, none⟩ = some (.slice qA23 ql23.length qc23) := (blk_cell BQ.out 23).trans rfl; have p24 : wo.cell? ⟨ga, 24, none⟩ = some (.slice A24 l24.length c24) := (blk_cell BK.out 24).trans rfl; have q24 : wo.cell? ⟨gb, 24, none⟩ = some (.slice qA24 ql24.length qc24) := (blk_cell BQ.out 24).trans rfl
       go_wp2
       go_loopw [6] (fun i wr => ∃ k : Nat, k ≤ l23.length ∧ i = .int .i64 k ∧ Aside0 (l23.take k = ql23.take k) ∧ Aside0 (wr.heap[ga]? = some (.cells #[.int .i64 a0, .int .i64 a1, .bool a2, .int .i64 a3, .string a4, .bool a5, .string a6, .slice A7 l7.length c7, .int .i64 a8, .bool a9, .bool a10, .string a11, .bool a12, .slice A13 l13.length c13, .bool a14, .int .i64 a15, .bool a16, .string a17, .slice A18 l18.length c18, .int .i64 a19, .bool a20, .int .i64 a21, .slice A22 l22.length c22, .slice A23 l23.length c23, .slice A24 l24.length c24] 29 (0, 0))) ∧ Aside0 (wr.heap[gb]? = some (.cells #[.int .i64 qa0, .int .i64 qa1, .bool qa2, .int .i64 qa3, .string qa4, .bool qa5, .string qa6, .slice qA7 ql7.length qc7, .int .i64 qa8, .bool qa9, .bool qa10, .string qa11, .bool qa12, .slice qA13 ql13.length qc13, .bool qa14, .int .i64 qa15, .bool qa16, .string qa17, .slice qA18 ql18.length qc18, .int .i64 qa19, .bool qa20, .int .i64 qa21, .slice qA22 ql22.length qc22, .slice qA23 ql23.length qc23, .slice qA24 ql24.length qc24] 29 (0, 0))) ∧ Aside0 (Below w.heap.size w wr)) (fun i _ => l23.length - (intOf i).toNat)
       case atStart => exact ⟨0, Nat.zero_le _, rfl, ⟨by rw [List.take_zero, List.take_zero]⟩, BK, BQ, HB⟩
       case round =>
        clear HB BK BQ p22 q22 p23 q23 p24 q24
        obtain ⟨k, hk, rfl, HT23, BK, BQ, HB⟩ := hrel
        obtain ⟨wo, hwo⟩ : ∃ x, x = wr := ⟨_, rfl⟩; subst hwo
        have p23 : wo.cell? ⟨ga, 23, none⟩ = some (.slice A23 l23.length c23) := (blk_cell BK.out 23).trans rfl; have q23 : wo.cell? ⟨gb, 23, none⟩ = some (.slice qA23 ql23.length qc23) := (blk_cell BQ.out 23).trans rfl
        by_cases hlt : k < l23.length
        ·as_aux_lemma =>
          have hlq : k < ql23.length := by have := HL23.out; omega
          obtain ⟨ad0, c_, e_, _, hK_, hc_⟩ := Kd.C_get (Kd.C_below HP.out.r23 HB.out) (0 : Int) (k : Int) (by omega) (by omega); subst e_; obtain rfl : c_ = _ := hK_; have e0 := hc_ 0 _ rfl; rw [show (Kd.int .i64).sz = 1 from rfl, Nat.mul_one, Nat.add_zero, Int.toNat_natCast] at e0; clear hc_
          obtain ⟨ad1, c_, e_, _, hK_, hc_⟩ := Kd.C_get (Kd.C_below HQ.out.r23 HB.out) (0 : Int) (k : Int) (by omega) (by omega); subst e_; obtain rfl : c_ = _ := hK_; have f0 := hc_ 0 _ rfl; rw [show (Kd.int .i64).sz = 1 from rfl, Nat.mul_one, Nat.add_zero, Int.toNat_natCast] at f0; clear hc_
          by_cases he : l23[k]? = ql23[k]?
          ·skip
           have hv_ : ql23.getD k 0 = l23.getD k 0 := (by rw [List.getD_eq_getElem?_getD, List.getD_eq_getElem?_getD, he]); rw [hv_] at f0; have HE_ := am he; clear he hv_
           go_wp2; repeat (go_quiet (fail); try go_wp2)
           go_roundw
           case rel => exact ⟨k + 1, by omega, by go_num, ⟨by rw [List.take_add_one, List.take_add_one, HT23.out, HE_.out]⟩, ⟨by first | exact BK.out | exact blk_drewN BK.out _⟩, ⟨by first | exact BQ.out | exact blk_drewN BQ.out _⟩, ⟨(by repeat (first | exact HB.out | (with_reducible first | apply below_alloc | apply pw_below_drewN | apply below_drew1)))⟩⟩
           case measure => simp [intOf]; omega
          ·have e : R = false := (Bool.eq_false_iff.2 (fun h => he (by rw [(HR.out.1 h).2.2.2.1])))
           subst e
           have hn_ := ne23 hlt (by have := HL23.out; omega) he; have hg_ : (l23[k]'hlt != ql23[k]'hlq) = true := (by rw [bne_iff_ne]; intro e_; exact he (by rw [List.getElem?_eq_getElem hlt, List.getElem?_eq_getElem hlq, e_])); clear he
           go_wp2; repeat (go_quiet (fail); try go_wp2)
           all_goals (go_ret; exact ⟨rfl, (by repeat (first | exact HB.out | (with_reducible first | apply below_alloc | apply pw_below_drewN | apply below_drew1)))⟩)
        ·obtain rfl : k = l23.length := by omega
         have HT23' : Aside0 (l23 = ql23) := ⟨by have h1_ := HT23.out; rw [List.take_length, HL23.out, List.take_length] at h1_; exact h1_⟩
         have p22 : wo.cell? ⟨ga, 22, none⟩ = some (.slice A22 l22.length c22) := (blk_cell BK.out 22).trans rfl; have q22 : wo.cell? ⟨gb, 22, none⟩ = some (.slice qA22 ql22.length qc22) := (blk_cell BQ.out 22).trans rfl; have p23 : wo.cell? ⟨ga, 23, none⟩ = some (.slice A23 l23.length c23) := (blk_cell BK.out 23).trans rfl; have q23 : wo.cell? ⟨gb, 23, none⟩ = some (.slice qA23 ql23.length qc23) := (blk_cell BQ.out 23).trans rfl; have p24 : wo.cell? ⟨ga, 24, none⟩ = some (.slice A24 l24.length c24) := (blk_cell BK.out 24).trans rfl; have q24 : wo.cell? ⟨gb, 24, none⟩ = some (.slice qA24 ql24.length qc24) := (blk_cell BQ.out 24).trans rfl
         go_wp2
         go_loopw [7] (fun i wr => ∃ k : Nat, k ≤ l24.length ∧ i = .int .i64 k ∧ Aside0 (l24.take k = ql24.take k) ∧ Aside0 (wr.heap[ga]? = some (.cells #[.int .i64 a0, .int .i64 a1, .bool a2, .int .i64 a3, .string a4, .bool a5, .string a6, .slice A7 l7.length c7, .int .i64 a8, .bool a9, .bool a10, .string a11, .bool a12, .slice A13 l13.length c13, .bool a14, .int .i64 a15, .bool a16, .string a17, .slice A18 l18.length c18, .int .i64 a19, .bool a20, .int .i64 a21, .slice A22 l22.length c22, .slice A23 l23.length c23, .slice A24 l24.length c24] 29 (0, 0))) ∧ Aside0 (wr.heap[gb]? = some (.cells #[.int .i64 qa0, .int .i64 qa1, .bool qa2, .int .i64 qa3, .string qa4, .bool qa5, .string qa6, .slice qA7 ql7.length qc7, .int .i64 qa8, .bool qa9, .bool qa10, .string qa11, .bool qa12, .slice qA13 ql13.length qc13, .bool qa14, .int .i64 qa15, .bool qa16, .string qa17, .slice qA18 ql18.length qc18, .int .i64 qa19, .bool qa20, .int .i64 qa21, .slice qA22 ql22.length qc22, .slice qA23 ql23.length qc23, .slice qA24 ql24.length qc24] 29 (0, 0))) ∧ Aside0 (Below w.heap.size w wr)) (fun i _ => l24.length - (intOf i).toNat)
         case atStart => exact ⟨0, Nat.zero_le _, rfl, ⟨by rw [List.take_zero, List.take_zero]⟩, BK, BQ, HB⟩
         case round =>
          clear HB BK BQ p22 q22 p23 q23 p24 q24
          obtain ⟨k, hk, rfl, HT24, BK, BQ, HB⟩ := hrel
          obtain ⟨wo, hwo⟩ : ∃ x, x = wr := ⟨_, rfl⟩; subst hwo
          have p24 : wo.cell? ⟨ga, 24, none⟩ = some (.slice A24 l24.length c24) := (blk_cell BK.out 24).trans rfl; have q24 : wo.cell? ⟨gb, 24, none⟩ = some (.slice qA24 ql24.length qc24) := (blk_cell BQ.out 24).trans rfl
          by_cases hlt : k < l24.length
          ·as_aux_lemma =>
            have hlq : k < ql24.length := by have := HL24.out; omega
            obtain ⟨ad0, e_, e0⟩ := Kd.at_string (Kd.C_below HP.out.r24 HB.out) (k : Int) (by omega) (by omega); subst e_; rw [Int.toNat_natCast] at e0
            obtain ⟨ad1, e_, f0⟩ := Kd.at_string (Kd.C_below HQ.out.r24 HB.out) (k : Int) (by omega) (by omega); subst e_; rw [Int.toNat_natCast] at f0
            by_cases he : l24[k]? = ql24[k]?
            ·skip
             have hv_ : rdOf ByteArray.empty ql24 k = rdOf ByteArray.empty l24 k := (by unfold rdOf; rw [List.getD_eq_getElem?_getD, List.getD_eq_getElem?_getD, Int.toNat_natCast, he]); rw [hv_] at f0; have HE_ := am he; clear he hv_
             go_wp2; repeat (go_quiet (fail); try go_wp2)
             go_roundw
             case rel => exact ⟨k + 1, by omega, by go_num, ⟨by rw [List.take_add_one, List.take_add_one, HT24.out, HE_.out]⟩, ⟨by first | exact BK.out | exact blk_drewN BK.out _⟩, ⟨by first | exact BQ.out | exact blk_drewN BQ.out _⟩, ⟨(by repeat (first | exact HB.out | (with_reducible first | apply below_alloc | apply pw_below_drewN | apply below_drew1)))⟩⟩
             case measure => simp [intOf]; omega
            ·have e : R = false := (Bool.eq_false_iff.2 (fun h => he (by rw [(HR.out.1 h).2.2.2.2])))
             subst e
             have hn_ := ne24 hlt (by have := HL24.out; omega) he; clear he
             go_wp2; repeat (go_quiet (fail); try go_wp2)
             all_goals (go_ret; exact ⟨rfl, (by repeat (first | exact HB.out | (with_reducible first | apply below_alloc | apply pw_below_drewN | apply below_drew1)))⟩)
          ·obtain rfl : k = l24.length := by omega
           have HT24' : Aside0 (l24 = ql24) := ⟨by have h1_ := HT24.out; rw [List.take_length, HL24.out, List.take_length] at h1_; exact h1_⟩
           have p22 : wo.cell? ⟨ga, 22, none⟩ = some (.slice A22 l22.length c22) := (blk_cell BK.out 22).trans rfl; have q22 : wo.cell? ⟨gb, 22, none⟩ = some (.slice qA22 ql22.length qc22) := (blk_cell BQ.out 22).trans rfl; have p23 : wo.cell? ⟨ga, 23, none⟩ = some (.slice A23 l23.length c23) := (blk_cell BK.out 23).trans rfl; have q23 : wo.cell? ⟨gb, 23, none⟩ = some (.slice qA23 ql23.length qc23) := (blk_cell BQ.out 23).trans rfl; have p24 : wo.cell? ⟨ga, 24, none⟩ = some (.slice A24 l24.length c24) := (blk_cell BK.out 24).trans rfl; have q24 : wo.cell? ⟨gb, 24, none⟩ = some (.slice qA24 ql24.length qc24) := (blk_cell BQ.out 24).trans rfl
           go_wp2
           have e : R = true := HR.out.2 ⟨hb68.out.symm, hb118.out.symm, HT22'.out, HT23'.out, HT24'.out⟩
           subst e
           go_ret
           exact ⟨rfl, HB.out⟩
end Go.Proofs.YtndhkgfeknkfdaaGreatDoor.Pk
