/- crierref2.bytes: how many bytes stand behind a packet's length. -/
import Derived.Test.YtndhkgfeknkfdaaGreatDoorMPacketChecksx5
import Derived.Test.YtndhkgfeknkfdaaGreatDoorPkt
namespace Go.Proofs.YtndhkgfeknkfdaaGreatDoor.Pk
open Go.RowKit Go.Proofs.YtndhkgfeknkfdaaGreatDoor.Giv Go.Proofs.YtndhkgfeknkfdaaGreatDoorW.PrintWords Go.Proofs.YtndhkgfeknkfdaaGreatDoorW.PrintLast Go.Proofs.YtndhkgfeknkfdaaGreatDoorW.PrintMore Go.Proofs.YtndhkgfeknkfdaaGreatDoor.MPacketChecks
set_option linter.unusedVariables false
set_option linter.unusedSimpArgs false
set_option maxHeartbeats 8000000
set_option maxRecDepth 100000

def midV (k : Int) (b5 b10 b12 : Bool) (s4 s6 s7 s11 s13 s17 s18 : Int) (l22 : List S82) (l24 : List ByteArray) (s23 : Int) : Int :=
  if k = 1 then partV b12 (partV b10 (partV b5 (partV b5 (12 + s4) s6) s7) s11) s13 else if k = 2 then 2 else if k = 3 then 2 + s17 + s18 else if k = 8 then sumA l22 else if k = 9 then s23 else if k = 10 then sumT l24 else 0
theorem w64 {n : Int} (h0 : -9223372036854775808 ≤ n) (h1 : n ≤ 9223372036854775807) : wrap64 n = n := by unfold wrap64; omega
theorem midV_bd {k : Int} {b5 b10 b12 : Bool} {s4 s6 s7 s11 s13 s17 s18 : Int} {l22 : List S82} {l24 : List ByteArray} {s23 : Int} (h4 : 0 ≤ s4) (h6 : 0 ≤ s6) (h7 : 0 ≤ s7) (h11 : 0 ≤ s11) (h13 : 0 ≤ s13) (h17 : 0 ≤ s17) (h18 : 0 ≤ s18) (h23 : 0 ≤ s23) (u4 : s4 ≤ 4294967280) (u6 : s6 ≤ 4294967280) (u7 : s7 ≤ 4294967280) (u11 : s11 ≤ 4294967280) (u13 : s13 ≤ 4294967280) (u17 : s17 ≤ 4294967280) (u18 : s18 ≤ 4294967280) (u23 : s23 ≤ 4294967280) (u22 : sumA l22 ≤ 4294967280) (u24 : sumT l24 ≤ 4294967280) (g22 : (l22.length : Int) ≤ sumA l22) (g24 : (l24.length : Int) ≤ sumT l24) :
    0 ≤ midV k b5 b10 b12 s4 s6 s7 s11 s13 s17 s18 l22 l24 s23 ∧ midV k b5 b10 b12 s4 s6 s7 s11 s13 s17 s18 l22 l24 s23 ≤ 99999999999 := by
  unfold midV partV
  cases b5 <;> cases b10 <;> cases b12 <;> simp only [if_true, Bool.false_eq_true, if_false] <;> (repeat' split) <;> omega
theorem rbytes_calls (a0 : Int) (a1 : Int) (a2 : Bool) (a3 : Int) (a4 : ByteArray) (a5 : Bool) (a6 : ByteArray) (A7 : Option Addr) (c7 : Nat) (l7 : List Int) (a8 : Int) (a9 : Bool) (a10 : Bool) (a11 : ByteArray) (a12 : Bool) (A13 : Option Addr) (c13 : Nat) (l13 : List Int) (a14 : Bool) (a15 : Int) (a16 : Bool) (a17 : ByteArray) (A18 : Option Addr) (c18 : Nat) (l18 : List Int) (a19 : Int) (a20 : Bool) (a21 : Int) (A22 : Option Addr) (c22 : Nat) (l22 : List S82) (A23 : Option Addr) (c23 : Nat) (l23 : List Int) (A24 : Option Addr) (c24 : Nat) (l24 : List ByteArray) (nb : Bool) (w : World) (hr : Rd w A7 c7 l7 A13 c13 l13 A18 c18 l18 A22 c22 l22 A23 c23 l23 A24 c24 l24) (h3 : crierref2_numbered.f a0 a1 a2 a3 a4 a5 a6 l7 a8 a9 a10 a11 a12 l13 a14 a15 a16 a17 l18 a19 a20 a21 l22 l23 l24 = some nb) (hs : P.sum ⟨a0, a1, a2, a3, a4, a5, a6, l7, a8, a9, a10, a11, a12, l13, a14, a15, a16, a17, l18, a19, a20, a21, l22, l23, l24⟩ ≤ 4294967280) :
    Calls Tryz.prog 107 #[.agg #[.int .i64 a0, .int .i64 a1, .bool a2, .int .i64 a3, .string a4, .bool a5, .string a6, .slice A7 l7.length c7, .int .i64 a8, .bool a9, .bool a10, .string a11, .bool a12, .slice A13 l13.length c13, .bool a14, .int .i64 a15, .bool a16, .string a17, .slice A18 l18.length c18, .int .i64 a19, .bool a20, .int .i64 a21, .slice A22 l22.length c22, .slice A23 l23.length c23, .slice A24 l24.length c24]] w fun e w' => e = .returned (.int .i64 (partV nb (midV a0 a5 a10 a12 a4.size a6.size l7.length a11.size l13.length a17.size l18.length l22 l24 l23.length) 0)) ∧ Below w.heap.size w w' := by
  have hu29 := Tryz.underlying29
  have hu24 := Tryz.underlying24
  have g22 := sumA_len l22; have g24 := sumT_len l24
  have hs_ : (a4.size : Int) + a6.size + l7.length + a11.size + l13.length + a17.size + l18.length + l23.length + sumA l22 + sumT l24 ≤ 4294967280 := hs
  obtain ⟨b4, b6, b7, b11, b13, b17, b18, b23, b22, b24⟩ := sums hs_ (Int.natCast_nonneg _) (Int.natCast_nonneg _) (Int.natCast_nonneg _) (Int.natCast_nonneg _) (Int.natCast_nonneg _) (Int.natCast_nonneg _) (Int.natCast_nonneg _) (Int.natCast_nonneg _) (by have := g22; omega) (by have := g24; omega)
  have HS := Aside0.mk hs
  have HRD := Aside0.mk hr; have HNB := Aside0.mk h3
  clear hr h3 hs hs_
  have HB := Aside0.mk (Below.refl w.heap.size w)
  go_enter Tryz.func107, Tryz.ntmps107
  go_upto_block 0 with (first | ((with_reducible refine gate_dst (N := 1) rfl ?_); refine box_event ?hg (N := 1) ?hd (cs := #[.int .i64 a0, .int .i64 a1, .bool a2, .int .i64 a3, .string a4, .bool a5, .string a6, .slice A7 l7.length c7, .int .i64 a8, .bool a9, .bool a10, .string a11, .bool a12, .slice A13 l13.length c13, .bool a14, .int .i64 a15, .bool a16, .string a17, .slice A18 l18.length c18, .int .i64 a19, .bool a20, .int .i64 a21, .slice A22 l22.length c22, .slice A23 l23.length c23, .slice A24 l24.length c24]) (t := 29) ?hr ?_; (case hd => rfl); (case hg => rfl); (case hr => first | (go_simp; done) | (go_simp; rfl)); intro gb hg w3 hbox hb; have n0_ := Aside0.mk (below_step HB.out hb); clear HB; have HB := n0_; clear n0_; have BK := Aside0.mk hbox; clear hb hbox hg; have hz0 : w3.cell? ⟨gb, 0, none⟩ = some (.int .i64 a0) := (blk_cell BK.out 0).trans rfl))
  (try simp only [Act.put, List.setIfInBounds_toArray, List.set_cons_zero, List.set_cons_succ])
  generalize (Value.agg #[.int .i64 a0, .int .i64 a1, .bool a2, .int .i64 a3, .string a4, .bool a5, .string a6, .slice A7 l7.length c7, .int .i64 a8, .bool a9, .bool a10, .string a11, .bool a12, .slice A13 l13.length c13, .bool a14, .int .i64 a15, .bool a16, .string a17, .slice A18 l18.length c18, .int .i64 a19, .bool a20, .int .i64 a21, .slice A22 l22.length c22, .slice A23 l23.length c23, .slice A24 l24.length c24]) = v0
  go_cut [3, 4, 5] (fun v v4_ v5_ wc => ∃ n : Int, v = .int .i64 n ∧ Aside0 (n = midV a0 a5 a10 a12 a4.size a6.size l7.length a11.size l13.length a17.size l18.length l22 l24 l23.length) ∧ Aside0 (wc.heap[gb]? = some (.cells #[.int .i64 a0, .int .i64 a1, .bool a2, .int .i64 a3, .string a4, .bool a5, .string a6, .slice A7 l7.length c7, .int .i64 a8, .bool a9, .bool a10, .string a11, .bool a12, .slice A13 l13.length c13, .bool a14, .int .i64 a15, .bool a16, .string a17, .slice A18 l18.length c18, .int .i64 a19, .bool a20, .int .i64 a21, .slice A22 l22.length c22, .slice A23 l23.length c23, .slice A24 l24.length c24] 29 (0, 0))) ∧ Aside0 (Below w.heap.size w wc))
  case first =>
    by_cases k1 : a0 = 1
    · subst k1
      as_aux_lemma =>
      have hz4 : w3.cell? ⟨gb, 4, none⟩ = some (.string a4) := (blk_cell BK.out 4).trans rfl
      have hz5 : w3.cell? ⟨gb, 5, none⟩ = some (.bool a5) := (blk_cell BK.out 5).trans rfl
      have hz6 : w3.cell? ⟨gb, 6, none⟩ = some (.string a6) := (blk_cell BK.out 6).trans rfl
      have hz7 : w3.cell? ⟨gb, 7, none⟩ = some (.slice A7 l7.length c7) := (blk_cell BK.out 7).trans rfl
      have hz10 : w3.cell? ⟨gb, 10, none⟩ = some (.bool a10) := (blk_cell BK.out 10).trans rfl
      have hz11 : w3.cell? ⟨gb, 11, none⟩ = some (.string a11) := (blk_cell BK.out 11).trans rfl
      have hz12 : w3.cell? ⟨gb, 12, none⟩ = some (.bool a12) := (blk_cell BK.out 12).trans rfl
      have hz13 : w3.cell? ⟨gb, 13, none⟩ = some (.slice A13 l13.length c13) := (blk_cell BK.out 13).trans rfl
      go_wp2
      all_goals (go_meet; (case rel => exact ⟨_, rfl, ⟨by simp [midV, partV, *]; (try simp (disch := omega) only [w64]); (try omega)⟩, BK, HB⟩))
    by_cases k2 : a0 = 2
    · subst k2
      as_aux_lemma =>
      go_wp2
      all_goals (go_meet; (case rel => exact ⟨_, rfl, ⟨by simp [midV, partV, *]; (try simp (disch := omega) only [w64]); (try omega)⟩, BK, HB⟩))
    by_cases k3 : a0 = 3
    · subst k3
      as_aux_lemma =>
      have hz17 : w3.cell? ⟨gb, 17, none⟩ = some (.string a17) := (blk_cell BK.out 17).trans rfl
      have hz18 : w3.cell? ⟨gb, 18, none⟩ = some (.slice A18 l18.length c18) := (blk_cell BK.out 18).trans rfl
      go_wp2
      all_goals (go_meet; (case rel => exact ⟨_, rfl, ⟨by simp [midV, partV, *]; (try simp (disch := omega) only [w64]); (try omega)⟩, BK, HB⟩))
    by_cases k9 : a0 = 9
    · subst k9
      as_aux_lemma =>
      have hz23 : w3.cell? ⟨gb, 23, none⟩ = some (.slice A23 l23.length c23) := (blk_cell BK.out 23).trans rfl
      go_wp2
      all_goals (go_meet; (case rel => exact ⟨_, rfl, ⟨by simp [midV, partV, *]; (try simp (disch := omega) only [w64]); (try omega)⟩, BK, HB⟩))
    by_cases k8 : a0 = 8
    · subst k8
      as_aux_lemma =>
      have hz22 : w3.cell? ⟨gb, 22, none⟩ = some (.slice A22 l22.length c22) := (blk_cell BK.out 22).trans rfl
      go_wp2
      go_loopw [3, 4] (fun n i wr => ∃ k : Nat, k ≤ l22.length ∧ i = .int .i64 k ∧ n = .int .i64 (sumA (l22.take k)) ∧ Aside0 (wr.heap[gb]? = some (.cells #[.int .i64 8, .int .i64 a1, .bool a2, .int .i64 a3, .string a4, .bool a5, .string a6, .slice A7 l7.length c7, .int .i64 a8, .bool a9, .bool a10, .string a11, .bool a12, .slice A13 l13.length c13, .bool a14, .int .i64 a15, .bool a16, .string a17, .slice A18 l18.length c18, .int .i64 a19, .bool a20, .int .i64 a21, .slice A22 l22.length c22, .slice A23 l23.length c23, .slice A24 l24.length c24] 29 (0, 0))) ∧ Aside0 (Below w.heap.size w wr)) (fun _ i _ => l22.length - (intOf i).toNat)
      case atStart => exact ⟨0, Nat.zero_le _, rfl, by rw [List.take_zero]; rfl, BK, HB⟩
      case round =>
        clear BK HB hz22
        obtain ⟨k, hk, rfl, rfl, BK, HB⟩ := hrel
        obtain ⟨wo, hwo⟩ : ∃ x, x = wr := ⟨_, rfl⟩; subst hwo
        by_cases hlt : k < l22.length
        · skip
          obtain ⟨ad, e_, e0, e1⟩ := at_T82 (Kd.C_below HRD.out.r22 HB.out) (k : Int) (by omega) (by omega); subst e_; rw [Int.toNat_natCast] at e0 e1
          have hz22 : wo.cell? ⟨gb, 22, none⟩ = some (.slice (some ad) l22.length c22) := (blk_cell BK.out 22).trans rfl
          have hst := sumA_step l22 k (by omega) (by omega); have hle := sumA_le l22 k; have hle2 := sumA_le l22 (k + 1)
          rw [show ((k : Int) + 1).toNat = k + 1 by omega, Int.toNat_natCast] at hst
          have HST := Aside0.mk hst; clear hst
          go_wp2
          go_roundw
          case rel => exact ⟨k + 1, by omega, by go_num, by have h1 := HST.out; congr 1; rw [h1]; (try simp (disch := omega) only [w64]); (try omega), BK, HB⟩
          case measure => simp [intOf]; omega
        · obtain rfl : k = l22.length := by omega
          have hz22 : wo.cell? ⟨gb, 22, none⟩ = some (.slice A22 l22.length c22) := (blk_cell BK.out 22).trans rfl
          rw [List.take_length]
          go_wp2
          go_meet
          case rel => exact ⟨_, rfl, ⟨by simp [midV]⟩, BK, HB⟩
    by_cases k10 : a0 = 10
    · subst k10
      as_aux_lemma =>
      have hz24 : w3.cell? ⟨gb, 24, none⟩ = some (.slice A24 l24.length c24) := (blk_cell BK.out 24).trans rfl
      go_wp2
      go_loopw [3, 5] (fun n i wr => ∃ k : Nat, k ≤ l24.length ∧ i = .int .i64 k ∧ n = .int .i64 (sumT (l24.take k)) ∧ Aside0 (wr.heap[gb]? = some (.cells #[.int .i64 10, .int .i64 a1, .bool a2, .int .i64 a3, .string a4, .bool a5, .string a6, .slice A7 l7.length c7, .int .i64 a8, .bool a9, .bool a10, .string a11, .bool a12, .slice A13 l13.length c13, .bool a14, .int .i64 a15, .bool a16, .string a17, .slice A18 l18.length c18, .int .i64 a19, .bool a20, .int .i64 a21, .slice A22 l22.length c22, .slice A23 l23.length c23, .slice A24 l24.length c24] 29 (0, 0))) ∧ Aside0 (Below w.heap.size w wr)) (fun _ i _ => l24.length - (intOf i).toNat)
      case atStart => exact ⟨0, Nat.zero_le _, rfl, by rw [List.take_zero]; rfl, BK, HB⟩
      case round =>
        clear BK HB hz24
        obtain ⟨k, hk, rfl, rfl, BK, HB⟩ := hrel
        obtain ⟨wo, hwo⟩ : ∃ x, x = wr := ⟨_, rfl⟩; subst hwo
        by_cases hlt : k < l24.length
        · skip
          obtain ⟨ad, e_, e0⟩ := Kd.at_string (Kd.C_below HRD.out.r24 HB.out) (k : Int) (by omega) (by omega); subst e_; rw [Int.toNat_natCast] at e0
          have hz24 : wo.cell? ⟨gb, 24, none⟩ = some (.slice (some ad) l24.length c24) := (blk_cell BK.out 24).trans rfl
          have hst := sumT_step l24 k (by omega) (by omega); have hle := sumT_le l24 k; have hle2 := sumT_le l24 (k + 1)
          rw [show ((k : Int) + 1).toNat = k + 1 by omega, Int.toNat_natCast] at hst
          have HST := Aside0.mk hst; clear hst
          go_wp2
          go_roundw
          case rel => exact ⟨k + 1, by omega, by go_num, by have h1 := HST.out; congr 1; rw [h1]; (try simp (disch := omega) only [w64]); (try omega), BK, HB⟩
          case measure => simp [intOf]; omega
        · obtain rfl : k = l24.length := by omega
          have hz24 : wo.cell? ⟨gb, 24, none⟩ = some (.slice A24 l24.length c24) := (blk_cell BK.out 24).trans rfl
          rw [List.take_length]
          go_wp2
          go_meet
          case rel => exact ⟨_, rfl, ⟨by simp [midV]⟩, BK, HB⟩
    as_aux_lemma =>
    have hz0 : w3.cell? ⟨gb, 0, none⟩ = some (.int .i64 a0) := (blk_cell BK.out 0).trans rfl
    go_wp2
    all_goals (go_meet; (case rel => exact ⟨_, rfl, ⟨by simp [midV, *]⟩, BK, HB⟩))
  case rest =>
    clear HB BK
    obtain ⟨n, rfl, HN, BK, HB⟩ := hcut
    obtain ⟨wA, hwA⟩ : ∃ x, x = wc := ⟨_, rfl⟩; subst hwA
    have hm := midV_bd (k := a0) (b5 := a5) (b10 := a10) (b12 := a12) (l22 := l22) (l24 := l24) (Int.natCast_nonneg a4.size) (Int.natCast_nonneg a6.size) (Int.natCast_nonneg l7.length) (Int.natCast_nonneg a11.size) (Int.natCast_nonneg l13.length) (Int.natCast_nonneg a17.size) (Int.natCast_nonneg l18.length) (Int.natCast_nonneg l23.length) b4 b6 b7 b11 b13 b17 b18 b23 b22 b24 g22 g24
    rw [← HN.out] at hm
    go_wp2_with (first | ((with_reducible refine gate_dst (N := 101) rfl ?_); refine wpList_load_row rfl 29 (.tmp 1) rfl gb rfl 29 #[.int .i64 a0, .int .i64 a1, .bool a2, .int .i64 a3, .string a4, .bool a5, .string a6, .slice A7 l7.length c7, .int .i64 a8, .bool a9, .bool a10, .string a11, .bool a12, .slice A13 l13.length c13, .bool a14, .int .i64 a15, .bool a16, .string a17, .slice A18 l18.length c18, .int .i64 a19, .bool a20, .int .i64 a21, .slice A22 l22.length c22, .slice A23 l23.length c23, .slice A24 l24.length c24] (0, 0) _ BK.out hu29 rfl (by kernel_rfl) ?_) | (go_at_call 106; (refine (crierref2_numbered.calls a0 a1 a2 a3 a4 a5 a6 A7 c7 l7 a8 a9 a10 a11 a12 A13 c13 l13 a14 a15 a16 a17 A18 c18 l18 a19 a20 a21 A22 c22 l22 A23 c23 l23 A24 c24 l24 nb _ ?s1 HRD.out.k7 ?s2 HRD.out.k13 ?s3 HRD.out.k18 ?s4 HRD.out.k22 ?s5 HRD.out.k23 ?s6 HRD.out.k24 HNB.out).mono ?_); (case s1 => exact Kd.C_below HRD.out.r7 (by repeat (first | exact HB.out | (with_reducible first | apply below_alloc | apply pw_below_drewN | apply below_drew1)))); (case s2 => exact Kd.C_below HRD.out.r13 (by repeat (first | exact HB.out | (with_reducible first | apply below_alloc | apply pw_below_drewN | apply below_drew1)))); (case s3 => exact Kd.C_below HRD.out.r18 (by repeat (first | exact HB.out | (with_reducible first | apply below_alloc | apply pw_below_drewN | apply below_drew1)))); (case s4 => exact Kd.C_below HRD.out.r22 (by repeat (first | exact HB.out | (with_reducible first | apply below_alloc | apply pw_below_drewN | apply below_drew1)))); (case s5 => exact Kd.C_below HRD.out.r23 (by repeat (first | exact HB.out | (with_reducible first | apply below_alloc | apply pw_below_drewN | apply below_drew1)))); (case s6 => exact Kd.C_below HRD.out.r24 (by repeat (first | exact HB.out | (with_reducible first | apply below_alloc | apply pw_below_drewN | apply below_drew1)))); rintro e w9 ⟨rfl, hb⟩; have n0_ := Aside0.mk (below_step (by repeat (first | exact HB.out | (with_reducible first | apply below_alloc | apply pw_below_drewN | apply below_drew1))) hb); have n1_ := Aside0.mk (blk_below BK.out hb); clear HB BK; have HB := n0_; have BK := n1_; clear n0_ n1_; clear hb; cases nb))
    · go_ret; exact ⟨by rw [← HN.out]; rfl, HB.out⟩
    · go_ret; exact ⟨by rw [← HN.out]; simp [partV], HB.out⟩
end Go.Proofs.YtndhkgfeknkfdaaGreatDoor.Pk
