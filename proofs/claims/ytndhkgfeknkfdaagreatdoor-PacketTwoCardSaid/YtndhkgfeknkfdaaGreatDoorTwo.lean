/- crierlaw2.PacketTwo: it answers true. -/
import Derived.Test.YtndhkgfeknkfdaaGreatDoorTw0
import Derived.Test.YtndhkgfeknkfdaaGreatDoorRsa
import Derived.Lib.AppendIntMem
import Derived.Test.YtndhkgfeknkfdaaGreatDoorLw2
import Derived.Test.YtndhkgfeknkfdaaGreatDoorSam
import Derived.Test.YtndhkgfeknkfdaaGreatDoorFw2
import Derived.Test.YtndhkgfeknkfdaaGreatDoorRcp
import Derived.Test.YtndhkgfeknkfdaaGreatDoorCpz
import Derived.Test.YtndhkgfeknkfdaaGreatDoorHdr
namespace Go.Proofs.YtndhkgfeknkfdaaGreatDoor.Pk
theorem sumT_mem : ∀ (l : List ByteArray) (y : ByteArray), y ∈ l → (y.size : Int) ≤ sumT l
 | [], y, h => by cases h
 | x :: l, y, h => by
  have h0 := sumT_len l
  have e : sumT (x :: l) = 2 + (x.size : Int) + sumT l := rfl
  rcases List.mem_cons.1 h with rfl | h
  ·omega
  ·have := sumT_mem l y h
   omega
theorem sz24 {p : P} (h : p.sum ≤ 900000) : ∀ y ∈ p.l24, y.size ≤ 900000 := fun y hy => by
 have h1 := sumT_mem _ _ hy
 have n22 := sumA_len p.l22
 unfold P.sum at h
 omega
theorem sz6 {p : P} (h : p.sum ≤ 900000) : p.l7.length ≤ 1000000 ∧ p.l13.length ≤ 1000000 ∧ p.l18.length ≤ 1000000 ∧ p.l22.length ≤ 1000000 ∧ p.l23.length ≤ 1000000 ∧ p.l24.length ≤ 1000000 := by
 have n22 := sumA_len p.l22
 have n24 := sumT_len p.l24
 unfold P.sum at h
 omega
end Go.Proofs.YtndhkgfeknkfdaaGreatDoor.Pk
namespace Go.Proofs.YtndhkgfeknkfdaaGreatDoor.Rm
open Go.RowKit Go.Proofs.YtndhkgfeknkfdaaGreatDoorW.PrintWords Go.Proofs.YtndhkgfeknkfdaaGreatDoorW.PrintLast Go.Proofs.YtndhkgfeknkfdaaGreatDoorW.PrintMore Go.Proofs.YtndhkgfeknkfdaaGreatDoor.MPacketChecks
open Go.Act renaming put → zp
open List renaming setIfInBounds_toArray → zi, set_cons_zero → zz, set_cons_succ → zs
open Go.Proofs.YtndhkgfeknkfdaaGreatDoorW.PrintWords.Aside0 renaming mk → am
set_option linter.unusedVariables false
set_option linter.unusedSimpArgs false
set_option maxHeartbeats 4000000
set_option maxRecDepth 100000
theorem rangeAt_block {w : World} {g : Nat} {cs : Array Value} {t : TypeId} {fr : Nat × Nat} (h : w.heap[g]? = some (.cells cs t fr)) : w.rangeAt g 0 cs.toList := fun j v hv => by
 rw [Nat.zero_add, cell_of_row w g j cs t fr h]
 simpa using hv
theorem PacketTwo_calls (a0 : Int) (a1 : Int) (a2 : Bool) (a3 : Int) (a4 : ByteArray) (a5 : Bool) (a6 : ByteArray) (A7 : Option Addr) (c7 : Nat) (l7 : List Int) (a8 : Int) (a9 : Bool) (a10 : Bool) (a11 : ByteArray) (a12 : Bool) (A13 : Option Addr) (c13 : Nat) (l13 : List Int) (a14 : Bool) (a15 : Int) (a16 : Bool) (a17 : ByteArray) (A18 : Option Addr) (c18 : Nat) (l18 : List Int) (a19 : Int) (a20 : Bool) (a21 : Int) (A22 : Option Addr) (c22 : Nat) (l22 : List S82) (A23 : Option Addr) (c23 : Nat) (l23 : List Int) (A24 : Option Addr) (c24 : Nat) (l24 : List ByteArray) (qa0 : Int) (qa1 : Int) (qa2 : Bool) (qa3 : Int) (qa4 : ByteArray) (qa5 : Bool) (qa6 : ByteArray) (qA7 : Option Addr) (qc7 : Nat) (ql7 : List Int) (qa8 : Int) (qa9 : Bool) (qa10 : Bool) (qa11 : ByteArray) (qa12 : Bool) (qA13 : Option Addr) (qc13 : Nat) (ql13 : List Int) (qa14 : Bool) (qa15 : Int) (qa16 : Bool) (qa17 : ByteArray) (qA18 : Option Addr) (qc18 : Nat) (ql18 : List Int) (qa19 : Int) (qa20 : Bool) (qa21 : Int) (qA22 : Option Addr) (qc22 : Nat) (ql22 : List S82) (qA23 : Option Addr) (qc23 : Nat) (ql23 : List Int) (qA24 : Option Addr) (qc24 : Nat) (ql24 : List ByteArray) (w : World) (hT : Lib.TabIs Tryz.prog w "internal/strconv.uint64pow10" .u64 Lib.pow10Tab) (hp : Pk.Rd w A7 c7 l7 A13 c13 l13 A18 c18 l18 A22 c22 l22 A23 c23 l23 A24 c24 l24) (hq : Pk.Rd w qA7 qc7 ql7 qA13 qc13 ql13 qA18 qc18 ql18 qA22 qc22 ql22 qA23 qc23 ql23 qA24 qc24 ql24) (hf : Pk.P.fits ⟨a0, a1, a2, a3, a4, a5, a6, l7, a8, a9, a10, a11, a12, l13, a14, a15, a16, a17, l18, a19, a20, a21, l22, l23, l24⟩) (hf2 : Pk.P.fits ⟨qa0, qa1, qa2, qa3, qa4, qa5, qa6, ql7, qa8, qa9, qa10, qa11, qa12, ql13, qa14, qa15, qa16, qa17, ql18, qa19, qa20, qa21, ql22, ql23, ql24⟩) (hy : Pk.By l7 ∧ Pk.By l13 ∧ Pk.By l18) (hy2 : Pk.By ql7 ∧ Pk.By ql13 ∧ Pk.By ql18) :
  Calls Tryz.prog 4 #[.agg #[.int .i64 a0, .int .i64 a1, .bool a2, .int .i64 a3, .string a4, .bool a5, .string a6, .slice A7 l7.length c7, .int .i64 a8, .bool a9, .bool a10, .string a11, .bool a12, .slice A13 l13.length c13, .bool a14, .int .i64 a15, .bool a16, .string a17, .slice A18 l18.length c18, .int .i64 a19, .bool a20, .int .i64 a21, .slice A22 l22.length c22, .slice A23 l23.length c23, .slice A24 l24.length c24], .agg #[.int .i64 qa0, .int .i64 qa1, .bool qa2, .int .i64 qa3, .string qa4, .bool qa5, .string qa6, .slice qA7 ql7.length qc7, .int .i64 qa8, .bool qa9, .bool qa10, .string qa11, .bool qa12, .slice qA13 ql13.length qc13, .bool qa14, .int .i64 qa15, .bool qa16, .string qa17, .slice qA18 ql18.length qc18, .int .i64 qa19, .bool qa20, .int .i64 qa21, .slice qA22 ql22.length qc22, .slice qA23 ql23.length qc23, .slice qA24 ql24.length qc24]] w fun e w' => e = .returned (.bool true) ∧ Below w.heap.size w w' := by
 have hu29 := Tryz.underlying29
 have HP := am hp; have HQ := am hq; have HT := am hT; have HF := am hf; have HF2 := am hf2; have HY := am hy; have HY2 := am hy2
 clear hp hq hT hf hf2 hy hy2
 have HB := am (Below.refl w.heap.size w)
 go_enter Tryz.func4, Tryz.ntmps4
 go_upto_region 1 with (first | ((with_reducible refine gate_dst (N := 2) rfl ?_); refine box_event ?hg2 (N := 2) ?hd2 (cs := #[.int .i64 a0, .int .i64 a1, .bool a2, .int .i64 a3, .string a4, .bool a5, .string a6, .slice A7 l7.length c7, .int .i64 a8, .bool a9, .bool a10, .string a11, .bool a12, .slice A13 l13.length c13, .bool a14, .int .i64 a15, .bool a16, .string a17, .slice A18 l18.length c18, .int .i64 a19, .bool a20, .int .i64 a21, .slice A22 l22.length c22, .slice A23 l23.length c23, .slice A24 l24.length c24]) (t := 29) ?hr2 ?_; (case hd2 => rfl); (case hg2 => rfl); (case hr2 => first | (go_simp; done) | (go_simp; rfl)); intro ga hg wa_ hbox hb; have BK := am hbox; have n0_ := am (below_step HB.out hb); have GA := am (show w.heap.size ≤ ga by rw [hg]; exact HB.out.size); clear HB; have HB := n0_; clear n0_ hb hbox hg) | ((with_reducible refine gate_dst (N := 3) rfl ?_); refine box_event ?hg3 (N := 3) ?hd3 (cs := #[.int .i64 qa0, .int .i64 qa1, .bool qa2, .int .i64 qa3, .string qa4, .bool qa5, .string qa6, .slice qA7 ql7.length qc7, .int .i64 qa8, .bool qa9, .bool qa10, .string qa11, .bool qa12, .slice qA13 ql13.length qc13, .bool qa14, .int .i64 qa15, .bool qa16, .string qa17, .slice qA18 ql18.length qc18, .int .i64 qa19, .bool qa20, .int .i64 qa21, .slice qA22 ql22.length qc22, .slice qA23 ql23.length qc23, .slice qA24 ql24.length qc24]) (t := 29) ?hr3 ?_; (case hd3 => rfl); (case hg3 => rfl); (case hr3 => first | (go_simp; done) | (go_simp; rfl)); intro gb hg wo hbox hb; have BQ := am hbox; have n0_ := am (below_step HB.out hb); have n1_ := am (blk_below BK.out hb); clear HB BK; have HB := n0_; have BK := n1_; clear n0_ n1_ hb hbox hg))
 try simp only [zp, zi, zz, zs]
 generalize (Value.agg #[.int .i64 a0, .int .i64 a1, .bool a2, .int .i64 a3, .string a4, .bool a5, .string a6, .slice A7 l7.length c7, .int .i64 a8, .bool a9, .bool a10, .string a11, .bool a12, .slice A13 l13.length c13, .bool a14, .int .i64 a15, .bool a16, .string a17, .slice A18 l18.length c18, .int .i64 a19, .bool a20, .int .i64 a21, .slice A22 l22.length c22, .slice A23 l23.length c23, .slice A24 l24.length c24]) = v0
 generalize (Value.agg #[.int .i64 qa0, .int .i64 qa1, .bool qa2, .int .i64 qa3, .string qa4, .bool qa5, .string qa6, .slice qA7 ql7.length qc7, .int .i64 qa8, .bool qa9, .bool qa10, .string qa11, .bool qa12, .slice qA13 ql13.length qc13, .bool qa14, .int .i64 qa15, .bool qa16, .string qa17, .slice qA18 ql18.length qc18, .int .i64 qa19, .bool qa20, .int .i64 qa21, .slice qA22 ql22.length qc22, .slice qA23 ql23.length qc23, .slice qA24 ql24.length qc24]) = v1
 go_wp2_with (first | ((with_reducible refine gate_dst (N := 11) rfl ?_); refine wpList_load_row rfl 29 (.tmp 2) rfl ga rfl 29 #[.int .i64 a0, .int .i64 a1, .bool a2, .int .i64 a3, .string a4, .bool a5, .string a6, .slice A7 l7.length c7, .int .i64 a8, .bool a9, .bool a10, .string a11, .bool a12, .slice A13 l13.length c13, .bool a14, .int .i64 a15, .bool a16, .string a17, .slice A18 l18.length c18, .int .i64 a19, .bool a20, .int .i64 a21, .slice A22 l22.length c22, .slice A23 l23.length c23, .slice A24 l24.length c24] (0, 0) _ BK.out hu29 rfl (by kernel_rfl) ?_) | ((with_reducible refine gate_dst (N := 12) rfl ?_); refine wpList_load_row rfl 29 (.tmp 3) rfl gb rfl 29 #[.int .i64 qa0, .int .i64 qa1, .bool qa2, .int .i64 qa3, .string qa4, .bool qa5, .string qa6, .slice qA7 ql7.length qc7, .int .i64 qa8, .bool qa9, .bool qa10, .string qa11, .bool qa12, .slice qA13 ql13.length qc13, .bool qa14, .int .i64 qa15, .bool qa16, .string qa17, .slice qA18 ql18.length qc18, .int .i64 qa19, .bool qa20, .int .i64 qa21, .slice qA22 ql22.length qc22, .slice qA23 ql23.length qc23, .slice qA24 ql24.length qc24] (0, 0) _ BQ.out hu29 rfl (by kernel_rfl) ?_))
 refine (Pk.few_two a0 a1 a2 a3 a4 a5 a6 A7 c7 l7 a8 a9 a10 a11 a12 A13 c13 l13 a14 a15 a16 a17 A18 c18 l18 a19 a20 a21 A22 c22 l22 A23 c23 l23 A24 c24 l24 qa0 qa1 qa2 qa3 qa4 qa5 qa6 qA7 qc7 ql7 qa8 qa9 qa10 qa11 qa12 qA13 qc13 ql13 qa14 qa15 qa16 qa17 qA18 qc18 ql18 qa19 qa20 qa21 qA22 qc22 ql22 qA23 qc23 ql23 qA24 qc24 ql24 wo.heap.size 2 _ (HP.out.below (below_alloc HB.out _)) (HQ.out.below (below_alloc HB.out _)) (blk_new wo _) HF.out HF2.out).mono ?_
 rintro e w2_ ⟨b, rfl, hs, hb0⟩
 have hb := below_step (below_alloc (Below.refl wo.heap.size wo) _) hb0; have n0_ := am (below_step HB.out hb); have n1_ := am (blk_below BK.out hb); have n2_ := am (blk_below BQ.out hb); clear HB BK BQ hb hb0; have HB := n0_; have BK := n1_; have BQ := n2_; clear n0_ n1_ n2_
 cases b with
 | false => clear hs; go_wp2; go_ret; exact ⟨rfl, HB.out⟩
 | true =>
  have HS := am (hs rfl); clear hs
  go_upto_region 3 with (fail)
  try simp only [zp, zi, zz, zs]
  obtain ⟨wo, hwo⟩ : ∃ z, z = w2_ := ⟨_, rfl⟩; subst hwo
  obtain ⟨krW, krM, krB, rW, rM, rB, R, x1, x2, x3, x4, x5⟩ := Pk.two_law ⟨a0, a1, a2, a3, a4, a5, a6, l7, a8, a9, a10, a11, a12, l13, a14, a15, a16, a17, l18, a19, a20, a21, l22, l23, l24⟩ ⟨qa0, qa1, qa2, qa3, qa4, qa5, qa6, ql7, qa8, qa9, qa10, qa11, qa12, ql13, qa14, qa15, qa16, qa17, ql18, qa19, qa20, qa21, ql22, ql23, ql24⟩ (by have := HS.out; omega) HY.out HY2.out
  obtain ⟨kqW, kqM, kqB, qW, qM, qB, R2, y1, y2, y3, y4, y5⟩ := Pk.two_law ⟨qa0, qa1, qa2, qa3, qa4, qa5, qa6, ql7, qa8, qa9, qa10, qa11, qa12, ql13, qa14, qa15, qa16, qa17, ql18, qa19, qa20, qa21, ql22, ql23, ql24⟩ ⟨a0, a1, a2, a3, a4, a5, a6, l7, a8, a9, a10, a11, a12, l13, a14, a15, a16, a17, l18, a19, a20, a21, l22, l23, l24⟩ (by have := HS.out; omega) HY2.out HY.out
  obtain rfl : R = R2 := Bool.eq_iff_iff.2 (x5.trans (Iff.trans ⟨Pk.Alike.symm, Pk.Alike.symm⟩ y5.symm))
  have X1 := am x1; have X2 := am x2; have X3 := am x3; have X4 := am x4; have X5 := am x5; have Y1 := am y1; have Y2 := am y2; have Y3 := am y3; have Y4 := am y4; have Y5 := am y5; clear x1 x2 x3 x4 x5 y1 y2 y3 y4 y5
  have HPo := am (HP.out.below HB.out); have HQo := am (HQ.out.below HB.out)
  have Z := am (show l7.length ≤ 1000000 ∧ l13.length ≤ 1000000 ∧ l18.length ≤ 1000000 ∧ l22.length ≤ 1000000 ∧ l23.length ≤ 1000000 ∧ l24.length ≤ 1000000 from Pk.sz6 HS.out.1); have Z2 := am (show ql7.length ≤ 1000000 ∧ ql13.length ≤ 1000000 ∧ ql18.length ≤ 1000000 ∧ ql22.length ≤ 1000000 ∧ ql23.length ≤ 1000000 ∧ ql24.length ≤ 1000000 from Pk.sz6 HS.out.2)
  refine wp_region_noPanic ?_
  refine wp_region_last_drew (S := fun W => Below wo.heap.size wo W) (ds := []) (by kernel_rfl) ?hS0 (fun hHeld => ?_)
  case hS0 => exact (Below.refl _ _).drew
  refine' wpAnyLast_take (i := 0) (oi := ⟨some 16, .load 29 (.tmp 2), 29, "exact.go:46", #[], none⟩) (v := _) rfl (by kernel_rfl) (by kernel_rfl) (by kernel_rfl) (by kernel_rfl) (by kernel_rfl) (fun _ _ _ h => h) (yieldsIf_load_mid (by rfl) _ _ rfl _ _ rfl _ _ ?hS1 ?hu1 ?hd1 ?hi1) hHeld ?rest1
  case hS1 => (intro w_ hSw; (try dsimp only at hSw); exact rangeAt_block (blk_below BK.out hSw))
  case hu1 => exact hu29
  case hd1 => rfl
  case hi1 => kernel_rfl
  try simp only [zp, zi, zz, zs]
  refine' wpAnyLast_take (i := 1) (oi := ⟨some 17, .load 29 (.tmp 3), 29, "exact.go:46", #[], none⟩) (v := _) rfl (by kernel_rfl) (by kernel_rfl) (by kernel_rfl) (by kernel_rfl) (by kernel_rfl) (fun _ _ _ h => h) (yieldsIf_load_mid (by rfl) _ _ rfl _ _ rfl _ _ ?hS2 ?hu2 ?hd2 ?hi2) hHeld ?rest2
  case hS2 => (intro w_ hSw; (try dsimp only at hSw); exact rangeAt_block (blk_below BQ.out hSw))
  case hu2 => exact hu29
  case hd2 => rfl
  case hi2 => kernel_rfl
  try simp only [zp, zi, zz, zs]
  refine' wpAnyLast_take (i := 3) (oi := ⟨some 19, .load 29 (.tmp 2), 29, "exact.go:46", #[], none⟩) (v := _) rfl (by kernel_rfl) (by kernel_rfl) (by kernel_rfl) (by kernel_rfl) (by kernel_rfl) (fun _ _ _ h => h) (yieldsIf_load_mid (by rfl) _ _ rfl _ _ rfl _ _ ?hS3 ?hu3 ?hd3 ?hi3) hHeld ?rest3
  case hS3 => (intro w_ hSw; (try dsimp only at hSw); exact rangeAt_block (blk_below BK.out hSw))
  case hu3 => exact hu29
  case hd3 => rfl
  case hi3 => kernel_rfl
  try simp only [zp, zi, zz, zs]
  refine' wpAnyLast_take (i := 4) (oi := ⟨some 20, .load 29 (.tmp 3), 29, "exact.go:46", #[], none⟩) (v := _) rfl (by kernel_rfl) (by kernel_rfl) (by kernel_rfl) (by kernel_rfl) (by kernel_rfl) (fun _ _ _ h => h) (yieldsIf_load_mid (by rfl) _ _ rfl _ _ rfl _ _ ?hS4 ?hu4 ?hd4 ?hi4) hHeld ?rest4
  case hS4 => (intro w_ hSw; (try dsimp only at hSw); exact rangeAt_block (blk_below BQ.out hSw))
  case hu4 => exact hu29
  case hd4 => rfl
  case hi4 => kernel_rfl
  try simp only [zp, zi, zz, zs]
  refine t1 2 (fun K hK => ?_)
  refine Rm.call_event (by rfl) 10 #[.agg #[.int .i64 a0, .int .i64 a1, .bool a2, .int .i64 a3, .string a4, .bool a5, .string a6, .slice A7 l7.length c7, .int .i64 a8, .bool a9, .bool a10, .string a11, .bool a12, .slice A13 l13.length c13, .bool a14, .int .i64 a15, .bool a16, .string a17, .slice A18 l18.length c18, .int .i64 a19, .bool a20, .int .i64 a21, .slice A22 l22.length c22, .slice A23 l23.length c23, .slice A24 l24.length c24], .agg #[.int .i64 qa0, .int .i64 qa1, .bool qa2, .int .i64 qa3, .string qa4, .bool qa5, .string qa6, .slice qA7 ql7.length qc7, .int .i64 qa8, .bool qa9, .bool qa10, .string qa11, .bool qa12, .slice qA13 ql13.length qc13, .bool qa14, .int .i64 qa15, .bool qa16, .string qa17, .slice qA18 ql18.length qc18, .int .i64 qa19, .bool qa20, .int .i64 qa21, .slice qA22 ql22.length qc22, .slice qA23 ql23.length qc23, .slice qA24 ql24.length qc24]] (by first | rfl | (go_simp; done) | (go_simp; rfl)) (Pk.Same_P a0 a1 a2 a3 a4 a5 a6 A7 c7 l7 a8 a9 a10 a11 a12 A13 c13 l13 a14 a15 a16 a17 A18 c18 l18 a19 a20 a21 A22 c22 l22 A23 c23 l23 A24 c24 l24 qa0 qa1 qa2 qa3 qa4 qa5 qa6 qA7 qc7 ql7 qa8 qa9 qa10 qa11 qa12 qA13 qc13 ql13 qa14 qa15 qa16 qa17 qA18 qc18 ql18 qa19 qa20 qa21 qA22 qc22 ql22 qA23 qc23 ql23 qA24 qc24 ql24 R _ (HPo.out.below hHeld) (HQo.out.below hHeld) (by have := HS.out; omega) X5.out) (fun e wi5_ hp => ?_)
  obtain ⟨he, hb⟩ := hp; subst he; refine ⟨_, rfl, ?_⟩; have hSn := below_step hHeld hb; clear hb
  refine hK.out _ _ hSn (fun hHeld2 => ?_)
  clear hK K hHeld hSn; have hHeld := hHeld2; clear hHeld2
  try simp only [zp, zi, zz, zs]
  refine t1 5 (fun K hK => ?_)
  refine Rm.call_event (by rfl) 8 #[.agg #[.int .i64 a0, .int .i64 a1, .bool a2, .int .i64 a3, .string a4, .bool a5, .string a6, .slice A7 l7.length c7, .int .i64 a8, .bool a9, .bool a10, .string a11, .bool a12, .slice A13 l13.length c13, .bool a14, .int .i64 a15, .bool a16, .string a17, .slice A18 l18.length c18, .int .i64 a19, .bool a20, .int .i64 a21, .slice A22 l22.length c22, .slice A23 l23.length c23, .slice A24 l24.length c24], .agg #[.int .i64 qa0, .int .i64 qa1, .bool qa2, .int .i64 qa3, .string qa4, .bool qa5, .string qa6, .slice qA7 ql7.length qc7, .int .i64 qa8, .bool qa9, .bool qa10, .string qa11, .bool qa12, .slice qA13 ql13.length qc13, .bool qa14, .int .i64 qa15, .bool qa16, .string qa17, .slice qA18 ql18.length qc18, .int .i64 qa19, .bool qa20, .int .i64 qa21, .slice qA22 ql22.length qc22, .slice qA23 ql23.length qc23, .slice qA24 ql24.length qc24]] (by first | rfl | (go_simp; done) | (go_simp; rfl)) (Pk.rSame_any a0 a1 a2 a3 a4 a5 a6 A7 c7 l7 a8 a9 a10 a11 a12 A13 c13 l13 a14 a15 a16 a17 A18 c18 l18 a19 a20 a21 A22 c22 l22 A23 c23 l23 A24 c24 l24 qa0 qa1 qa2 qa3 qa4 qa5 qa6 qA7 qc7 ql7 qa8 qa9 qa10 qa11 qa12 qA13 qc13 ql13 qa14 qa15 qa16 qa17 qA18 qc18 ql18 qa19 qa20 qa21 qA22 qc22 ql22 qA23 qc23 ql23 qA24 qc24 ql24 krW krM krB rW rM rB R _ (HPo.out.below hHeld) (HQo.out.below hHeld) X1.out X2.out X3.out X4.out (by have := Z.out.2.2.2.1; omega) (by have := Z.out.2.2.2.2.1; omega) (by have := Z.out.2.2.2.2.2; omega)) (fun e wi6_ hp => ?_)
  obtain ⟨he, hb⟩ := hp; subst he; refine ⟨_, rfl, ?_⟩; have hSn := below_step hHeld hb; clear hb
  refine hK.out _ _ hSn (fun hHeld2 => ?_)
  clear hK K hHeld hSn; have hHeld := hHeld2; clear hHeld2
  try simp only [zp, zi, zz, zs]
  refine t1 6 (fun K hK => ?_)
  refine Rm.quiet_event (v := .bool false) (by rfl) ?hq7 ?_
  case hq7 => (first | (go_simp; done) | (go_simp; simp))
  have hSn := hHeld
  refine hK.out _ _ hSn (fun hHeld2 => ?_)
  clear hK K hHeld hSn; have hHeld := hHeld2; clear hHeld2
  try simp only [zp, zi, zz, zs]
  refine tk 7 hHeld ?_
  try simp only [zp, zi, zz, zs]
  refine' wpAnyLast_take (i := 8) (oi := ⟨some 24, .load 29 (.tmp 3), 29, "exact.go:46", #[⟨7, .guard⟩], some (7, false)⟩) (v := _) rfl (by kernel_rfl) (by kernel_rfl) (by kernel_rfl) (by kernel_rfl) (by kernel_rfl) (fun _ _ _ h => h) (yieldsIf_load_mid (by rfl) _ _ rfl _ _ rfl _ _ ?hS9 ?hu9 ?hd9 ?hi9) hHeld ?rest9
  case hS9 => (intro w_ hSw; (try dsimp only at hSw); exact rangeAt_block (blk_below BQ.out hSw))
  case hu9 => exact hu29
  case hd9 => rfl
  case hi9 => kernel_rfl
  try simp only [zp, zi, zz, zs]
  refine' wpAnyLast_take (i := 9) (oi := ⟨some 25, .load 29 (.tmp 2), 29, "exact.go:46", #[⟨7, .guard⟩], some (7, false)⟩) (v := _) rfl (by kernel_rfl) (by kernel_rfl) (by kernel_rfl) (by kernel_rfl) (by kernel_rfl) (fun _ _ _ h => h) (yieldsIf_load_mid (by rfl) _ _ rfl _ _ rfl _ _ ?hS10 ?hu10 ?hd10 ?hi10) hHeld ?rest10
  case hS10 => (intro w_ hSw; (try dsimp only at hSw); exact rangeAt_block (blk_below BK.out hSw))
  case hu10 => exact hu29
  case hd10 => rfl
  case hi10 => kernel_rfl
  try simp only [zp, zi, zz, zs]
  refine' wpAnyLast_take (i := 11) (oi := ⟨some 27, .load 29 (.tmp 3), 29, "exact.go:46", #[⟨7, .guard⟩], some (7, false)⟩) (v := _) rfl (by kernel_rfl) (by kernel_rfl) (by kernel_rfl) (by kernel_rfl) (by kernel_rfl) (fun _ _ _ h => h) (yieldsIf_load_mid (by rfl) _ _ rfl _ _ rfl _ _ ?hS11 ?hu11 ?hd11 ?hi11) hHeld ?rest11
  case hS11 => (intro w_ hSw; (try dsimp only at hSw); exact rangeAt_block (blk_below BQ.out hSw))
  case hu11 => exact hu29
  case hd11 => rfl
  case hi11 => kernel_rfl
  try simp only [zp, zi, zz, zs]
  refine' wpAnyLast_take (i := 12) (oi := ⟨some 28, .load 29 (.tmp 2), 29, "exact.go:46", #[⟨7, .guard⟩], some (7, false)⟩) (v := _) rfl (by kernel_rfl) (by kernel_rfl) (by kernel_rfl) (by kernel_rfl) (by kernel_rfl) (fun _ _ _ h => h) (yieldsIf_load_mid (by rfl) _ _ rfl _ _ rfl _ _ ?hS12 ?hu12 ?hd12 ?hi12) hHeld ?rest12
  case hS12 => (intro w_ hSw; (try dsimp only at hSw); exact rangeAt_block (blk_below BK.out hSw))
  case hu12 => exact hu29
  case hd12 => rfl
  case hi12 => kernel_rfl
  try simp only [zp, zi, zz, zs]
  refine t1 10 (fun K hK => ?_)
  refine Rm.call_event (by rfl) 10 #[.agg #[.int .i64 qa0, .int .i64 qa1, .bool qa2, .int .i64 qa3, .string qa4, .bool qa5, .string qa6, .slice qA7 ql7.length qc7, .int .i64 qa8, .bool qa9, .bool qa10, .string qa11, .bool qa12, .slice qA13 ql13.length qc13, .bool qa14, .int .i64 qa15, .bool qa16, .string qa17, .slice qA18 ql18.length qc18, .int .i64 qa19, .bool qa20, .int .i64 qa21, .slice qA22 ql22.length qc22, .slice qA23 ql23.length qc23, .slice qA24 ql24.length qc24], .agg #[.int .i64 a0, .int .i64 a1, .bool a2, .int .i64 a3, .string a4, .bool a5, .string a6, .slice A7 l7.length c7, .int .i64 a8, .bool a9, .bool a10, .string a11, .bool a12, .slice A13 l13.length c13, .bool a14, .int .i64 a15, .bool a16, .string a17, .slice A18 l18.length c18, .int .i64 a19, .bool a20, .int .i64 a21, .slice A22 l22.length c22, .slice A23 l23.length c23, .slice A24 l24.length c24]] (by first | rfl | (go_simp; done) | (go_simp; rfl)) (Pk.Same_P qa0 qa1 qa2 qa3 qa4 qa5 qa6 qA7 qc7 ql7 qa8 qa9 qa10 qa11 qa12 qA13 qc13 ql13 qa14 qa15 qa16 qa17 qA18 qc18 ql18 qa19 qa20 qa21 qA22 qc22 ql22 qA23 qc23 ql23 qA24 qc24 ql24 a0 a1 a2 a3 a4 a5 a6 A7 c7 l7 a8 a9 a10 a11 a12 A13 c13 l13 a14 a15 a16 a17 A18 c18 l18 a19 a20 a21 A22 c22 l22 A23 c23 l23 A24 c24 l24 R _ (HQo.out.below hHeld) (HPo.out.below hHeld) (by have := HS.out; omega) Y5.out) (fun e wi13_ hp => ?_)
  obtain ⟨he, hb⟩ := hp; subst he; refine ⟨_, rfl, ?_⟩; have hSn := below_step hHeld hb; clear hb
  refine hK.out _ _ hSn (fun hHeld2 => ?_)
  clear hK K hHeld hSn; have hHeld := hHeld2; clear hHeld2
  try simp only [zp, zi, zz, zs]
  refine t1 13 (fun K hK => ?_)
  refine Rm.call_event (by rfl) 8 #[.agg #[.int .i64 qa0, .int .i64 qa1, .bool qa2, .int .i64 qa3, .string qa4, .bool qa5, .string qa6, .slice qA7 ql7.length qc7, .int .i64 qa8, .bool qa9, .bool qa10, .string qa11, .bool qa12, .slice qA13 ql13.length qc13, .bool qa14, .int .i64 qa15, .bool qa16, .string qa17, .slice qA18 ql18.length qc18, .int .i64 qa19, .bool qa20, .int .i64 qa21, .slice qA22 ql22.length qc22, .slice qA23 ql23.length qc23, .slice qA24 ql24.length qc24], .agg #[.int .i64 a0, .int .i64 a1, .bool a2, .int .i64 a3, .string a4, .bool a5, .string a6, .slice A7 l7.length c7, .int .i64 a8, .bool a9, .bool a10, .string a11, .bool a12, .slice A13 l13.length c13, .bool a14, .int .i64 a15, .bool a16, .string a17, .slice A18 l18.length c18, .int .i64 a19, .bool a20, .int .i64 a21, .slice A22 l22.length c22, .slice A23 l23.length c23, .slice A24 l24.length c24]] (by first | rfl | (go_simp; done) | (go_simp; rfl)) (Pk.rSame_any qa0 qa1 qa2 qa3 qa4 qa5 qa6 qA7 qc7 ql7 qa8 qa9 qa10 qa11 qa12 qA13 qc13 ql13 qa14 qa15 qa16 qa17 qA18 qc18 ql18 qa19 qa20 qa21 qA22 qc22 ql22 qA23 qc23 ql23 qA24 qc24 ql24 a0 a1 a2 a3 a4 a5 a6 A7 c7 l7 a8 a9 a10 a11 a12 A13 c13 l13 a14 a15 a16 a17 A18 c18 l18 a19 a20 a21 A22 c22 l22 A23 c23 l23 A24 c24 l24 kqW kqM kqB qW qM qB R _ (HQo.out.below hHeld) (HPo.out.below hHeld) Y1.out Y2.out Y3.out Y4.out (by have := Z2.out.2.2.2.1; omega) (by have := Z2.out.2.2.2.2.1; omega) (by have := Z2.out.2.2.2.2.2; omega)) (fun e wi14_ hp => ?_)
  obtain ⟨he, hb⟩ := hp; subst he; refine ⟨_, rfl, ?_⟩; have hSn := below_step hHeld hb; clear hb
  refine hK.out _ _ hSn (fun hHeld2 => ?_)
  clear hK K hHeld hSn; have hHeld := hHeld2; clear hHeld2
  try simp only [zp, zi, zz, zs]
  refine t1 14 (fun K hK => ?_)
  refine Rm.quiet_event (v := .bool false) (by rfl) ?hq15 ?_
  case hq15 => (first | (go_simp; done) | (go_simp; simp))
  have hSn := hHeld
  refine hK.out _ _ hSn (fun hHeld2 => ?_)
  clear hK K hHeld hSn; have hHeld := hHeld2; clear hHeld2
  try simp only [zp, zi, zz, zs]
  refine tk 15 hHeld ?_
  try simp only [zp, zi, zz, zs]
  refine tk 16 hHeld ?_
  try simp only [zp, zi, zz, zs]
  refine' wpAnyLast_take (i := 17) (oi := ⟨some 33, .load 29 (.tmp 2), 29, "exact.go:46", #[⟨16, .guard⟩], some (16, false)⟩) (v := _) rfl (by kernel_rfl) (by kernel_rfl) (by kernel_rfl) (by kernel_rfl) (by kernel_rfl) (fun _ _ _ h => h) (yieldsIf_load_mid (by rfl) _ _ rfl _ _ rfl _ _ ?hS18 ?hu18 ?hd18 ?hi18) hHeld ?rest18
  case hS18 => (intro w_ hSw; (try dsimp only at hSw); exact rangeAt_block (blk_below BK.out hSw))
  case hu18 => exact hu29
  case hd18 => rfl
  case hi18 => kernel_rfl
  try simp only [zp, zi, zz, zs]
  refine' wpAnyLast_take (i := 18) (oi := ⟨some 34, .load 29 (.tmp 2), 29, "exact.go:46", #[⟨16, .guard⟩], some (16, false)⟩) (v := _) rfl (by kernel_rfl) (by kernel_rfl) (by kernel_rfl) (by kernel_rfl) (by kernel_rfl) (fun _ _ _ h => h) (yieldsIf_load_mid (by rfl) _ _ rfl _ _ rfl _ _ ?hS19 ?hu19 ?hd19 ?hi19) hHeld ?rest19
  case hS19 => (intro w_ hSw; (try dsimp only at hSw); exact rangeAt_block (blk_below BK.out hSw))
  case hu19 => exact hu29
  case hd19 => rfl
  case hi19 => kernel_rfl
  try simp only [zp, zi, zz, zs]
  refine t1 19 (fun K hK => ?_)
  refine Rm.call_event (by rfl) 10 #[.agg #[.int .i64 a0, .int .i64 a1, .bool a2, .int .i64 a3, .string a4, .bool a5, .string a6, .slice A7 l7.length c7, .int .i64 a8, .bool a9, .bool a10, .string a11, .bool a12, .slice A13 l13.length c13, .bool a14, .int .i64 a15, .bool a16, .string a17, .slice A18 l18.length c18, .int .i64 a19, .bool a20, .int .i64 a21, .slice A22 l22.length c22, .slice A23 l23.length c23, .slice A24 l24.length c24], .agg #[.int .i64 a0, .int .i64 a1, .bool a2, .int .i64 a3, .string a4, .bool a5, .string a6, .slice A7 l7.length c7, .int .i64 a8, .bool a9, .bool a10, .string a11, .bool a12, .slice A13 l13.length c13, .bool a14, .int .i64 a15, .bool a16, .string a17, .slice A18 l18.length c18, .int .i64 a19, .bool a20, .int .i64 a21, .slice A22 l22.length c22, .slice A23 l23.length c23, .slice A24 l24.length c24]] (by first | rfl | (go_simp; done) | (go_simp; rfl)) (Pk.Same_P a0 a1 a2 a3 a4 a5 a6 A7 c7 l7 a8 a9 a10 a11 a12 A13 c13 l13 a14 a15 a16 a17 A18 c18 l18 a19 a20 a21 A22 c22 l22 A23 c23 l23 A24 c24 l24 a0 a1 a2 a3 a4 a5 a6 A7 c7 l7 a8 a9 a10 a11 a12 A13 c13 l13 a14 a15 a16 a17 A18 c18 l18 a19 a20 a21 A22 c22 l22 A23 c23 l23 A24 c24 l24 true _ (HPo.out.below hHeld) (HPo.out.below hHeld) (by have := HS.out; omega) ⟨fun _ => Pk.Alike.refl _, fun _ => rfl⟩) (fun e wi20_ hp => ?_)
  obtain ⟨he, hb⟩ := hp; subst he; refine ⟨_, rfl, ?_⟩; have hSn := below_step hHeld hb; clear hb
  refine hK.out _ _ hSn (fun hHeld2 => ?_)
  clear hK K hHeld hSn; have hHeld := hHeld2; clear hHeld2
  try simp only [zp, zi, zz, zs]
  refine tk 20 hHeld ?_
  try simp only [zp, zi, zz, zs]
  refine tk 21 hHeld ?_
  try simp only [zp, zi, zz, zs]
  refine wpAnyLast_done (by kernel_rfl) ?_ _
  refine NoPanic.normal ?_
  have n0_ := am (below_step HB.out hHeld); have n1_ := am (blk_below BK.out hHeld); clear HB BK BQ HPo HQo X1 X2 X3 X4 X5 Y1 Y2 Y3 Y4 Y5 hHeld; have HB := n0_; have BK := n1_; clear n0_ n1_
  try simp only [zp, zi, zz, zs]
  go_upto_region 6 with (first | ((with_reducible refine gate_dst (N := 39) rfl ?_); refine box_event ?hg39 (N := 39) ?hd39 (cs := #[.slice none 0 0, .slice none 0 0, .slice none 0 0, .slice none 0 0, .slice none 0 0, .slice none 0 0, .slice none 0 0, .slice none 0 0, .slice none 0 0, .slice none 0 0, .slice none 0 0, .slice none 0 0, .slice none 0 0, .slice none 0 0, .slice none 0 0, .slice none 0 0, .slice none 0 0, .slice none 0 0, .slice none 0 0, .slice none 0 0, .slice none 0 0, .slice none 0 0, .slice none 0 0, .slice none 0 0, .slice none 0 0, .slice none 0 0, .slice none 0 0, .slice none 0 0, .slice none 0 0, .slice none 0 0, .slice none 0 0, .slice none 0 0, .slice none 0 0, .slice none 0 0]) (t := 50) ?hr39 ?_; (case hd39 => rfl); (case hg39 => rfl); (case hr39 => first | (go_simp; done) | (go_simp; rfl)); intro g5 hg w5_ hbox hb; have H5 := am hbox; have G5 := am (show w.heap.size ≤ g5 by rw [hg]; exact HB.out.size); have AG := am (show ga < g5 by rw [hg]; exact blk_lt BK.out); have n0_ := am (below_step HB.out hb); have n1_ := am (blk_below BK.out hb); clear HB BK; have HB := n0_; have BK := n1_; clear n0_ n1_; clear hbox hb hg) | ((with_reducible refine gate_dst (N := 40) rfl ?_); refine val_list rfl (zBook_run _ _ _ rfl) ?_) | ((with_reducible refine gate_dst (N := 41) rfl ?_); refine box_event rfl (N := 41) rfl (cs := zBook) (t := 62) (zBook_box _ _ (.tmp 40) _ rfl rfl) ?_; intro gB hg wo hbox hb; have HZ := am hbox; have GB := am (show g5 < gB by rw [hg]; exact blk_lt H5.out); have n2_ := am (blk_below H5.out hb); have n0_ := am (below_step HB.out hb); have n1_ := am (blk_below BK.out hb); clear HB BK; have HB := n0_; have BK := n1_; clear n0_ n1_; clear H5; have H5 := n2_; clear n2_ hbox hb hg))
  try simp only [zp, zi, zz, zs]
  obtain ⟨L5, hL5⟩ : ∃ z : Nat → Nat, z = fun k => if k = g5 then 99 else if k = gB then 399 else 0 := ⟨_, rfl⟩
  have HBs : Bs w L5 wo := ⟨fun k hk => by rw [hL5]; dsimp only; have h1 := G5.out; have h2 := GB.out; rw [if_neg (by omega), if_neg (by omega)], HB.out⟩
  have HRM := am (room_nil HBs ⟨H5.out, by rw [hL5]; exact if_pos rfl⟩ G5.out)
  have L5B := am (show L5 gB = 399 by rw [hL5]; dsimp only; have h2 := GB.out; rw [if_neg (by omega), if_pos rfl])
  have L5A : Aside0 (¬ Room (L5 ga)) := ⟨by rw [hL5]; dsimp only; unfold Room; (repeat' split) <;> first | omega | (exfalso; have h1 := AG.out; omega)⟩
  clear HBs H5
  go_upto_region 7 with (first | ((with_reducible refine gate_dst (N := 43) rfl ?_); refine Pk.wpList_load_rowG (by rfl) 29 (.tmp 2) rfl ga rfl 29 #[.int .i64 a0, .int .i64 a1, .bool a2, .int .i64 a3, .string a4, .bool a5, .string a6, .slice A7 l7.length c7, .int .i64 a8, .bool a9, .bool a10, .string a11, .bool a12, .slice A13 l13.length c13, .bool a14, .int .i64 a15, .bool a16, .string a17, .slice A18 l18.length c18, .int .i64 a19, .bool a20, .int .i64 a21, .slice A22 l22.length c22, .slice A23 l23.length c23, .slice A24 l24.length c24] (0, 0) _ BK.out hu29 rfl (by kernel_rfl) ?_) | (go_at_call 6; (refine (PacketW_calls L5 w.heap.size g5 0 ⟨a0, a1, a2, a3, a4, a5, ⟨a6, l7, a8, a9⟩, a10, a11, a12, l13, a14, a15, a16, ⟨a17, l18, a19, a20⟩, a21, l22, l23, l24⟩ A7 c7 A13 c13 A18 c18 A22 c22 A23 c23 A24 c24 w _ _ _ HRM.out HB.out (Nat.le_refl _) HP.out.r7 HP.out.r13 HP.out.r18 HP.out.r22 HP.out.r23 HP.out.r24 HP.out.k7 HP.out.k13 HP.out.k18 HP.out.k22 HP.out.k23 HP.out.k24 (by show l7.length ≤ _; have := Z.out; omega) (by show l13.length ≤ _; have := Z.out; omega) (by show l18.length ≤ _; have := Z.out; omega) (by show l22.length ≤ _; have := Z.out; omega) (by show l23.length ≤ _; have := Z.out; omega) (by show l24.length ≤ _; have := Z.out; omega) (by omega)).mono ?_; rintro e w6_ ⟨Lp, Np, csp, Dp, b7, b13, b18, b22, b23, b24, rfl, hA, hM, hO, hb, hF, hMo, hc, m7, m13, m18, m22, m23, m24⟩; have n0_ := am hA; have HNp := am hM; have n2_ := am hb; have FX := am hF; have HCH := am hc; have n3_ := am ((hO.keep gB (blk_lt HZ.out) (by rw [L5B.out]; unfold Room; omega)).trans HZ.out); have HLB := am ((hO.lab gB (blk_lt HZ.out)).trans L5B.out); have ZB := am (blk_lt HZ.out); clear HRM HB HZ BK L5A L5B; have HRM := n0_; have HB := n2_; have HZ := n3_; have M7 := am m7; have M13 := am m13; have M18 := am m18; have M22 := am m22; have M23 := am m23; have M24 := am m24; clear n0_ n2_ n3_ hA hM hb hF hc hO hMo m7 m13 m18 m22 m23 m24)) | ((with_reducible refine gate_dst (N := 7) rfl ?_); refine box_event ?hg7 (N := 7) ?hd7 (cs := #[.int .i64 0, .int .i64 0, .bool false, .int .i64 0, .string ⟨#[]⟩, .bool false, .string ⟨#[]⟩, .slice none 0 0, .int .i64 0, .bool false, .bool false, .string ⟨#[]⟩, .bool false, .slice none 0 0, .bool false, .int .i64 0, .bool false, .string ⟨#[]⟩, .slice none 0 0, .int .i64 0, .bool false, .int .i64 0, .slice none 0 0, .slice none 0 0, .slice none 0 0]) (t := 29) ?hr7 ?_; (case hd7 => rfl); (case hg7 => rfl); (case hr7 => first | (go_simp; done) | (go_simp; rfl)); intro g7 hg w7_ hbox hb; have B7_ := am hbox; have G7 := am (show w6_.heap.size ≤ g7 by rw [hg]; exact Nat.le_refl _); have HV := am hb; clear hbox hb hg) | ((with_reducible refine gate_st (y := .tmp 44) rfl ?_); (refine ev_store rfl rfl 29 (.tmp 7) (.tmp 44) rfl g7 0 rfl 29 _ _ B7_.out rfl (by kernel_rfl) (Nat.le_of_ble_eq_true rfl) rfl ?_; intro w8 hx hk)))
  try simp only [zp, zi, zz, zs]
  have hx2 : w8.heap[g7]? = some (.cells #[.int .i64 a0, .int .i64 a1, .bool a2, .int .i64 a3, .string a4, .bool a5, .string a6, .slice (some ⟨b7, 0, none⟩) l7.length (l7.length + 600), .int .i64 a8, .bool a9, .bool a10, .string a11, .bool a12, .slice (some ⟨b13, 0, none⟩) l13.length (l13.length + 600), .bool a14, .int .i64 a15, .bool a16, .string a17, .slice (some ⟨b18, 0, none⟩) l18.length (l18.length + 600), .int .i64 a19, .bool a20, .int .i64 a21, .slice (some ⟨b22, 0, none⟩) l22.length (l22.length + 40), .slice (some ⟨b23, 0, none⟩) l23.length (l23.length + 40), .slice (some ⟨b24, 0, none⟩) l24.length (l24.length + 40)] 29 (0, 0)) := hx.trans (congrArg (fun z_ => some (Obj.cells z_ 29 (0, 0))) (by kernel_rfl))
  have hb8 : Below w6_.heap.size w6_ w8 := hk.below HV.out G7.out
  have H7 := am hx2; have n0_ := am (HRM.out.below hb8); have n1_ := am (below_step HB.out hb8); have n2_ := am (blk_below HZ.out hb8); have HCC := am (FX.out _ _ (Soft.below hb8)); have S8 := am hb8.size; clear HRM HB HZ FX HV B7_ hx hx2 hk hb8; have HRM := n0_; have HB := n1_; have HZ := n2_; clear n0_ n1_ n2_
  have HBD := am (Pk.sz24 HS.out.1)
  obtain ⟨tl7, tl13, tl18, tl22, tl23, tl24, hi6⟩ := in6_start (gB := gB) (bd := 900000) HRM.out (by have h1 := HCH.out; have h2 := ZB.out; omega) M7.out M13.out M18.out M22.out M23.out M24.out HCC.out (by have := Z.out; omega) (by have := Z.out; omega) (by have := Z.out; omega) (by have := Z.out; omega) (by have := Z.out; omega) (by have := Z.out; omega) HBD.out
  have HI6 := am hi6; clear hi6 HCC HBD
  have HCQ := am (show w.heap.size ≤ g5 ∧ g5 < gB ∧ gB < b7 ∧ b7 < b18 ∧ b18 < b13 ∧ b13 < b22 ∧ b22 < b23 ∧ b23 < b24 ∧ b24 < g7 by have h1 := HCH.out; have h2 := ZB.out; have h3 := G5.out; have h4 := GB.out; have h5 := G7.out; omega)
  have HK : Aside0 (Keep w.heap.size w w8 (lab6 gB b7 b13 b18 b22 b23 b24) (lab6 gB b7 b13 b18 b22 b23 b24) w8) := ⟨⟨Nat.le_refl _, fun k hk e => ⟨rfl, e⟩, s3_below HB.out, HB.out, HB.out.size, fun k hk => by have h1 := HCQ.out; unfold lab6; (repeat' split) <;> omega⟩⟩
  have L67 := am (show (lab6 gB b7 b13 b18 b22 b23 b24) g7 = 0 by have h1 := HCQ.out; unfold lab6; (repeat' split) <;> omega)
  clear HP HQ HF HF2 HY HY2 HS Z2 HCH ZB
  obtain ⟨n7, hn7⟩ : ∃ n, n = l7.length := ⟨_, rfl⟩; rw [← hn7] at H7 HI6 M7 Z; clear hn7
  obtain ⟨n13, hn13⟩ : ∃ n, n = l13.length := ⟨_, rfl⟩; rw [← hn13] at H7 HI6 M13 Z; clear hn13
  obtain ⟨n18, hn18⟩ : ∃ n, n = l18.length := ⟨_, rfl⟩; rw [← hn18] at H7 HI6 M18 Z; clear hn18
  obtain ⟨n22, hn22⟩ : ∃ n, n = l22.length := ⟨_, rfl⟩; rw [← hn22] at H7 HI6 M22 Z; clear hn22
  obtain ⟨n23, hn23⟩ : ∃ n, n = l23.length := ⟨_, rfl⟩; rw [← hn23] at H7 HI6 M23 Z; clear hn23
  obtain ⟨n24, hn24⟩ : ∃ n, n = l24.length := ⟨_, rfl⟩; rw [← hn24] at H7 HI6 M24 Z; clear hn24
  have HQ0 : Aside0 (Bq w.heap.size gB (fun L W => Keep w.heap.size w w8 (lab6 gB b7 b13 b18 b22 b23 b24) L W ∧ In6 b7 n7 b13 n13 b18 n18 b22 n22 b23 n23 b24 n24 tl7 tl13 tl18 tl22 tl23 tl24 (900000 + 0 * 1000000) L W) 0 0 (fun _ => 0) (lab6 gB b7 b13 b18 b22 b23 b24) w8 0 zBook (fun _ => []) Kq.nil Kq.nil Kq.nil Kq.nil) := ⟨Bq.zero HZ.out (if_pos rfl) (by have h1 := HCQ.out; omega) rfl zBook_slot zBook_sc ⟨HK.out, HI6.out.more (by omega)⟩⟩
  have HEE : ∀ m : Nat, Aside0 (Stb Ya (fun L W => Keep w.heap.size w w8 (lab6 gB b7 b13 b18 b22 b23 b24) L W ∧ In6 b7 n7 b13 n13 b18 n18 b22 n22 b23 n23 b24 n24 tl7 tl13 tl18 tl22 tl23 tl24 (900000 + m * 1000000) L W)) := fun m => ⟨Stb.and (Keep.stb ya_0) (In6.stb ya_spl)⟩
  have HTE : ∀ m : Nat, Aside0 (∀ L W, (fun L W => Keep w.heap.size w w8 (lab6 gB b7 b13 b18 b22 b23 b24) L W ∧ In6 b7 n7 b13 n13 b18 n18 b22 n22 b23 n23 b24 n24 tl7 tl13 tl18 tl22 tl23 tl24 (900000 + m * 1000000) L W) L W → Lib.TabIs Tryz.prog W "internal/strconv.uint64pow10" .u64 Lib.pow10Tab) := fun m => ⟨fun L W h => Lib.tabBelow_of_tabIs HT.out _ h.1.below⟩
  clear HK HZ HB
  go_wp2
  go_loopw [8] (fun i wr => ∃ k : Nat, k ≤ 3 ∧ i = .int .i64 k ∧ Aside0 (∃ L cs D q0 q1 q2 q4 seen, Bq w.heap.size gB (fun L W => Keep w.heap.size w w8 (lab6 gB b7 b13 b18 b22 b23 b24) L W ∧ In6 b7 n7 b13 n13 b18 n18 b22 n22 b23 n23 b24 n24 tl7 tl13 tl18 tl22 tl23 tl24 (900000 + k * 1000000) L W) k 0 seen L wr (24 * k) cs D q0 q1 q2 q4 ∧ (q0.fs = [] ∧ q0.fr = [] ∧ q1.fs = [] ∧ q1.fr = [] ∧ q2.fs = [] ∧ q2.fr = [] ∧ q4.fs = [] ∧ q4.fr = []) ∧ ∀ j, 0 ≤ seen j ∧ seen j ≤ 6 * (k : Int))) (fun i _ => 3 - (intOf i).toNat)
  case atStart => exact ⟨0, by omega, rfl, ⟨_, _, _, _, _, _, _, _, HQ0.out, ⟨rfl, rfl, rfl, rfl, rfl, rfl, rfl, rfl⟩, fun j => ⟨by decide, by decide⟩⟩⟩
  case round =>
   clear HQ0
   obtain ⟨k, hk, rfl, hq_⟩ := hrel
   obtain ⟨wo, hwo⟩ : ∃ x, x = wr := ⟨_, rfl⟩; subst hwo
   by_cases hlt : k < 3
   ·skip
    obtain ⟨L, cs, D, q0, q1, q2, q4, seen, hB, hf, hs⟩ := hq_.out
    obtain ⟨hkp, x7, x13, x18, x22, x23, x24, i7, i13, i18, i22, i23, i24, hby⟩ := hB.ext
    obtain rfl : x7.length = n7 := i7.len
    obtain rfl : x13.length = n13 := i13.len
    obtain rfl : x18.length = n18 := i18.len
    obtain rfl : x22.length = n22 := i22.len
    obtain rfl : x23.length = n23 := i23.len
    obtain rfl : x24.length = n24 := i24.len
    have HQK := am hB; have W0 := am hkp.below.size; have HFS := am hf; have HSN := am hs; have C7 := am (hkp.blk H7.out L67.out)
    have HRI : Aside0 (Pk.Rd wo (some ⟨b7, 0, none⟩) (x7.length + 600) x7 (some ⟨b13, 0, none⟩) (x13.length + 600) x13 (some ⟨b18, 0, none⟩) (x18.length + 600) x18 (some ⟨b22, 0, none⟩) (x22.length + 40) x22 (some ⟨b23, 0, none⟩) (x23.length + 40) x23 (some ⟨b24, 0, none⟩) (x24.length + 40) x24) := ⟨⟨i7.C_, by omega, i13.C_, by omega, i18.C_, by omega, i22.C_, by omega, i23.C_, by omega, i24.C_, by omega⟩⟩
    have HBO := am (Below.refl wo.heap.size wo); have HLT := am hlt
    clear hq_ hB hf hs hkp i7 i13 i18 i22 i23 i24 hby hlt hk
    have hlt_ : (k : Int) < 3 := by have := HLT.out; omega
    go_upto_region 11 with (first | ((with_reducible refine gate_dst (N := 49) rfl ?_); refine Pk.wpList_load_rowG (by rfl) 29 (.tmp 7) rfl g7 rfl 29 #[.int .i64 a0, .int .i64 a1, .bool a2, .int .i64 a3, .string a4, .bool a5, .string a6, .slice (some ⟨b7, 0, none⟩) x7.length (x7.length + 600), .int .i64 a8, .bool a9, .bool a10, .string a11, .bool a12, .slice (some ⟨b13, 0, none⟩) x13.length (x13.length + 600), .bool a14, .int .i64 a15, .bool a16, .string a17, .slice (some ⟨b18, 0, none⟩) x18.length (x18.length + 600), .int .i64 a19, .bool a20, .int .i64 a21, .slice (some ⟨b22, 0, none⟩) x22.length (x22.length + 40), .slice (some ⟨b23, 0, none⟩) x23.length (x23.length + 40), .slice (some ⟨b24, 0, none⟩) x24.length (x24.length + 40)] (0, 0) _ C7.out hu29 rfl (by kernel_rfl) ?_) | (go_at_call 11; (refine (rCopy_calls a0 a1 a2 a3 a4 a5 a6 (some ⟨b7, 0, none⟩) (x7.length + 600) x7 a8 a9 a10 a11 a12 (some ⟨b13, 0, none⟩) (x13.length + 600) x13 a14 a15 a16 a17 (some ⟨b18, 0, none⟩) (x18.length + 600) x18 a19 a20 a21 (some ⟨b22, 0, none⟩) (x22.length + 40) x22 (some ⟨b23, 0, none⟩) (x23.length + 40) x23 (some ⟨b24, 0, none⟩) (x24.length + 40) x24 _ (HRI.out.below HBO.out) (by have := Z.out; omega) (by have := Z.out; omega) (by have := Z.out; omega) (by have := Z.out; omega) (by have := Z.out; omega) (by have := Z.out; omega)).mono ?_; rintro e w1_ ⟨B7, d7, B13, d13, B18, d18, B22, d22, B23, d23, B24, d24, rfl, hn, hb⟩; have n0_ := am (below_step HBO.out hb); have n1_ := am (blk_below C7.out hb); clear HBO C7; have HBO := n0_; have C7 := n1_; clear n0_ n1_; have HN := am hn; clear hn hb)) | ((with_reducible refine gate_dst (N := 9) rfl ?_); refine box_event ?hg9 (N := 9) ?hd9 (cs := #[.int .i64 0, .int .i64 0, .bool false, .int .i64 0, .string ⟨#[]⟩, .bool false, .string ⟨#[]⟩, .slice none 0 0, .int .i64 0, .bool false, .bool false, .string ⟨#[]⟩, .bool false, .slice none 0 0, .bool false, .int .i64 0, .bool false, .string ⟨#[]⟩, .slice none 0 0, .int .i64 0, .bool false, .int .i64 0, .slice none 0 0, .slice none 0 0, .slice none 0 0]) (t := 29) ?hr9 ?_; (case hd9 => rfl); (case hg9 => rfl); (case hr9 => first | (go_simp; done) | (go_simp; rfl)); intro g9 hg w2_ hbox hb; have GX := am hbox; have NX := am (show w1_.heap.size ≤ g9 by rw [hg]; exact Nat.le_refl _); have HV := am hb; clear hbox hb hg) | ((with_reducible refine gate_st (y := .tmp 50) rfl ?_); (refine ev_store rfl rfl 29 (.tmp 9) (.tmp 50) rfl g9 0 rfl 29 _ _ GX.out rfl (by kernel_rfl) (Nat.le_of_ble_eq_true rfl) rfl ?_; intro w4_ hx hk)))
    try simp only [zp, zi, zz, zs]
    have hx2 : w4_.heap[g9]? = some (.cells #[.int .i64 a0, .int .i64 a1, .bool a2, .int .i64 a3, .string a4, .bool a5, .string a6, .slice B7 x7.length d7, .int .i64 a8, .bool a9, .bool a10, .string a11, .bool a12, .slice B13 x13.length d13, .bool a14, .int .i64 a15, .bool a16, .string a17, .slice B18 x18.length d18, .int .i64 a19, .bool a20, .int .i64 a21, .slice B22 x22.length d22, .slice B23 x23.length d23, .slice B24 x24.length d24] 29 (0, 0)) := hx.trans (congrArg (fun z_ => some (Obj.cells z_ 29 (0, 0))) (by kernel_rfl))
    have hb : Below w1_.heap.size w1_ w4_ := hk.below HV.out NX.out
    have n0_ := am (below_step HBO.out hb); have n1_ := am (blk_below C7.out hb); clear HBO C7; have HBO := n0_; have C7 := n1_; clear n0_ n1_; have n2_ := am (HN.out.below hb); clear HN; have HN := n2_; clear n2_; have G9 := am hx2; clear hx hx2 hk HV NX GX hb
    go_upto_region 12 with (first | ((with_reducible refine gate_dst (N := 51) rfl ?_); refine Pk.wpList_load_rowG (by rfl) 29 (.tmp 7) rfl g7 rfl 29 #[.int .i64 a0, .int .i64 a1, .bool a2, .int .i64 a3, .string a4, .bool a5, .string a6, .slice (some ⟨b7, 0, none⟩) x7.length (x7.length + 600), .int .i64 a8, .bool a9, .bool a10, .string a11, .bool a12, .slice (some ⟨b13, 0, none⟩) x13.length (x13.length + 600), .bool a14, .int .i64 a15, .bool a16, .string a17, .slice (some ⟨b18, 0, none⟩) x18.length (x18.length + 600), .int .i64 a19, .bool a20, .int .i64 a21, .slice (some ⟨b22, 0, none⟩) x22.length (x22.length + 40), .slice (some ⟨b23, 0, none⟩) x23.length (x23.length + 40), .slice (some ⟨b24, 0, none⟩) x24.length (x24.length + 40)] (0, 0) _ C7.out hu29 rfl (by kernel_rfl) ?_) | (go_at_call 12; (refine (Pk.Copy_calls a0 a1 a2 a3 a4 a5 a6 (some ⟨b7, 0, none⟩) (x7.length + 600) x7 a8 a9 a10 a11 a12 (some ⟨b13, 0, none⟩) (x13.length + 600) x13 a14 a15 a16 a17 (some ⟨b18, 0, none⟩) (x18.length + 600) x18 a19 a20 a21 (some ⟨b22, 0, none⟩) (x22.length + 40) x22 (some ⟨b23, 0, none⟩) (x23.length + 40) x23 (some ⟨b24, 0, none⟩) (x24.length + 40) x24 _ (HRI.out.below HBO.out) (by have := Z.out; omega)).mono ?_; rintro e w5_ ⟨E7, e7, E13, e13, E18, e18, E22, e22, E23, e23, E24, e24, rfl, hn, hr, hb⟩; have NW := am (show wo.heap.size ≤ w4_.heap.size from HBO.out.size); have n0_ := am (below_step HBO.out hb); have n1_ := am (blk_below C7.out hb); clear HBO C7; have HBO := n0_; have C7 := n1_; clear n0_ n1_; have n2_ := am (HN.out.below hb); clear HN; have HN := n2_; clear n2_; have n3_ := am (blk_below G9.out hb); clear G9; have G9 := n3_; clear n3_; have HC := am hn; obtain ⟨r7, r13, r18, r22, r23, r24, p1, p2, p3⟩ := hr; have R7 := am r7; have R13 := am r13; have R18 := am r18; have R22 := am r22; have R23 := am r23; have R24 := am r24; have P1 := am p1; have P2 := am p2; have P3 := am p3; clear hn hb r7 r13 r18 r22 r23 r24 p1 p2 p3)) | ((with_reducible refine gate_dst (N := 10) rfl ?_); refine box_event ?hg10 (N := 10) ?hd10 (cs := #[.int .i64 0, .int .i64 0, .bool false, .int .i64 0, .string ⟨#[]⟩, .bool false, .string ⟨#[]⟩, .slice none 0 0, .int .i64 0, .bool false, .bool false, .string ⟨#[]⟩, .bool false, .slice none 0 0, .bool false, .int .i64 0, .bool false, .string ⟨#[]⟩, .slice none 0 0, .int .i64 0, .bool false, .int .i64 0, .slice none 0 0, .slice none 0 0, .slice none 0 0]) (t := 29) ?hr10 ?_; (case hd10 => rfl); (case hg10 => rfl); (case hr10 => first | (go_simp; done) | (go_simp; rfl)); intro g10 hg w6_ hbox hb; have GX := am hbox; have NX := am (show w5_.heap.size ≤ g10 by rw [hg]; exact Nat.le_refl _); have HV := am hb; clear hbox hb hg) | ((with_reducible refine gate_st (y := .tmp 52) rfl ?_); (refine ev_store rfl rfl 29 (.tmp 10) (.tmp 52) rfl g10 0 rfl 29 _ _ GX.out rfl (by kernel_rfl) (Nat.le_of_ble_eq_true rfl) rfl ?_; intro w8_ hx hk)))
    try simp only [zp, zi, zz, zs]
    have hx2 : w8_.heap[g10]? = some (.cells #[.int .i64 a0, .int .i64 a1, .bool a2, .int .i64 a3, .string a4, .bool a5, .string a6, .slice E7 x7.length e7, .int .i64 a8, .bool a9, .bool a10, .string a11, .bool a12, .slice E13 x13.length e13, .bool a14, .int .i64 a15, .bool a16, .string a17, .slice E18 x18.length e18, .int .i64 a19, .bool a20, .int .i64 a21, .slice E22 x22.length e22, .slice E23 x23.length e23, .slice E24 x24.length e24] 29 (0, 0)) := hx.trans (congrArg (fun z_ => some (Obj.cells z_ 29 (0, 0))) (by kernel_rfl))
    have hb : Below w5_.heap.size w5_ w8_ := hk.below HV.out NX.out
    have n0_ := am (below_step HBO.out hb); have n1_ := am (blk_below C7.out hb); clear HBO C7; have HBO := n0_; have C7 := n1_; clear n0_ n1_; have n2_ := am (HN.out.below hb); clear HN; have HN := n2_; clear n2_; have n3_ := am (blk_below G9.out hb); clear G9; have G9 := n3_; clear n3_; have m_ := am (HC.out.below hb); clear HC; have HC := m_; clear m_; have m_ := am (Kd.R_below R7.out hb); clear R7; have R7 := m_; clear m_; have m_ := am (Kd.R_below R13.out hb); clear R13; have R13 := m_; clear m_; have m_ := am (Kd.R_below R18.out hb); clear R18; have R18 := m_; clear m_; have m_ := am (Kd.R_below R22.out hb); clear R22; have R22 := m_; clear m_; have m_ := am (Kd.R_below R23.out hb); clear R23; have R23 := m_; clear m_; have m_ := am (Kd.R_below R24.out hb); clear R24; have R24 := m_; clear m_; have G10 := am hx2; clear hx hx2 hk HV NX GX hb
    have HB8 := am (Below.refl w8_.heap.size w8_)
    go_upto_region 14 with (first | ((with_reducible refine gate_dst (N := 53) rfl ?_); refine Pk.wpList_load_rowG (by rfl) 29 (.tmp 10) rfl g10 rfl 29 #[.int .i64 a0, .int .i64 a1, .bool a2, .int .i64 a3, .string a4, .bool a5, .string a6, .slice E7 x7.length e7, .int .i64 a8, .bool a9, .bool a10, .string a11, .bool a12, .slice E13 x13.length e13, .bool a14, .int .i64 a15, .bool a16, .string a17, .slice E18 x18.length e18, .int .i64 a19, .bool a20, .int .i64 a21, .slice E22 x22.length e22, .slice E23 x23.length e23, .slice E24 x24.length e24] (0, 0) _ (blk_below G10.out HB8.out) hu29 rfl (by kernel_rfl) ?_) | ((with_reducible refine gate_dst (N := 54) rfl ?_); refine Pk.wpList_load_rowG (by rfl) 29 (.tmp 9) rfl g9 rfl 29 #[.int .i64 a0, .int .i64 a1, .bool a2, .int .i64 a3, .string a4, .bool a5, .string a6, .slice B7 x7.length d7, .int .i64 a8, .bool a9, .bool a10, .string a11, .bool a12, .slice B13 x13.length d13, .bool a14, .int .i64 a15, .bool a16, .string a17, .slice B18 x18.length d18, .int .i64 a19, .bool a20, .int .i64 a21, .slice B22 x22.length d22, .slice B23 x23.length d23, .slice B24 x24.length d24] (0, 0) _ (blk_below G9.out HB8.out) hu29 rfl (by kernel_rfl) ?_) | ((with_reducible refine gate_dst (N := 58) rfl ?_); refine Pk.wpList_load_rowG (by rfl) 29 (.tmp 7) rfl g7 rfl 29 #[.int .i64 a0, .int .i64 a1, .bool a2, .int .i64 a3, .string a4, .bool a5, .string a6, .slice (some ⟨b7, 0, none⟩) x7.length (x7.length + 600), .int .i64 a8, .bool a9, .bool a10, .string a11, .bool a12, .slice (some ⟨b13, 0, none⟩) x13.length (x13.length + 600), .bool a14, .int .i64 a15, .bool a16, .string a17, .slice (some ⟨b18, 0, none⟩) x18.length (x18.length + 600), .int .i64 a19, .bool a20, .int .i64 a21, .slice (some ⟨b22, 0, none⟩) x22.length (x22.length + 40), .slice (some ⟨b23, 0, none⟩) x23.length (x23.length + 40), .slice (some ⟨b24, 0, none⟩) x24.length (x24.length + 40)] (0, 0) _ (blk_below C7.out HB8.out) hu29 rfl (by kernel_rfl) ?_) | ((with_reducible refine gate_dst (N := 59) rfl ?_); refine Pk.wpList_load_rowG (by rfl) 29 (.tmp 9) rfl g9 rfl 29 #[.int .i64 a0, .int .i64 a1, .bool a2, .int .i64 a3, .string a4, .bool a5, .string a6, .slice B7 x7.length d7, .int .i64 a8, .bool a9, .bool a10, .string a11, .bool a12, .slice B13 x13.length d13, .bool a14, .int .i64 a15, .bool a16, .string a17, .slice B18 x18.length d18, .int .i64 a19, .bool a20, .int .i64 a21, .slice B22 x22.length d22, .slice B23 x23.length d23, .slice B24 x24.length d24] (0, 0) _ (blk_below G9.out HB8.out) hu29 rfl (by kernel_rfl) ?_) | (go_at_call_of 8 E7; (refine (Pk.rSame_eq a0 a1 a2 a3 a4 a5 a6 E7 e7 x7 a8 a9 a10 a11 a12 E13 e13 x13 a14 a15 a16 a17 E18 e18 x18 a19 a20 a21 E22 e22 x22 E23 e23 x23 E24 e24 x24 B7 d7 B13 d13 B18 d18 B22 d22 B23 d23 B24 d24 _ (HC.out.below HB8.out) (HN.out.below HB8.out) (by have := Z.out; omega) (by have := Z.out; omega) (by have := Z.out; omega) (by have := Z.out; omega) (by have := Z.out; omega) (by have := Z.out; omega)).mono ?_; rintro e x_ ⟨rfl, hb⟩; have m_ := am (below_step HB8.out hb); clear HB8 hb; have HB8 := m_; clear m_)) | (go_at_call_of 8 b7; (refine (Pk.rSame_eq a0 a1 a2 a3 a4 a5 a6 (some ⟨b7, 0, none⟩) (x7.length + 600) x7 a8 a9 a10 a11 a12 (some ⟨b13, 0, none⟩) (x13.length + 600) x13 a14 a15 a16 a17 (some ⟨b18, 0, none⟩) (x18.length + 600) x18 a19 a20 a21 (some ⟨b22, 0, none⟩) (x22.length + 40) x22 (some ⟨b23, 0, none⟩) (x23.length + 40) x23 (some ⟨b24, 0, none⟩) (x24.length + 40) x24 B7 d7 B13 d13 B18 d18 B22 d22 B23 d23 B24 d24 _ ((HRI.out.below HBO.out).below HB8.out) (HN.out.below HB8.out) (by have := Z.out; omega) (by have := Z.out; omega) (by have := Z.out; omega) (by have := Z.out; omega) (by have := Z.out; omega) (by have := Z.out; omega)).mono ?_; rintro e x_ ⟨rfl, hb⟩; have m_ := am (below_step HB8.out hb); clear HB8 hb; have HB8 := m_; clear m_)))
    have HBX := am (below_step HBO.out HB8.out)
    go_upto_region 15 with (first | ((with_reducible refine gate_dst (N := 64) rfl ?_); refine Pk.wpList_load_rowG (by rfl) 29 (.tmp 10) rfl g10 rfl 29 #[.int .i64 a0, .int .i64 a1, .bool a2, .int .i64 a3, .string a4, .bool a5, .string a6, .slice E7 x7.length e7, .int .i64 a8, .bool a9, .bool a10, .string a11, .bool a12, .slice E13 x13.length e13, .bool a14, .int .i64 a15, .bool a16, .string a17, .slice E18 x18.length e18, .int .i64 a19, .bool a20, .int .i64 a21, .slice E22 x22.length e22, .slice E23 x23.length e23, .slice E24 x24.length e24] (0, 0) _ (blk_below G10.out HB8.out) hu29 rfl (by kernel_rfl) ?_) | (go_at_call 13; (refine (round_packet a0 a1 a2 a3 a4 a5 a6 E7 e7 x7 a8 a9 a10 a11 a12 E13 e13 x13 a14 a15 a16 a17 E18 e18 x18 a19 a20 a21 E22 e22 x22 E23 e23 x23 E24 e24 x24 _ HQK.out HFS.out HSN.out HLT.out (HEE k).out (HTE k).out W0.out NW.out HBX.out (HC.out.below HB8.out) (Kd.R_below R7.out HB8.out) (Kd.R_below R13.out HB8.out) (Kd.R_below R18.out HB8.out) (Kd.R_below R22.out HB8.out) (Kd.R_below R23.out HB8.out) (Kd.R_below R24.out HB8.out) P1.out P2.out P3.out Z.out).mono ?_; rintro e wp_ ⟨rfl, L1, cs1, D1, r0, r1, r2, r4, se1, hb, hf, hs⟩; have HQN := am hb; have HFN := am hf; have HSM := am hs; clear hb hf hs)))
    clear HQK HFS HSN HBX HB8 HC HN G9 G10 HRI HBO C7 NW P1 P2 P3 R7 R13 R18 R22 R23 R24
    go_upto_region 17 with (go_at_call 14; (refine (Bq.Hold HQN.out (HEE k).out (by have := HLT.out; omega)).mono ?_; rintro e wh_ ⟨rfl, hb⟩; have HQH := am (HQN.out.new (HEE k).out 0 hb); clear hb))
    clear HQN; generalize lab1 L1 wp_.heap.size 0 = L2 at HQH
    have C7 := am (HQH.out.ext.1.blk H7.out L67.out)
    rcases Nat.eq_zero_or_pos k with hk0 | hk0
    ·have hk1 : ¬ (0 : Int) < (k : Int) := by omega
     clear hk0; go_wp2
     go_roundw
     case rel => exact ⟨k + 1, by have := HLT.out; omega, by go_num, ⟨_, cs1, D1, r0, r1, r2, r4, se1, round_plain HQH.out, HFN.out, HSM.out⟩⟩
     case measure => have := HLT.out; simp [intOf]; omega
    ·have hk1 : (0 : Int) < (k : Int) := by omega
     clear hk0; go_wp2_with (first | ((with_reducible refine gate_dst (N := 74) rfl ?_); refine Pk.wpList_load_rowG (by rfl) 29 (.tmp 7) rfl g7 rfl 29 #[.int .i64 a0, .int .i64 a1, .bool a2, .int .i64 a3, .string a4, .bool a5, .string a6, .slice (some ⟨b7, 0, none⟩) x7.length (x7.length + 600), .int .i64 a8, .bool a9, .bool a10, .string a11, .bool a12, .slice (some ⟨b13, 0, none⟩) x13.length (x13.length + 600), .bool a14, .int .i64 a15, .bool a16, .string a17, .slice (some ⟨b18, 0, none⟩) x18.length (x18.length + 600), .int .i64 a19, .bool a20, .int .i64 a21, .slice (some ⟨b22, 0, none⟩) x22.length (x22.length + 40), .slice (some ⟨b23, 0, none⟩) x23.length (x23.length + 40), .slice (some ⟨b24, 0, none⟩) x24.length (x24.length + 40)] (0, 0) _ C7.out hu29 rfl (by kernel_rfl) ?_) | (go_at_call 15; (refine (round_spoil a0 a1 a2 a3 a4 a5 a6 (x7.length + 600) a8 a9 a10 a11 a12 (x13.length + 600) a14 a15 a16 a17 (x18.length + 600) a19 a20 a21 (x22.length + 40) (x23.length + 40) (x24.length + 40) HQH.out HLT.out (by have := Z.out; omega)).mono ?_; rintro e ws_ ⟨rfl, L3, hb⟩; have HQS := am hb; clear hb)))
     go_roundw
     case rel => exact ⟨k + 1, by have := HLT.out; omega, by go_num, ⟨_, cs1, D1, r0, r1, r2, r4, se1, HQS.out, HFN.out, HSM.out⟩⟩
     case measure => have := HLT.out; simp [intOf]; omega
   ·obtain rfl : k = 3 := by omega
    obtain ⟨L, cs, D, q0, q1, q2, q4, seen, hB, hf, hs⟩ := hq_.out
    have HX := am hB.ext; have HRB := am (room_back HRM.out HLB.out M7.out M13.out M18.out M22.out M23.out M24.out HI6.out hB.ext.2 hB.ext.1); clear hB hf hs hq_
    go_wp2_with (go_at_call 9; (refine (rHold_calls Lp w.heap.size g5 Np _ csp Dp HRB.out (by have := HNp.out; omega)).mono ?_; rintro e x_ ⟨rfl, hb⟩; have HLAST := am (below_step HX.out.1.below hb); clear hb))
    go_ret
    exact ⟨rfl, HLAST.out⟩
end Go.Proofs.YtndhkgfeknkfdaaGreatDoor.Rm
